/- Fl2: walks of functions of the program, each over the rules of Sx. No conditions but those in the theorems' heads. -/
import Derived.Test.YtmeimjpjelmchaaFl
import Derived.Test.YtmeimjpjelmchaaProg
set_option linter.unusedVariables false
set_option linter.unusedSimpArgs false
namespace Go.Proofs.Ytmeimjpjelmchaa
open Go.RowKit Go.Sx
namespace Fl2
theorem el_60 : elI Try.prog 60 = some (none, 3, false, 1) := by kernel_rfl
theorem fld_34_2 : fldI Try.prog 34 2 = some (2, false, 1) := by kernel_rfl
theorem fld_57_0 : fldI Try.prog 57 0 = some (0, false, 1) := by kernel_rfl
theorem fld_57_1 : fldI Try.prog 57 1 = some (1, true, 35) := by kernel_rfl
theorem fld_57_3 : fldI Try.prog 57 3 = some (37, true, 2) := by kernel_rfl
theorem fld_57_4 : fldI Try.prog 57 4 = some (39, false, 1) := by kernel_rfl
theorem k_25 : Cal Try.prog 25 := ⟨_, _, Try.func25, by kernel_rfl, rfl⟩
theorem k_35 : Cal Try.prog 35 := ⟨_, _, Try.func35, by kernel_rfl, rfl⟩
theorem k_49 : Cal Try.prog 49 := ⟨_, _, Try.func49, by kernel_rfl, rfl⟩
theorem k_50 : Cal Try.prog 50 := ⟨_, _, Try.func50, by kernel_rfl, rfl⟩
theorem k_51 : Cal Try.prog 51 := ⟨_, _, Try.func51, by kernel_rfl, rfl⟩
theorem k_56 : Cal Try.prog 56 := ⟨_, _, Try.func56, by kernel_rfl, rfl⟩
theorem ty_3 : tyI Try.prog 3 = some (false, 1) := by kernel_rfl
theorem ty_38 : tyI Try.prog 38 = some (true, 2) := by kernel_rfl
theorem ty_4 : tyI Try.prog 4 = some (false, 1) := by kernel_rfl
theorem z_38 : zI Try.prog 38 = some [.int .i64 0, .int .u64 0] := by kernel_rfl
end Fl2
open Fl2

set_option maxRecDepth 100000 in
theorem next_c {W0 : World} {H : Hp} {g i : Nat} {x : Snd} (hi : H[i]? = some (g, x.obj)) (hb : 0 ≤ x.bits) (hb2 : x.bits < 18446744073709551616) (hr : mRight x.n x.bits = true) : CxD Try.prog W0 49 #[.pointer (some ⟨g, 0, none⟩)] H (.int .i64 x.next) H := by
  refine enter Try.func49 rfl Try.ntmps49 rfl ?_
  refine WC.seq ?_
  refine WC.region ?_
  refine WL.p (.none rfl) rfl (OpP.assign rfl) ?_
  refine WL.nil ?_
  refine EQ.sub ((Sub.cons (i := 0) rfl (Sub.cons (i := 2) rfl (Sub.nil _)))) ?_
  refine EQ.code ?_
  refine WC.scope ?_
  refine WC.seq ?_
  refine WC.seq ?_
  refine WC.region ?_
  refine WL.p (.none rfl) rfl (OpP.move rfl) ?_
  refine WL.p (.none rfl) rfl (OpP.eqlNil rfl rfl Try.underlying26) ?_
  refine WL.p (.none rfl) rfl (OpP.move rfl) ?_
  refine WL.g (.bool rfl rfl rfl) rfl (fun hg => OpP.move rfl) ?_
  refine WL.g (.bool rfl rfl rfl) rfl (fun hg => OpP.nilCheck (gk hg rfl)) ?_
  refine WL.g (.bool rfl rfl rfl) rfl (fun hg => OpP.fieldAddr (gk hg rfl) fld_57_0) ?_
  refine WL.g (.bool rfl rfl rfl) rfl (fun hg => OpP.load (gk hg rfl) ty_4 (Rd.own (by repeat (first | assumption | exact List.mem_cons_self | exact List.mem_of_getElem? (by assumption) | exact set_mem (by first | assumption | exact set_hit (by assumption)) | apply List.mem_cons_of_mem | apply List.mem_append_right)) (by rfl))) ?_
  refine WL.g (.bool rfl rfl rfl) rfl (fun hg => OpP.not (gk hg rfl)) ?_
  refine WL.p (.none rfl) rfl (OpP.por rfl rfl rfl) ?_
  refine WL.p (.none rfl) rfl (OpP.move rfl) ?_
  refine WL.g (.bool rfl rfl rfl) rfl (fun hg => OpP.move rfl) ?_
  refine WL.gcall rfl (.bool rfl rfl rfl) rfl k_25 (fun hg => kops1 (gk hg rfl)) (fun hg => State_c hi hb hb2) ?_
  refine WL.g (.bool rfl rfl rfl) rfl (fun hg => OpP.neqI (gk hg rfl) rfl) ?_
  refine WL.p (.none rfl) rfl (OpP.por rfl rfl rfl) ?_
  refine WL.nil ?_
  refine EQ.sub ((Sub.cons (i := 0) rfl (Sub.cons (i := 2) rfl (Sub.cons (i := 20) rfl (Sub.nil _))))) ?_
  refine EQ.code ?_
  refine WC.cond rfl (fun hc0 => ?_) (fun hc0 => ?_)
  · -- cond 0 t
    (try simp only [decide_eq_true_eq, decide_eq_false_iff_not, Bool.not_eq_true', Bool.not_eq_false', Bool.or_eq_true, Bool.and_eq_true, Bool.or_eq_false_iff, Bool.and_eq_false_imp, Option.isNone_some, Bool.false_eq_true, false_or, true_and] at hc0)
    refine WC.seq ?_
    refine WC.region ?_
    refine WL.p (.none rfl) rfl (OpP.assign rfl) ?_
    refine WL.nil ?_
    refine EQ.sub ((Sub.cons (i := 0) rfl (Sub.cons (i := 2) rfl (Sub.nil _)))) ?_
    refine EQ.code ?_
    refine WC.ret ?_
    refine EQ.thenR ?_
    refine EQ.scopeR ?_
    refine EQ.finD (H' := H) (res1 rfl (.tmp rfl)) (by intro _ h; first | exact h | exact h.sublist (List.sublist_append_right _ _)) ?_
    exact ⟨by unfold Snd.next; rw [if_neg (by rintro ⟨q1, q2⟩; rcases hc0 with h | h; (rw [q1] at h; cases h); omega)], rfl⟩
  · -- cond 0 f
    (try simp only [decide_eq_true_eq, decide_eq_false_iff_not, Bool.not_eq_true', Bool.not_eq_false', Bool.or_eq_true, Bool.and_eq_true, Bool.or_eq_false_iff, Bool.and_eq_false_imp, Option.isNone_some, Bool.false_eq_true, false_or, true_and] at hc0)
    have hne := miss_ne hr hb hc0.1 (by omega)
    have hpos : 0 < (missL x.n x.bits).length := List.length_pos_iff.2 hne
    have hle : (missL x.n x.bits).length ≤ 64 := by have := missTo_length x.n x.bits x.n.toNat; have := mRight_spec hr; show (missTo x.n x.bits x.n.toNat).length ≤ 64; omega
    have hnx : x.next = nextOf (missL x.n x.bits) x.pos := by unfold Snd.next; rw [if_pos ⟨hc0.1, by omega⟩]
    refine WC.skip ?_
    refine EQ.code ?_
    refine WC.seq ?_
    refine WC.region ?_
    refine WL.p (.none rfl) rfl (OpP.move rfl) ?_
    refine WL.p (.none rfl) rfl (OpP.nilCheck rfl) ?_
    refine WL.p (.none rfl) rfl (OpP.fieldAddr rfl fld_57_3) ?_
    refine WL.p (.none rfl) rfl (OpP.loadB rfl ty_38 (by repeat (first | assumption | exact List.mem_cons_self | exact List.mem_of_getElem? (by assumption) | exact set_mem (by first | assumption | exact set_hit (by assumption)) | apply List.mem_cons_of_mem | apply List.mem_append_right)) (by rfl)) ?_
    refine WL.call rfl (.none rfl) rfl k_56 rfl (Missing_c hb hb2 hr) ?_
    rintro _ _ ⟨ds, rfl, hown⟩
    obtain ⟨a, c, rfl, hlc, hlc2, hs⟩ := hown.val
    have hsl := hs W0 H
    refine WL.p (.none rfl) rfl (OpP.assign rfl) ?_
    refine WL.nil ?_
    refine EQ.sub ((Sub.cons (i := 0) rfl (Sub.cons (i := 2) rfl (Sub.cons (i := 3) rfl (Sub.nil _))))) ?_
    refine EQ.code ?_
    refine WC.seq ?_
    refine WC.region ?_
    refine WL.p (.none rfl) rfl (OpP.move rfl) ?_
    have ha : a ≠ none := by intro h; have := hsl.1 h; simp at this; exact hne this
    refine WL.p (.none rfl) rfl (OpP.indexSl rfl rfl el_60 (by omega) (by omega) ha) ?_
    refine WL.p (.none rfl) rfl (OpP.load rfl ty_3 (ivs_get hsl 0 hpos)) ?_
    refine WL.p (.none rfl) rfl (OpP.assign rfl) ?_
    refine WL.nil ?_
    refine EQ.sub ((Sub.cons (i := 0) rfl (Sub.cons (i := 2) rfl (Sub.cons (i := 3) rfl (Sub.cons (i := 4) rfl (Sub.nil _)))))) ?_
    refine EQ.code ?_
    refine WC.seq ?_
    refine WC.label ?_
    refine EQ.code ?_
    refine WC.seq ?_
    refine WC.seq ?_
    refine WC.region ?_
    refine WL.p (.none rfl) rfl (OpP.move rfl) ?_
    refine WL.p (.none rfl) rfl (OpP.lenSl rfl Try.underlying60) ?_
    refine WL.p (.none rfl) rfl (OpP.move rfl) ?_
    refine WL.nil ?_
    refine EQ.sub ((Sub.cons (i := 0) rfl (Sub.cons (i := 2) rfl (Sub.cons (i := 4) rfl (Sub.cons (i := 29) rfl (Sub.cons (i := 30) rfl (Sub.cons (i := 31) rfl (Sub.nil _)))))))) ?_
    refine EQ.code ?_
    refine WC.block ?_
    refine WC.loop (σ := Nat) (fun k => [(0, .pointer (some ⟨g, 0, none⟩)), (4, .int .i64 (((missL x.n x.bits).getD 0 0 : Nat) : Int)), (29, .slice a (missL x.n x.bits).length c), (30, .int .i64 ((missL x.n x.bits).length : Int)), (31, .int .i64 (k : Int))]) (fun k => ds ++ H) (fun k => k ≤ (missL x.n x.bits).length ∧ ∀ j, j < k → (((missL x.n x.bits).getD j 0 : Nat) : Int) < x.pos) (fun k => (missL x.n x.bits).length - k) 0 ⟨Nat.zero_le _, fun j h => by omega⟩ ((Sub.cons rfl (Sub.cons rfl (Sub.cons rfl (Sub.cons rfl (Sub.cons rfl (Sub.nil _))))))) (fun _ h => h) (fun k hinv => ?_)
    obtain ⟨hk, hall⟩ := hinv
    refine WC.seq ?_
    refine WC.region ?_
    refine WL.p (.none rfl) rfl (OpP.lss rfl rfl) ?_
    refine WL.nil ?_
    refine EQ.sub ((Sub.cons (i := 0) rfl (Sub.cons (i := 4) rfl (Sub.cons (i := 29) rfl (Sub.cons (i := 30) rfl (Sub.cons (i := 31) rfl (Sub.cons (i := 32) rfl (Sub.nil _)))))))) ?_
    refine EQ.code ?_
    refine WC.seq ?_
    refine WC.cond rfl (fun hc1 => ?_) (fun hc1 => ?_)
    · -- cond 1 t
      (try simp only [decide_eq_true_eq, decide_eq_false_iff_not, Bool.not_eq_true', Bool.not_eq_false', Bool.or_eq_true, Bool.and_eq_true, Bool.or_eq_false_iff, Bool.and_eq_false_imp, Option.isNone_some, Bool.false_eq_true, false_or, true_and] at hc1)
      refine WC.skip ?_
      refine EQ.code ?_
      refine WC.seq ?_
      refine WC.block ?_
      refine WC.seq ?_
      refine WC.region ?_
      refine WL.p (.none rfl) rfl (OpP.indexSl rfl rfl el_60 (by omega) (by omega) ha) ?_
      refine WL.p (.none rfl) rfl (OpP.load rfl ty_3 (ivs_get hsl k (by omega))) ?_
      refine WL.p (.none rfl) rfl (OpP.assign rfl) ?_
      refine WL.nil ?_
      refine EQ.sub ((Sub.cons (i := 0) rfl (Sub.cons (i := 4) rfl (Sub.cons (i := 6) rfl (Sub.cons (i := 29) rfl (Sub.cons (i := 30) rfl (Sub.cons (i := 31) rfl (Sub.nil _)))))))) ?_
      refine EQ.code ?_
      refine WC.seq ?_
      refine WC.region ?_
      refine WL.p (.none rfl) rfl (OpP.move rfl) ?_
      refine WL.p (.none rfl) rfl (OpP.move rfl) ?_
      refine WL.p (.none rfl) rfl (OpP.nilCheck rfl) ?_
      refine WL.p (.none rfl) rfl (OpP.fieldAddr rfl fld_57_4) ?_
      refine WL.p (.none rfl) rfl (OpP.load rfl ty_3 (Rd.own (by repeat (first | assumption | exact List.mem_cons_self | exact List.mem_of_getElem? (by assumption) | exact set_mem (by first | assumption | exact set_hit (by assumption)) | apply List.mem_cons_of_mem | apply List.mem_append_right)) (by rfl))) ?_
      refine WL.p (.none rfl) rfl (OpP.geq rfl rfl) ?_
      refine WL.nil ?_
      refine EQ.sub ((Sub.cons (i := 0) rfl (Sub.cons (i := 4) rfl (Sub.cons (i := 6) rfl (Sub.cons (i := 29) rfl (Sub.cons (i := 30) rfl (Sub.cons (i := 31) rfl (Sub.cons (i := 40) rfl (Sub.nil _))))))))) ?_
      refine EQ.code ?_
      refine WC.cond rfl (fun hc2 => ?_) (fun hc2 => ?_)
      · -- cond 2 t
        (try simp only [decide_eq_true_eq, decide_eq_false_iff_not, Bool.not_eq_true', Bool.not_eq_false', Bool.or_eq_true, Bool.and_eq_true, Bool.or_eq_false_iff, Bool.and_eq_false_imp, Option.isNone_some, Bool.false_eq_true, false_or, true_and] at hc2)
        refine WC.seq ?_
        refine WC.region ?_
        refine WL.p (.none rfl) rfl (OpP.move rfl) ?_
        refine WL.p (.none rfl) rfl (OpP.assign rfl) ?_
        refine WL.nil ?_
        refine EQ.sub ((Sub.cons (i := 0) rfl (Sub.cons (i := 4) rfl (Sub.cons (i := 29) rfl (Sub.cons (i := 30) rfl (Sub.cons (i := 31) rfl (Sub.nil _))))))) ?_
        refine EQ.code ?_
        refine WC.exit ?_
        refine EQ.blockMiss rfl ?_
        refine EQ.thenE ?_
        refine EQ.thenE ?_
        refine EQ.blockHit ?_
        refine EQ.code ?_
        refine WC.seq ?_
        refine WC.region ?_
        refine WL.p (.none rfl) rfl (OpP.move rfl) ?_
        refine WL.p (.none rfl) rfl (OpP.assign rfl) ?_
        refine WL.nil ?_
        refine EQ.sub ((Sub.cons (i := 2) rfl (Sub.nil _))) ?_
        refine EQ.code ?_
        refine WC.ret ?_
        refine EQ.scopeR ?_
        refine EQ.finD (H' := H) (res1 rfl (.tmp rfl)) (by intro _ h; first | exact h | exact h.sublist (List.sublist_append_right _ _)) ?_
        exact ⟨by rw [hnx, nextOf_found (k := k) (by omega) hall (by simpa using hc2)], rfl⟩
      · -- cond 2 f
        (try simp only [decide_eq_true_eq, decide_eq_false_iff_not, Bool.not_eq_true', Bool.not_eq_false', Bool.or_eq_true, Bool.and_eq_true, Bool.or_eq_false_iff, Bool.and_eq_false_imp, Option.isNone_some, Bool.false_eq_true, false_or, true_and] at hc2)
        refine WC.skip ?_
        refine EQ.blockN ?_
        refine EQ.code ?_
        refine WC.region ?_
        first | (refine WL.p (.none rfl) rfl (OpP.add64 rfl rfl (by omega)) ?_) | (refine WL.p (.none rfl) rfl (OpP.add rfl rfl) ?_)
        refine WL.p (.none rfl) rfl (OpP.move rfl) ?_
        refine WL.nil ?_
        refine EQ.sub ((Sub.cons (i := 0) rfl (Sub.cons (i := 4) rfl (Sub.cons (i := 29) rfl (Sub.cons (i := 30) rfl (Sub.cons (i := 31) rfl (Sub.nil _))))))) ?_
        refine EQ.again (k + 1) ?_ ?_ ?_ ?_
        · refine ⟨by omega, fun j hj => ?_⟩
          by_cases e : j = k
          · subst e; (try simp only [Int.toNat_natCast] at hc2); omega
          · exact hall j (by omega)
        · omega
        · exact ((Sub.cons rfl (Sub.cons rfl (Sub.cons rfl (Sub.cons rfl (Sub.cons rfl (Sub.nil _)))))))
        · intro _ h; first | exact h | exact h.drop | exact h.drop_mid | exact h.drop_mid.drop_mid
    · -- cond 1 f
      (try simp only [decide_eq_true_eq, decide_eq_false_iff_not, Bool.not_eq_true', Bool.not_eq_false', Bool.or_eq_true, Bool.and_eq_true, Bool.or_eq_false_iff, Bool.and_eq_false_imp, Option.isNone_some, Bool.false_eq_true, false_or, true_and] at hc1)
      refine WC.exit ?_
      refine EQ.thenE ?_
      refine EQ.thenE ?_
      refine EQ.blockHit ?_
      refine EQ.code ?_
      refine WC.seq ?_
      refine WC.region ?_
      refine WL.p (.none rfl) rfl (OpP.move rfl) ?_
      refine WL.p (.none rfl) rfl (OpP.assign rfl) ?_
      refine WL.nil ?_
      refine EQ.sub ((Sub.cons (i := 2) rfl (Sub.nil _))) ?_
      refine EQ.code ?_
      refine WC.ret ?_
      refine EQ.scopeR ?_
      refine EQ.finD (H' := H) (res1 rfl (.tmp rfl)) (by intro _ h; first | exact h | exact h.sublist (List.sublist_append_right _ _)) ?_
      exact ⟨by rw [hnx, nextOf_none (fun j hj => hall j (by omega))], rfl⟩

set_option maxRecDepth 100000 in
theorem Peek_c {W0 : World} {H : Hp} {g i : Nat} {x : Snd} (hi : H[i]? = some (g, x.obj)) (hb : 0 ≤ x.bits) (hb2 : x.bits < 18446744073709551616) (hr : mRight x.n x.bits = true) : CxD Try.prog W0 12 #[.pointer (some ⟨g, 0, none⟩)] H (.tuple #[.int .i64 (if x.next < 0 then 0 else lengthAt x.size x.next), .bool (decide (0 ≤ x.next))]) H := by
  have hbd := next_bd x (mRight_spec hr).2.1 (fun h1 h2 => miss_ne hr hb h1 h2)
  refine enter Try.func12 rfl Try.ntmps12 rfl ?_
  refine WC.seq ?_
  refine WC.region ?_
  refine WL.p (.none rfl) rfl (OpP.assign rfl) ?_
  refine WL.p (.none rfl) rfl (OpP.assign rfl) ?_
  refine WL.nil ?_
  refine EQ.sub ((Sub.cons (i := 0) rfl (Sub.cons (i := 2) rfl (Sub.cons (i := 3) rfl (Sub.nil _))))) ?_
  refine EQ.code ?_
  refine WC.seq ?_
  refine WC.region ?_
  refine WL.p (.none rfl) rfl (OpP.move rfl) ?_
  refine WL.callD rfl (.none rfl) rfl k_49 rfl (next_c hi hb hb2 hr) ?_
  refine WL.p (.none rfl) rfl (OpP.assign rfl) ?_
  refine WL.nil ?_
  refine EQ.sub ((Sub.cons (i := 0) rfl (Sub.cons (i := 2) rfl (Sub.cons (i := 3) rfl (Sub.cons (i := 4) rfl (Sub.nil _)))))) ?_
  refine EQ.code ?_
  refine WC.seq ?_
  refine WC.seq ?_
  refine WC.region ?_
  refine WL.p (.none rfl) rfl (OpP.move rfl) ?_
  refine WL.p (.none rfl) rfl (OpP.lss rfl rfl) ?_
  refine WL.nil ?_
  refine EQ.sub ((Sub.cons (i := 0) rfl (Sub.cons (i := 2) rfl (Sub.cons (i := 3) rfl (Sub.cons (i := 4) rfl (Sub.cons (i := 8) rfl (Sub.nil _))))))) ?_
  refine EQ.code ?_
  refine WC.cond rfl (fun hc0 => ?_) (fun hc0 => ?_)
  · -- cond 0 t
    (try simp only [decide_eq_true_eq, decide_eq_false_iff_not, Bool.not_eq_true', Bool.not_eq_false', Bool.or_eq_true, Bool.and_eq_true, Bool.or_eq_false_iff, Bool.and_eq_false_imp, Option.isNone_some, Bool.false_eq_true, false_or, true_and] at hc0)
    refine WC.seq ?_
    refine WC.region ?_
    refine WL.p (.none rfl) rfl (OpP.assign rfl) ?_
    refine WL.p (.none rfl) rfl (OpP.assign rfl) ?_
    refine WL.nil ?_
    refine EQ.sub ((Sub.cons (i := 0) rfl (Sub.cons (i := 2) rfl (Sub.cons (i := 3) rfl (Sub.cons (i := 4) rfl (Sub.nil _)))))) ?_
    refine EQ.code ?_
    refine WC.ret ?_
    refine EQ.thenR ?_
    refine EQ.fin (res2 rfl (.tmp rfl) (.tmp rfl)) ?_
    exact ⟨by rw [if_pos hc0, decide_eq_false (by omega)], rfl⟩
  · -- cond 0 f
    (try simp only [decide_eq_true_eq, decide_eq_false_iff_not, Bool.not_eq_true', Bool.not_eq_false', Bool.or_eq_true, Bool.and_eq_true, Bool.or_eq_false_iff, Bool.and_eq_false_imp, Option.isNone_some, Bool.false_eq_true, false_or, true_and] at hc0)
    refine WC.skip ?_
    refine EQ.code ?_
    refine WC.seq ?_
    refine WC.region ?_
    refine WL.p (.none rfl) rfl (OpP.move rfl) ?_
    refine WL.p (.none rfl) rfl (OpP.nilCheck rfl) ?_
    refine WL.p (.none rfl) rfl (OpP.fieldAddr rfl fld_57_1) ?_
    refine WL.p (.none rfl) rfl (OpP.fieldAddr rfl fld_34_2) ?_
    refine WL.p (.none rfl) rfl (OpP.load rfl ty_3 (Rd.own (by repeat (first | assumption | exact List.mem_cons_self | exact List.mem_of_getElem? (by assumption) | exact set_mem (by first | assumption | exact set_hit (by assumption)) | apply List.mem_cons_of_mem | apply List.mem_append_right)) (by rfl))) ?_
    refine WL.p (.none rfl) rfl (OpP.move rfl) ?_
    refine WL.callD rfl (.none rfl) rfl k_35 rfl (Length_c (by omega)) ?_
    refine WL.p (.none rfl) rfl (OpP.assign rfl) ?_
    refine WL.p (.none rfl) rfl (OpP.assign rfl) ?_
    refine WL.nil ?_
    refine EQ.sub ((Sub.cons (i := 2) rfl (Sub.cons (i := 3) rfl (Sub.nil _)))) ?_
    refine EQ.code ?_
    refine WC.ret ?_
    refine EQ.fin (res2 rfl (.tmp rfl) (.tmp rfl)) ?_
    exact ⟨by rw [if_neg (by omega), decide_eq_true (by omega)], rfl⟩

set_option maxRecDepth 100000 in
theorem NextG_c {W0 : World} {H : Hp} {g i : Nat} {x : Snd} (hi : H[i]? = some (g, x.obj)) (hb : 0 ≤ x.bits) (hb2 : x.bits < 18446744073709551616) (hr : mRight x.n x.bits = true) (hg : x.next < 0) : CxD Try.prog W0 17 #[.pointer (some ⟨g, 0, none⟩)] H (.tuple #[.int .i64 0, .slice none 0 0, .bool false]) H := by
  refine enter Try.func17 rfl Try.ntmps17 rfl ?_
  refine WC.seq ?_
  refine WC.region ?_
  refine WL.p (.none rfl) rfl (OpP.assign rfl) ?_
  refine WL.p (.none rfl) rfl (OpP.assign rfl) ?_
  refine WL.p (.none rfl) rfl (OpP.assign rfl) ?_
  refine WL.nil ?_
  refine EQ.sub ((Sub.cons (i := 0) rfl (Sub.cons (i := 2) rfl (Sub.cons (i := 3) rfl (Sub.cons (i := 4) rfl (Sub.nil _)))))) ?_
  refine EQ.code ?_
  refine WC.seq ?_
  refine WC.region ?_
  refine WL.p (.none rfl) rfl (OpP.move rfl) ?_
  refine WL.callD rfl (.none rfl) rfl k_49 rfl (next_c hi hb hb2 hr) ?_
  refine WL.p (.none rfl) rfl (OpP.assign rfl) ?_
  refine WL.nil ?_
  refine EQ.sub ((Sub.cons (i := 0) rfl (Sub.cons (i := 2) rfl (Sub.cons (i := 3) rfl (Sub.cons (i := 4) rfl (Sub.cons (i := 5) rfl (Sub.nil _))))))) ?_
  refine EQ.code ?_
  refine WC.seq ?_
  refine WC.seq ?_
  refine WC.region ?_
  refine WL.p (.none rfl) rfl (OpP.move rfl) ?_
  refine WL.p (.none rfl) rfl (OpP.lss rfl rfl) ?_
  refine WL.nil ?_
  refine EQ.sub ((Sub.cons (i := 0) rfl (Sub.cons (i := 2) rfl (Sub.cons (i := 3) rfl (Sub.cons (i := 4) rfl (Sub.cons (i := 5) rfl (Sub.cons (i := 11) rfl (Sub.nil _)))))))) ?_
  refine EQ.code ?_
  refine WC.cond rfl (fun hc0 => ?_) (fun hc0 => ?_)
  · -- cond 0 t
    (try simp only [decide_eq_true_eq, decide_eq_false_iff_not, Bool.not_eq_true', Bool.not_eq_false', Bool.or_eq_true, Bool.and_eq_true, Bool.or_eq_false_iff, Bool.and_eq_false_imp, Option.isNone_some, Bool.false_eq_true, false_or, true_and] at hc0)
    refine WC.seq ?_
    refine WC.region ?_
    refine WL.p (.none rfl) rfl (OpP.assign rfl) ?_
    refine WL.p (.none rfl) rfl (OpP.assign rfl) ?_
    refine WL.p (.none rfl) rfl (OpP.assign rfl) ?_
    refine WL.nil ?_
    refine EQ.sub ((Sub.cons (i := 0) rfl (Sub.cons (i := 2) rfl (Sub.cons (i := 3) rfl (Sub.cons (i := 4) rfl (Sub.cons (i := 5) rfl (Sub.nil _))))))) ?_
    refine EQ.code ?_
    refine WC.ret ?_
    refine EQ.thenR ?_
    refine EQ.fin (res3 rfl (.tmp rfl) (.tmp rfl) (.tmp rfl)) ?_
    exact ⟨rfl, rfl⟩
  · -- cond 0 f
    (try simp only [decide_eq_true_eq, decide_eq_false_iff_not, Bool.not_eq_true', Bool.not_eq_false', Bool.or_eq_true, Bool.and_eq_true, Bool.or_eq_false_iff, Bool.and_eq_false_imp, Option.isNone_some, Bool.false_eq_true, false_or, true_and] at hc0)
    exfalso; omega

set_option maxRecDepth 100000 in
theorem CostsG_c {W0 : World} {H : Hp} {g i : Nat} {x : Snd} (hi : H[i]? = some (g, x.obj)) (hb : 0 ≤ x.bits) (hb2 : x.bits < 18446744073709551616) {k : Int} (hr : mRight x.n x.bits = true) (hg : x.next < 0) : CxD Try.prog W0 29 #[.pointer (some ⟨g, 0, none⟩), .int .i64 k] H (.slice none 0 0) H := by
  refine enter Try.func29 rfl Try.ntmps29 rfl ?_
  refine WC.seq ?_
  refine WC.region ?_
  refine WL.p (.none rfl) rfl (OpP.assign rfl) ?_
  refine WL.nil ?_
  refine EQ.sub ((Sub.cons (i := 0) rfl (Sub.cons (i := 1) rfl (Sub.cons (i := 4) rfl (Sub.nil _))))) ?_
  refine EQ.code ?_
  refine WC.seq ?_
  refine WC.region ?_
  refine WL.p (.none rfl) rfl (OpP.move rfl) ?_
  refine WL.callD rfl (.none rfl) rfl k_49 rfl (next_c hi hb hb2 hr) ?_
  refine WL.p (.none rfl) rfl (OpP.assign rfl) ?_
  refine WL.nil ?_
  refine EQ.sub ((Sub.cons (i := 0) rfl (Sub.cons (i := 1) rfl (Sub.cons (i := 4) rfl (Sub.cons (i := 5) rfl (Sub.nil _)))))) ?_
  refine EQ.code ?_
  refine WC.seq ?_
  refine WC.seq ?_
  refine WC.region ?_
  refine WL.p (.none rfl) rfl (OpP.move rfl) ?_
  refine WL.p (.none rfl) rfl (OpP.lss rfl rfl) ?_
  refine WL.nil ?_
  refine EQ.sub ((Sub.cons (i := 0) rfl (Sub.cons (i := 1) rfl (Sub.cons (i := 4) rfl (Sub.cons (i := 5) rfl (Sub.cons (i := 15) rfl (Sub.nil _))))))) ?_
  refine EQ.code ?_
  refine WC.cond rfl (fun hc0 => ?_) (fun hc0 => ?_)
  · -- cond 0 t
    (try simp only [decide_eq_true_eq, decide_eq_false_iff_not, Bool.not_eq_true', Bool.not_eq_false', Bool.or_eq_true, Bool.and_eq_true, Bool.or_eq_false_iff, Bool.and_eq_false_imp, Option.isNone_some, Bool.false_eq_true, false_or, true_and] at hc0)
    refine WC.seq ?_
    refine WC.region ?_
    refine WL.p (.none rfl) rfl (OpP.assign rfl) ?_
    refine WL.nil ?_
    refine EQ.sub ((Sub.cons (i := 0) rfl (Sub.cons (i := 1) rfl (Sub.cons (i := 4) rfl (Sub.cons (i := 5) rfl (Sub.nil _)))))) ?_
    refine EQ.code ?_
    refine WC.ret ?_
    refine EQ.thenR ?_
    refine EQ.fin (res1 rfl (.tmp rfl)) ?_
    exact ⟨rfl, rfl⟩
  · -- cond 0 f
    (try simp only [decide_eq_true_eq, decide_eq_false_iff_not, Bool.not_eq_true', Bool.not_eq_false', Bool.or_eq_true, Bool.and_eq_true, Bool.or_eq_false_iff, Bool.and_eq_false_imp, Option.isNone_some, Bool.false_eq_true, false_or, true_and] at hc0)
    exfalso; omega

theorem ask_zero {x : Snd} {n b : Int} (h : x.ask n b = 0) : mRight n b = true ∧ n = x.n ∧ x.gone = false ∧ x.made = true := by
  unfold Snd.ask at h
  split at h
  · split at h
    · rename_i hm h2
      split at h
      · cases h
      · rename_i hg
        exact ⟨h2.1, h2.2, by simpa using hg, hm⟩
    · cases h
  · cases h

set_option maxRecDepth 100000 in
theorem Know_c {W0 : World} {H : Hp} {g i : Nat} {x : Snd} (hi : H[i]? = some (g, x.obj)) (hb : 0 ≤ x.bits) (hb2 : x.bits < 18446744073709551616) {n b : Int} (hcb : 0 ≤ b) (hcb2 : b < 18446744073709551616) (hr : mRight x.n x.bits = true) :
    CxD Try.prog W0 18 #[.pointer (some ⟨g, 0, none⟩), mv n b] H (.int .i64 (x.ask n b)) (if x.ask n b = 0 then H.set i (g, { x with bits := Go.bits .or .u64 x.bits b }.obj) else H) := by
  refine enter Try.func18 rfl Try.ntmps18 rfl ?_
  refine WC.seq ?_
  refine WC.region ?_
  refine WL.box rfl rfl rfl (fun b3 => ?_)
  refine WL.p (.none rfl) rfl (OpP.assign rfl) ?_
  refine WL.nil ?_
  refine EQ.sub ((Sub.cons (i := 0) rfl (Sub.cons (i := 3) rfl (Sub.cons (i := 4) rfl (Sub.nil _))))) ?_
  refine EQ.code ?_
  refine WC.seq ?_
  refine WC.seq ?_
  refine WC.region ?_
  refine WL.p (.none rfl) rfl (OpP.move rfl) ?_
  refine WL.p (.none rfl) rfl (OpP.loadB rfl ty_38 (by repeat (first | assumption | exact List.mem_cons_self | exact List.mem_of_getElem? (by assumption) | exact set_mem (by first | assumption | exact set_hit (by assumption)) | apply List.mem_cons_of_mem | apply List.mem_append_right)) (by rfl)) ?_
  refine WL.callD rfl (.none rfl) rfl k_50 rfl (ask_c (ats hi) hcb hcb2 trivial) ?_
  refine WL.p (.none rfl) rfl (OpP.assign rfl) ?_
  refine WL.nil ?_
  refine EQ.sub ((Sub.cons (i := 0) rfl (Sub.cons (i := 3) rfl (Sub.cons (i := 4) rfl (Sub.cons (i := 5) rfl (Sub.nil _)))))) ?_
  refine EQ.code ?_
  refine WC.seq ?_
  refine WC.region ?_
  refine WL.p (.none rfl) rfl (OpP.move rfl) ?_
  refine WL.p (.none rfl) rfl (OpP.neqI rfl rfl) ?_
  refine WL.nil ?_
  refine EQ.sub ((Sub.cons (i := 0) rfl (Sub.cons (i := 3) rfl (Sub.cons (i := 4) rfl (Sub.cons (i := 5) rfl (Sub.cons (i := 12) rfl (Sub.nil _))))))) ?_
  refine EQ.code ?_
  refine WC.cond rfl (fun hc0 => ?_) (fun hc0 => ?_)
  · -- cond 0 t
    (try simp only [decide_eq_true_eq, decide_eq_false_iff_not, Bool.not_eq_true', Bool.not_eq_false', Bool.or_eq_true, Bool.and_eq_true, Bool.or_eq_false_iff, Bool.and_eq_false_imp, Option.isNone_some, Bool.false_eq_true, false_or, true_and] at hc0)
    refine WC.seq ?_
    refine WC.region ?_
    refine WL.p (.none rfl) rfl (OpP.move rfl) ?_
    refine WL.p (.none rfl) rfl (OpP.assign rfl) ?_
    refine WL.nil ?_
    refine EQ.sub ((Sub.cons (i := 0) rfl (Sub.cons (i := 3) rfl (Sub.cons (i := 4) rfl (Sub.nil _))))) ?_
    refine EQ.code ?_
    refine WC.ret ?_
    refine EQ.thenR ?_
    refine EQ.finD (H' := H) (res1 rfl (.tmp rfl)) (by intro _ h; first | exact h.drop | exact h.drop.drop) ?_
    exact ⟨rfl, by rw [if_neg hc0]⟩
  · -- cond 0 f
    (try simp only [decide_eq_true_eq, decide_eq_false_iff_not, Bool.not_eq_true', Bool.not_eq_false', Bool.or_eq_true, Bool.and_eq_true, Bool.or_eq_false_iff, Bool.and_eq_false_imp, Option.isNone_some, Bool.false_eq_true, false_or, true_and] at hc0)
    have hz := ask_zero (show x.ask n b = 0 by omega)
    obtain ⟨hz1, rfl, hz3, hz4⟩ := hz
    have hz : mRight x.n b = true ∧ True := ⟨hz1, trivial⟩
    refine WC.skip ?_
    refine EQ.code ?_
    refine WC.seq ?_
    refine WC.mix (by kernel_rfl) ?_
    refine AJ.p (i := 0) rfl (by kernel_rfl) (.none rfl) rfl (OpP.move rfl) ?_
    refine AJ.p (i := 1) rfl (by kernel_rfl) (.none rfl) rfl (OpP.nilCheck rfl) ?_
    refine AJ.p (i := 2) rfl (by kernel_rfl) (.none rfl) rfl (OpP.fieldAddr rfl fld_57_3) ?_
    refine AJ.p (i := 3) rfl (by kernel_rfl) (.none rfl) rfl (OpP.loadB rfl ty_38 (by repeat (first | assumption | exact List.mem_cons_self | exact List.mem_of_getElem? (by assumption) | exact set_mem (by first | assumption | exact set_hit (by assumption)) | apply List.mem_cons_of_mem | apply List.mem_append_right)) (by rfl)) ?_
    refine AJ.p (i := 4) rfl (by kernel_rfl) (.none rfl) rfl (OpP.loadB rfl ty_38 (by repeat (first | assumption | exact List.mem_cons_self | exact List.mem_of_getElem? (by assumption) | exact set_mem (by first | assumption | exact set_hit (by assumption)) | apply List.mem_cons_of_mem | apply List.mem_append_right)) (by rfl)) ?_
    refine AJ.two 5 9 rfl rfl (by kernel_rfl) (by intro _ h; first | exact h | exact h.drop | exact h.drop.drop | exact h.sublist (List.sublist_append_right _ _) | exact h.drop.sublist (List.sublist_append_right _ _)) ?_ ?_
    · -- 5 first
      refine WL.callD rfl (.none rfl) rfl k_51 rfl (Or_c hb hb2 hcb hcb2 hr hz.1) ?_
      refine WL.nil ?_
      refine EQ.an ?_
      refine AJ.p (i := 6) rfl (by kernel_rfl) (.none rfl) rfl (OpP.move rfl) ?_
      refine AJ.p (i := 7) rfl (by kernel_rfl) (.none rfl) rfl (OpP.extract rfl rfl) ?_
      refine AJ.p (i := 8) rfl (by kernel_rfl) (.none rfl) rfl (OpP.extract rfl rfl) ?_
      refine AJ.one 9 rfl (by kernel_rfl) (by intro _ h; first | exact h | exact h.drop | exact h.drop.drop | exact h.sublist (List.sublist_append_right _ _) | exact h.drop.sublist (List.sublist_append_right _ _)) ?_
      refine WL.allocX z_38 rfl (fun b6 => ?_)
      refine WL.nil ?_
      refine EQ.an ?_
      refine AJ.one 10 rfl (by kernel_rfl) (by intro _ h; first | exact h | exact h.drop | exact h.drop.drop | exact h.sublist (List.sublist_append_right _ _) | exact h.drop.sublist (List.sublist_append_right _ _)) ?_
      first | (refine WL.s (.none rfl) rfl (OpS.storeAll rfl rfl ty_38 (by repeat (first | assumption | exact at0 | exact set_hit (by first | assumption | exact set_hit (by assumption)) | apply ats)) (by rfl) (by rfl) (by rfl) (by rfl)) ?_) | (refine WL.s (.none rfl) rfl (OpS.store rfl rfl ty_38 (by repeat (first | assumption | exact at0 | exact set_hit (by first | assumption | exact set_hit (by assumption)) | apply ats)) (by rfl) (by rfl) (by rfl) (by rfl)) ?_)
      refine WL.nil ?_
      refine EQ.an ?_
      refine AJ.p (i := 11) rfl (by kernel_rfl) (.none rfl) rfl (OpP.assign rfl) ?_
      refine AJ.done (by kernel_rfl) (by intro _ h; first | exact h | exact h.drop | exact h.drop.drop | exact h.sublist (List.sublist_append_right _ _) | exact h.drop.sublist (List.sublist_append_right _ _)) ?_
      refine EQ.sub ((Sub.cons (i := 0) rfl (Sub.cons (i := 4) rfl (Sub.cons (i := 6) rfl (Sub.cons (i := 7) rfl (Sub.nil _)))))) ?_
      refine EQ.code ?_
      refine WC.seq ?_
      refine WC.seq ?_
      refine WC.region ?_
      refine WL.p (.none rfl) rfl (OpP.move rfl) ?_
      refine WL.p (.none rfl) rfl (OpP.eqlI rfl rfl) ?_
      refine WL.nil ?_
      refine EQ.sub ((Sub.cons (i := 0) rfl (Sub.cons (i := 4) rfl (Sub.cons (i := 6) rfl (Sub.cons (i := 7) rfl (Sub.cons (i := 24) rfl (Sub.nil _))))))) ?_
      refine EQ.code ?_
      refine WC.cond rfl (fun hc1 => ?_) (fun hc1 => ?_)
      · -- cond 1 t
        (try simp only [decide_eq_true_eq, decide_eq_false_iff_not, Bool.not_eq_true', Bool.not_eq_false', Bool.or_eq_true, Bool.and_eq_true, Bool.or_eq_false_iff, Bool.and_eq_false_imp, Option.isNone_some, Bool.false_eq_true, false_or, true_and] at hc1)
        refine WC.region ?_
        refine WL.p (.none rfl) rfl (OpP.move rfl) ?_
        refine WL.p (.none rfl) rfl (OpP.loadB rfl ty_38 (by repeat (first | assumption | exact List.mem_cons_self | exact List.mem_of_getElem? (by assumption) | exact set_mem (by first | assumption | exact set_hit (by assumption)) | apply List.mem_cons_of_mem | apply List.mem_append_right)) (by rfl)) ?_
        refine WL.p (.none rfl) rfl (OpP.nilCheck rfl) ?_
        refine WL.p (.none rfl) rfl (OpP.fieldAddr rfl fld_57_3) ?_
        first | (refine WL.s (.none rfl) rfl (OpS.storeAll rfl rfl ty_38 (by repeat (first | assumption | exact at0 | exact set_hit (by first | assumption | exact set_hit (by assumption)) | apply ats)) (by rfl) (by rfl) (by rfl) (by rfl)) ?_) | (refine WL.s (.none rfl) rfl (OpS.store rfl rfl ty_38 (by repeat (first | assumption | exact at0 | exact set_hit (by first | assumption | exact set_hit (by assumption)) | apply ats)) (by rfl) (by rfl) (by rfl) (by rfl)) ?_)
        refine WL.nil ?_
        refine EQ.sub ((Sub.cons (i := 4) rfl (Sub.cons (i := 7) rfl (Sub.nil _)))) ?_
        refine EQ.code ?_
        refine WC.seq ?_
        refine WC.region ?_
        refine WL.p (.none rfl) rfl (OpP.move rfl) ?_
        refine WL.p (.none rfl) rfl (OpP.assign rfl) ?_
        refine WL.nil ?_
        refine EQ.sub ((Sub.cons (i := 4) rfl (Sub.nil _))) ?_
        refine EQ.code ?_
        refine WC.ret ?_
        refine EQ.finD (H' := H.set i (g, { x with bits := Go.bits .or .u64 x.bits b }.obj)) (res1 rfl (.tmp rfl)) (by intro _ h; first | exact h.drop | exact h.drop.drop) ?_
        exact ⟨by (have e : x.ask x.n b = 0 := by omega); rw [e]; first | done | rfl, by rw [if_pos (by omega)]; first | done | rfl⟩
      · -- cond 1 f
        (try simp only [decide_eq_true_eq, decide_eq_false_iff_not, Bool.not_eq_true', Bool.not_eq_false', Bool.or_eq_true, Bool.and_eq_true, Bool.or_eq_false_iff, Bool.and_eq_false_imp, Option.isNone_some, Bool.false_eq_true, false_or, true_and] at hc1)
        exact absurd trivial hc1
    · -- 9 first
      refine WL.allocX z_38 rfl (fun b6 => ?_)
      refine WL.nil ?_
      refine EQ.an ?_
      refine AJ.one 5 rfl (by kernel_rfl) (by intro _ h; first | exact h | exact h.drop | exact h.drop.drop | exact h.sublist (List.sublist_append_right _ _) | exact h.drop.sublist (List.sublist_append_right _ _)) ?_
      refine WL.callD rfl (.none rfl) rfl k_51 rfl (Or_c hb hb2 hcb hcb2 hr hz.1) ?_
      refine WL.nil ?_
      refine EQ.an ?_
      refine AJ.p (i := 6) rfl (by kernel_rfl) (.none rfl) rfl (OpP.move rfl) ?_
      refine AJ.p (i := 7) rfl (by kernel_rfl) (.none rfl) rfl (OpP.extract rfl rfl) ?_
      refine AJ.p (i := 8) rfl (by kernel_rfl) (.none rfl) rfl (OpP.extract rfl rfl) ?_
      refine AJ.one 10 rfl (by kernel_rfl) (by intro _ h; first | exact h | exact h.drop | exact h.drop.drop | exact h.sublist (List.sublist_append_right _ _) | exact h.drop.sublist (List.sublist_append_right _ _)) ?_
      first | (refine WL.s (.none rfl) rfl (OpS.storeAll rfl rfl ty_38 (by repeat (first | assumption | exact at0 | exact set_hit (by first | assumption | exact set_hit (by assumption)) | apply ats)) (by rfl) (by rfl) (by rfl) (by rfl)) ?_) | (refine WL.s (.none rfl) rfl (OpS.store rfl rfl ty_38 (by repeat (first | assumption | exact at0 | exact set_hit (by first | assumption | exact set_hit (by assumption)) | apply ats)) (by rfl) (by rfl) (by rfl) (by rfl)) ?_)
      refine WL.nil ?_
      refine EQ.an ?_
      refine AJ.p (i := 11) rfl (by kernel_rfl) (.none rfl) rfl (OpP.assign rfl) ?_
      refine AJ.done (by kernel_rfl) (by intro _ h; first | exact h | exact h.drop | exact h.drop.drop | exact h.sublist (List.sublist_append_right _ _) | exact h.drop.sublist (List.sublist_append_right _ _)) ?_
      refine EQ.sub ((Sub.cons (i := 0) rfl (Sub.cons (i := 4) rfl (Sub.cons (i := 6) rfl (Sub.cons (i := 7) rfl (Sub.nil _)))))) ?_
      refine EQ.code ?_
      refine WC.seq ?_
      refine WC.seq ?_
      refine WC.region ?_
      refine WL.p (.none rfl) rfl (OpP.move rfl) ?_
      refine WL.p (.none rfl) rfl (OpP.eqlI rfl rfl) ?_
      refine WL.nil ?_
      refine EQ.sub ((Sub.cons (i := 0) rfl (Sub.cons (i := 4) rfl (Sub.cons (i := 6) rfl (Sub.cons (i := 7) rfl (Sub.cons (i := 24) rfl (Sub.nil _))))))) ?_
      refine EQ.code ?_
      refine WC.cond rfl (fun hc2 => ?_) (fun hc2 => ?_)
      · -- cond 2 t
        (try simp only [decide_eq_true_eq, decide_eq_false_iff_not, Bool.not_eq_true', Bool.not_eq_false', Bool.or_eq_true, Bool.and_eq_true, Bool.or_eq_false_iff, Bool.and_eq_false_imp, Option.isNone_some, Bool.false_eq_true, false_or, true_and] at hc2)
        refine WC.region ?_
        refine WL.p (.none rfl) rfl (OpP.move rfl) ?_
        refine WL.p (.none rfl) rfl (OpP.loadB rfl ty_38 (by repeat (first | assumption | exact List.mem_cons_self | exact List.mem_of_getElem? (by assumption) | exact set_mem (by first | assumption | exact set_hit (by assumption)) | apply List.mem_cons_of_mem | apply List.mem_append_right)) (by rfl)) ?_
        refine WL.p (.none rfl) rfl (OpP.nilCheck rfl) ?_
        refine WL.p (.none rfl) rfl (OpP.fieldAddr rfl fld_57_3) ?_
        first | (refine WL.s (.none rfl) rfl (OpS.storeAll rfl rfl ty_38 (by repeat (first | assumption | exact at0 | exact set_hit (by first | assumption | exact set_hit (by assumption)) | apply ats)) (by rfl) (by rfl) (by rfl) (by rfl)) ?_) | (refine WL.s (.none rfl) rfl (OpS.store rfl rfl ty_38 (by repeat (first | assumption | exact at0 | exact set_hit (by first | assumption | exact set_hit (by assumption)) | apply ats)) (by rfl) (by rfl) (by rfl) (by rfl)) ?_)
        refine WL.nil ?_
        refine EQ.sub ((Sub.cons (i := 4) rfl (Sub.cons (i := 7) rfl (Sub.nil _)))) ?_
        refine EQ.code ?_
        refine WC.seq ?_
        refine WC.region ?_
        refine WL.p (.none rfl) rfl (OpP.move rfl) ?_
        refine WL.p (.none rfl) rfl (OpP.assign rfl) ?_
        refine WL.nil ?_
        refine EQ.sub ((Sub.cons (i := 4) rfl (Sub.nil _))) ?_
        refine EQ.code ?_
        refine WC.ret ?_
        refine EQ.finD (H' := H.set i (g, { x with bits := Go.bits .or .u64 x.bits b }.obj)) (res1 rfl (.tmp rfl)) (by intro _ h; first | exact h.drop | exact h.drop.drop) ?_
        exact ⟨by (have e : x.ask x.n b = 0 := by omega); rw [e]; first | done | rfl, by rw [if_pos (by omega)]; first | done | rfl⟩
      · -- cond 2 f
        (try simp only [decide_eq_true_eq, decide_eq_false_iff_not, Bool.not_eq_true', Bool.not_eq_false', Bool.or_eq_true, Bool.and_eq_true, Bool.or_eq_false_iff, Bool.and_eq_false_imp, Option.isNone_some, Bool.false_eq_true, false_or, true_and] at hc2)
        exact absurd trivial hc2

set_option maxRecDepth 100000 in
theorem Anew_c {W0 : World} {H : Hp} {g i : Nat} {x : Snd} (hi : H[i]? = some (g, x.obj)) {n b : Int} (hcb : 0 ≤ b) (hcb2 : b < 18446744073709551616) :
    CxD Try.prog W0 20 #[.pointer (some ⟨g, 0, none⟩), mv n b] H (.int .i64 (x.ask n b)) (if x.ask n b = 0 then H.set i (g, { x with n := n, bits := b, pos := 0 }.obj) else H) := by
  refine enter Try.func20 rfl Try.ntmps20 rfl ?_
  refine WC.seq ?_
  refine WC.region ?_
  refine WL.box rfl rfl rfl (fun b3 => ?_)
  refine WL.p (.none rfl) rfl (OpP.assign rfl) ?_
  refine WL.nil ?_
  refine EQ.sub ((Sub.cons (i := 0) rfl (Sub.cons (i := 3) rfl (Sub.cons (i := 4) rfl (Sub.nil _))))) ?_
  refine EQ.code ?_
  refine WC.seq ?_
  refine WC.region ?_
  refine WL.p (.none rfl) rfl (OpP.move rfl) ?_
  refine WL.p (.none rfl) rfl (OpP.loadB rfl ty_38 (by repeat (first | assumption | exact List.mem_cons_self | exact List.mem_of_getElem? (by assumption) | exact set_mem (by first | assumption | exact set_hit (by assumption)) | apply List.mem_cons_of_mem | apply List.mem_append_right)) (by rfl)) ?_
  refine WL.callD rfl (.none rfl) rfl k_50 rfl (ask_c (ats hi) hcb hcb2 trivial) ?_
  refine WL.p (.none rfl) rfl (OpP.assign rfl) ?_
  refine WL.nil ?_
  refine EQ.sub ((Sub.cons (i := 0) rfl (Sub.cons (i := 3) rfl (Sub.cons (i := 4) rfl (Sub.cons (i := 5) rfl (Sub.nil _)))))) ?_
  refine EQ.code ?_
  refine WC.seq ?_
  refine WC.seq ?_
  refine WC.region ?_
  refine WL.p (.none rfl) rfl (OpP.move rfl) ?_
  refine WL.p (.none rfl) rfl (OpP.eqlI rfl rfl) ?_
  refine WL.nil ?_
  refine EQ.sub ((Sub.cons (i := 0) rfl (Sub.cons (i := 3) rfl (Sub.cons (i := 4) rfl (Sub.cons (i := 5) rfl (Sub.cons (i := 10) rfl (Sub.nil _))))))) ?_
  refine EQ.code ?_
  refine WC.cond rfl (fun hc0 => ?_) (fun hc0 => ?_)
  · -- cond 0 t
    (try simp only [decide_eq_true_eq, decide_eq_false_iff_not, Bool.not_eq_true', Bool.not_eq_false', Bool.or_eq_true, Bool.and_eq_true, Bool.or_eq_false_iff, Bool.and_eq_false_imp, Option.isNone_some, Bool.false_eq_true, false_or, true_and] at hc0)
    refine WC.region ?_
    refine WL.p (.none rfl) rfl (OpP.move rfl) ?_
    refine WL.p (.none rfl) rfl (OpP.move rfl) ?_
    refine WL.p (.none rfl) rfl (OpP.loadB rfl ty_38 (by repeat (first | assumption | exact List.mem_cons_self | exact List.mem_of_getElem? (by assumption) | exact set_mem (by first | assumption | exact set_hit (by assumption)) | apply List.mem_cons_of_mem | apply List.mem_append_right)) (by rfl)) ?_
    refine WL.p (.none rfl) rfl (OpP.nilCheck rfl) ?_
    refine WL.p (.none rfl) rfl (OpP.fieldAddr rfl fld_57_3) ?_
    first | (refine WL.s (.none rfl) rfl (OpS.storeAll rfl rfl ty_38 (by repeat (first | assumption | exact at0 | exact set_hit (by first | assumption | exact set_hit (by assumption)) | apply ats)) (by rfl) (by rfl) (by rfl) (by rfl)) ?_) | (refine WL.s (.none rfl) rfl (OpS.store rfl rfl ty_38 (by repeat (first | assumption | exact at0 | exact set_hit (by first | assumption | exact set_hit (by assumption)) | apply ats)) (by rfl) (by rfl) (by rfl) (by rfl)) ?_)
    refine WL.p (.none rfl) rfl (OpP.nilCheck rfl) ?_
    refine WL.p (.none rfl) rfl (OpP.fieldAddr rfl fld_57_4) ?_
    refine WL.s (.none rfl) rfl (OpS.store rfl rfl ty_3 (by repeat (first | assumption | exact at0 | exact set_hit (by first | assumption | exact set_hit (by assumption)) | apply ats)) (by rfl) (by rfl) (by rfl) (by rfl)) ?_
    refine WL.nil ?_
    refine EQ.sub ((Sub.cons (i := 4) rfl (Sub.cons (i := 5) rfl (Sub.nil _)))) ?_
    refine EQ.code ?_
    refine WC.seq ?_
    refine WC.region ?_
    refine WL.p (.none rfl) rfl (OpP.move rfl) ?_
    refine WL.p (.none rfl) rfl (OpP.assign rfl) ?_
    refine WL.nil ?_
    refine EQ.sub ((Sub.cons (i := 4) rfl (Sub.nil _))) ?_
    refine EQ.code ?_
    refine WC.ret ?_
    refine EQ.finD (H' := H.set i (g, { x with n := n, bits := b, pos := 0 }.obj)) (res1 rfl (.tmp rfl)) (by intro _ h; first | exact h.drop | (simp only [List.set_cons_succ, List.set_set] at h; exact h.drop)) ?_
    exact ⟨rfl, by rw [if_pos hc0]⟩
  · -- cond 0 f
    (try simp only [decide_eq_true_eq, decide_eq_false_iff_not, Bool.not_eq_true', Bool.not_eq_false', Bool.or_eq_true, Bool.and_eq_true, Bool.or_eq_false_iff, Bool.and_eq_false_imp, Option.isNone_some, Bool.false_eq_true, false_or, true_and] at hc0)
    refine WC.skip ?_
    refine EQ.code ?_
    refine WC.seq ?_
    refine WC.region ?_
    refine WL.p (.none rfl) rfl (OpP.move rfl) ?_
    refine WL.p (.none rfl) rfl (OpP.assign rfl) ?_
    refine WL.nil ?_
    refine EQ.sub ((Sub.cons (i := 4) rfl (Sub.nil _))) ?_
    refine EQ.code ?_
    refine WC.ret ?_
    refine EQ.finD (H' := H) (res1 rfl (.tmp rfl)) (by intro _ h; first | exact h.drop | (simp only [List.set_cons_succ, List.set_set] at h; exact h.drop)) ?_
    exact ⟨rfl, by rw [if_neg hc0]⟩

end Go.Proofs.Ytmeimjpjelmchaa
