/- Cs: walks of functions of the program, each over the rules of Sx. No conditions but those in the theorems' heads. -/
import Derived.Test.YtmeimjpjelmchaaRkn
import Derived.Test.YtmeimjpjelmchaaProg
set_option linter.unusedVariables false
set_option linter.unusedSimpArgs false
namespace Go.Proofs.Ytmeimjpjelmchaa
open Go.RowKit Go.Sx
namespace Cs
theorem el_60 : elI Try.prog 60 = some (none, 3, false, 1) := by kernel_rfl
theorem fld_34_2 : fldI Try.prog 34 2 = some (2, false, 1) := by kernel_rfl
theorem fld_57_1 : fldI Try.prog 57 1 = some (1, true, 35) := by kernel_rfl
theorem fld_57_3 : fldI Try.prog 57 3 = some (37, true, 2) := by kernel_rfl
theorem k_35 : Cal Try.prog 35 := ⟨_, _, Try.func35, by kernel_rfl, rfl⟩
theorem k_49 : Cal Try.prog 49 := ⟨_, _, Try.func49, by kernel_rfl, rfl⟩
theorem k_56 : Cal Try.prog 56 := ⟨_, _, Try.func56, by kernel_rfl, rfl⟩
theorem k_57 : Cal Try.prog 57 := ⟨_, _, Try.func57, by kernel_rfl, rfl⟩
theorem sl_60 : slI Try.prog 60 = some (3, 1, 8) := by kernel_rfl
theorem ty_3 : tyI Try.prog 3 = some (false, 1) := by kernel_rfl
theorem ty_38 : tyI Try.prog 38 = some (true, 2) := by kernel_rfl
end Cs
open Cs

/-- The lengths of the missing chunks from the next one on, and of those ahead of it. -/
def costA (x : Snd) (l : List Nat) : List Int := (l.filter fun (i : Nat) => decide ((i : Int) ≥ x.next)).map fun (i : Nat) => lengthAt x.size (i : Int)
def costB (x : Snd) (l : List Nat) : List Int := (l.filter fun (i : Nat) => !decide ((i : Int) ≥ x.next)).map fun (i : Nat) => lengthAt x.size (i : Int)
def costL (x : Snd) : List Int := costA x (missL x.n x.bits) ++ costB x (missL x.n x.bits)
theorem take_snoc {α : Type} (l : List α) (d : α) (k : Nat) (hk : k < l.length) : l.take (k + 1) = l.take k ++ [l.getD k d] := by
  rw [List.take_succ_eq_append_getElem hk]; simp [List.getD_eq_getElem?_getD, hk]
theorem costA_succ (x : Snd) (l : List Nat) (k : Nat) (hk : k < l.length) : costA x (l.take (k + 1)) = costA x (l.take k) ++ (if ((l.getD k 0 : Nat) : Int) ≥ x.next then [lengthAt x.size ((l.getD k 0 : Nat) : Int)] else []) := by
  rw [take_snoc l 0 k hk]
  unfold costA
  rw [List.filter_append, List.map_append]
  congr 1
  by_cases h : ((l.getD k 0 : Nat) : Int) ≥ x.next <;> simp only [List.filter_cons, h, decide_true, decide_false, if_true, if_false, List.filter_nil, List.map_cons, List.map_nil, Bool.false_eq_true]
theorem costB_succ (x : Snd) (l : List Nat) (k : Nat) (hk : k < l.length) : costB x (l.take (k + 1)) = costB x (l.take k) ++ (if ((l.getD k 0 : Nat) : Int) ≥ x.next then [] else [lengthAt x.size ((l.getD k 0 : Nat) : Int)]) := by
  rw [take_snoc l 0 k hk]
  unfold costB
  rw [List.filter_append, List.map_append]
  congr 1
  by_cases h : ((l.getD k 0 : Nat) : Int) ≥ x.next <;> simp only [List.filter_cons, h, decide_true, decide_false, if_true, if_false, List.filter_nil, List.map_cons, List.map_nil, Bool.false_eq_true, Bool.not_true, Bool.not_false]
theorem costA_le (x : Snd) (l : List Nat) : (costA x l).length ≤ l.length := by
  unfold costA; rw [List.length_map]; exact List.length_filter_le _ _
theorem costB_le (x : Snd) (l : List Nat) : (costB x l).length ≤ l.length := by
  unfold costB; rw [List.length_map]; exact List.length_filter_le _ _
theorem missL_getD {n b : Int} (k : Nat) (hk : k < (missL n b).length) : (missL n b).getD k 0 < n.toNat := by
  have e : (missL n b).getD k 0 = (missL n b)[k] := by rw [List.getD_eq_getElem?_getD, List.getElem?_eq_getElem hk]; rfl
  rw [e]; exact missL_lt (List.getElem_mem hk)

set_option maxRecDepth 100000 in
theorem Costs_c {W0 : World} {H : Hp} {g i : Nat} {x : Snd} (hi : H[i]? = some (g, x.obj)) (hb : 0 ≤ x.bits) (hb2 : x.bits < 18446744073709551616) {q : Int} (hr : mRight x.n x.bits = true) (hnx : 0 ≤ x.next) : CxX Try.prog W0 29 #[.pointer (some ⟨g, 0, none⟩), .int .i64 q] H (fun v H' => ∃ ds, H' = ds ++ H ∧
    OwnS 3 1 v (max 0 (min q ((costL x).length : Int))).toNat (iv .i64 ((costL x).take (max 0 (min q ((costL x).length : Int))).toNat)) ds) := by
  have hle : (missL x.n x.bits).length ≤ 64 := by have := missTo_length x.n x.bits x.n.toNat; have := mRight_spec hr; show (missTo x.n x.bits x.n.toNat).length ≤ 64; omega
  refine enter Try.func29 rfl Try.ntmps29 rfl ?_
  refine WC.seq ?_
  refine WC.region ?_
  refine WL.p (.none rfl) rfl (OpP.assign rfl) ?_
  refine WL.nil ?_
  refine EQ.sub ((Sub.cons (i := 0) rfl (Sub.cons (i := 1) rfl (Sub.cons (i := 4) rfl (Sub.nil _))))) ?_
  refine EQ.code ?_
  refine WC.seq ?_
  refine WC.region ?_
  refine WL.p (.none rfl) rfl (OpP.move rfl) ?_
  refine WL.callD rfl (.none rfl) rfl k_49 rfl (next_c hi hb hb2 hr) ?_
  refine WL.p (.none rfl) rfl (OpP.assign rfl) ?_
  refine WL.nil ?_
  refine EQ.sub ((Sub.cons (i := 0) rfl (Sub.cons (i := 1) rfl (Sub.cons (i := 4) rfl (Sub.cons (i := 5) rfl (Sub.nil _)))))) ?_
  refine EQ.code ?_
  refine WC.seq ?_
  refine WC.seq ?_
  refine WC.region ?_
  refine WL.p (.none rfl) rfl (OpP.move rfl) ?_
  refine WL.p (.none rfl) rfl (OpP.lss rfl rfl) ?_
  refine WL.nil ?_
  refine EQ.sub ((Sub.cons (i := 0) rfl (Sub.cons (i := 1) rfl (Sub.cons (i := 4) rfl (Sub.cons (i := 5) rfl (Sub.cons (i := 15) rfl (Sub.nil _))))))) ?_
  refine EQ.code ?_
  refine WC.cond rfl (fun hc0 => ?_) (fun hc0 => ?_)
  · -- cond 0 t
    (try simp only [decide_eq_true_eq, decide_eq_false_iff_not, Bool.not_eq_true', Bool.not_eq_false', Bool.or_eq_true, Bool.and_eq_true, Bool.or_eq_false_iff, Bool.and_eq_false_imp, Option.isNone_some, Bool.false_eq_true, false_or, true_and] at hc0)
    exfalso; omega
  · -- cond 0 f
    (try simp only [decide_eq_true_eq, decide_eq_false_iff_not, Bool.not_eq_true', Bool.not_eq_false', Bool.or_eq_true, Bool.and_eq_true, Bool.or_eq_false_iff, Bool.and_eq_false_imp, Option.isNone_some, Bool.false_eq_true, false_or, true_and] at hc0)
    refine WC.skip ?_
    refine EQ.code ?_
    refine WC.seq ?_
    refine WC.region ?_
    refine WL.p (.none rfl) rfl (OpP.assign rfl) ?_
    refine WL.p (.none rfl) rfl (OpP.assign rfl) ?_
    refine WL.nil ?_
    refine EQ.sub ((Sub.cons (i := 0) rfl (Sub.cons (i := 1) rfl (Sub.cons (i := 4) rfl (Sub.cons (i := 5) rfl (Sub.cons (i := 6) rfl (Sub.cons (i := 7) rfl (Sub.nil _)))))))) ?_
    refine EQ.code ?_
    refine WC.seq ?_
    refine WC.seq ?_
    refine WC.region ?_
    refine WL.p (.none rfl) rfl (OpP.move rfl) ?_
    refine WL.p (.none rfl) rfl (OpP.nilCheck rfl) ?_
    refine WL.p (.none rfl) rfl (OpP.fieldAddr rfl fld_57_3) ?_
    refine WL.p (.none rfl) rfl (OpP.loadB rfl ty_38 (by repeat (first | assumption | exact List.mem_cons_self | exact List.mem_of_getElem? (by assumption) | exact set_mem (by first | assumption | exact set_hit (by assumption)) | apply List.mem_cons_of_mem | apply List.mem_append_right)) (by rfl)) ?_
    refine WL.call rfl (.none rfl) rfl k_56 rfl (Missing_c hb hb2 hr) ?_
    rintro _ _ ⟨ds, rfl, hown⟩
    obtain ⟨a, c, rfl, hlc, hlc2, hs⟩ := hown.val
    refine WL.p (.none rfl) rfl (OpP.lenSl rfl Try.underlying60) ?_
    refine WL.p (.none rfl) rfl (OpP.move rfl) ?_
    refine WL.nil ?_
    refine EQ.sub ((Sub.cons (i := 0) rfl (Sub.cons (i := 1) rfl (Sub.cons (i := 4) rfl (Sub.cons (i := 5) rfl (Sub.cons (i := 6) rfl (Sub.cons (i := 7) rfl (Sub.cons (i := 20) rfl (Sub.cons (i := 21) rfl (Sub.cons (i := 22) rfl (Sub.nil _))))))))))) ?_
    refine EQ.code ?_
    refine WC.block ?_
    refine WC.loop (σ := Nat × (Value × Hp) × (Value × Hp)) (fun s => [(0, .pointer (some ⟨g, 0, none⟩)), (1, .int .i64 q), (5, .int .i64 x.next), (6, s.2.1.1), (7, s.2.2.1), (20, .slice a (missL x.n x.bits).length c), (21, .int .i64 ((missL x.n x.bits).length : Int)), (22, .int .i64 (s.1 : Int))]) (fun s => s.2.1.2 ++ (s.2.2.2 ++ (ds ++ H))) (fun s => s.1 ≤ (missL x.n x.bits).length ∧ OwnS 3 1 s.2.1.1 (costA x ((missL x.n x.bits).take s.1)).length (iv .i64 (costA x ((missL x.n x.bits).take s.1))) s.2.1.2 ∧ OwnS 3 1 s.2.2.1 (costB x ((missL x.n x.bits).take s.1)).length (iv .i64 (costB x ((missL x.n x.bits).take s.1))) s.2.2.2) (fun s => (missL x.n x.bits).length - s.1) (0, (.slice none 0 0, []), (.slice none 0 0, [])) ⟨Nat.zero_le _, OwnS.nil _ _, OwnS.nil _ _⟩ ((Sub.cons rfl (Sub.cons rfl (Sub.cons rfl (Sub.cons rfl (Sub.cons rfl (Sub.cons rfl (Sub.cons rfl (Sub.cons rfl (Sub.nil _)))))))))) (fun _ h => h) (fun ⟨k, ⟨v1, d1⟩, ⟨v2, d2⟩⟩ hinv => ?_)
    (try simp only at hinv ⊢)
    obtain ⟨hk, hown1, hown2⟩ := hinv
    have hsl := (hs W0 H).of (fun w h => h.sublist ((List.sublist_append_right d2 _).trans (List.sublist_append_right d1 _)))
    have hla := costA_le x ((missL x.n x.bits).take k)
    have hlb := costB_le x ((missL x.n x.bits).take k)
    rw [List.length_take] at hla hlb
    refine WC.seq ?_
    refine WC.region ?_
    refine WL.p (.none rfl) rfl (OpP.lss rfl rfl) ?_
    refine WL.nil ?_
    refine EQ.sub ((Sub.cons (i := 0) rfl (Sub.cons (i := 1) rfl (Sub.cons (i := 5) rfl (Sub.cons (i := 6) rfl (Sub.cons (i := 7) rfl (Sub.cons (i := 20) rfl (Sub.cons (i := 21) rfl (Sub.cons (i := 22) rfl (Sub.cons (i := 23) rfl (Sub.nil _))))))))))) ?_
    refine EQ.code ?_
    refine WC.seq ?_
    refine WC.cond rfl (fun hc1 => ?_) (fun hc1 => ?_)
    · -- cond 1 t
      (try simp only [decide_eq_true_eq, decide_eq_false_iff_not, Bool.not_eq_true', Bool.not_eq_false', Bool.or_eq_true, Bool.and_eq_true, Bool.or_eq_false_iff, Bool.and_eq_false_imp, Option.isNone_some, Bool.false_eq_true, false_or, true_and] at hc1)
      refine WC.skip ?_
      refine EQ.code ?_
      refine WC.seq ?_
      refine WC.block ?_
      refine WC.seq ?_
      refine WC.region ?_
      have ha : a ≠ none := by intro h; have := hsl.1 h; simp at this; rw [this] at hc1; simp at hc1; omega
      refine WL.p (.none rfl) rfl (OpP.indexSl rfl rfl el_60 (by omega) (by omega) ha) ?_
      refine WL.p (.none rfl) rfl (OpP.load rfl ty_3 (ivs_get hsl k (by omega))) ?_
      refine WL.p (.none rfl) rfl (OpP.assign rfl) ?_
      refine WL.nil ?_
      refine EQ.sub ((Sub.cons (i := 0) rfl (Sub.cons (i := 1) rfl (Sub.cons (i := 5) rfl (Sub.cons (i := 6) rfl (Sub.cons (i := 7) rfl (Sub.cons (i := 9) rfl (Sub.cons (i := 20) rfl (Sub.cons (i := 21) rfl (Sub.cons (i := 22) rfl (Sub.nil _))))))))))) ?_
      refine EQ.code ?_
      refine WC.seq ?_
      refine WC.region ?_
      refine WL.p (.none rfl) rfl (OpP.move rfl) ?_
      refine WL.p (.none rfl) rfl (OpP.nilCheck rfl) ?_
      refine WL.p (.none rfl) rfl (OpP.fieldAddr rfl fld_57_1) ?_
      refine WL.p (.none rfl) rfl (OpP.fieldAddr rfl fld_34_2) ?_
      refine WL.p (.none rfl) rfl (OpP.load rfl ty_3 (Rd.own (by repeat (first | assumption | exact List.mem_cons_self | exact List.mem_of_getElem? (by assumption) | exact set_mem (by first | assumption | exact set_hit (by assumption)) | apply List.mem_cons_of_mem | apply List.mem_append_right)) (by rfl))) ?_
      refine WL.p (.none rfl) rfl (OpP.move rfl) ?_
      refine WL.callD rfl (.none rfl) rfl k_35 rfl (Length_c (by have := missL_getD (n := x.n) (b := x.bits) k (by omega); have := mRight_spec hr; omega)) ?_
      refine WL.p (.none rfl) rfl (OpP.assign rfl) ?_
      refine WL.nil ?_
      refine EQ.sub ((Sub.cons (i := 0) rfl (Sub.cons (i := 1) rfl (Sub.cons (i := 5) rfl (Sub.cons (i := 6) rfl (Sub.cons (i := 7) rfl (Sub.cons (i := 9) rfl (Sub.cons (i := 10) rfl (Sub.cons (i := 20) rfl (Sub.cons (i := 21) rfl (Sub.cons (i := 22) rfl (Sub.nil _)))))))))))) ?_
      refine EQ.code ?_
      refine WC.seq ?_
      refine WC.region ?_
      refine WL.p (.none rfl) rfl (OpP.move rfl) ?_
      refine WL.p (.none rfl) rfl (OpP.move rfl) ?_
      refine WL.p (.none rfl) rfl (OpP.geq rfl rfl) ?_
      refine WL.nil ?_
      refine EQ.sub ((Sub.cons (i := 0) rfl (Sub.cons (i := 1) rfl (Sub.cons (i := 5) rfl (Sub.cons (i := 6) rfl (Sub.cons (i := 7) rfl (Sub.cons (i := 10) rfl (Sub.cons (i := 20) rfl (Sub.cons (i := 21) rfl (Sub.cons (i := 22) rfl (Sub.cons (i := 35) rfl (Sub.nil _)))))))))))) ?_
      refine EQ.code ?_
      refine WC.cond rfl (fun hc2 => ?_) (fun hc2 => ?_)
      · -- cond 2 t
        (try simp only [decide_eq_true_eq, decide_eq_false_iff_not, Bool.not_eq_true', Bool.not_eq_false', Bool.or_eq_true, Bool.and_eq_true, Bool.or_eq_false_iff, Bool.and_eq_false_imp, Option.isNone_some, Bool.false_eq_true, false_or, true_and] at hc2)
        refine WC.region ?_
        refine WL.p (.none rfl) rfl (OpP.move rfl) ?_
        refine WL.p (.none rfl) rfl (OpP.move rfl) ?_
        refine WL.buildSlice1 sl_60 rfl rfl (by decide) rfl rfl (by rfl) (fun b38 => ?_)
        refine WL.toMid ?_
        refine WL.append (seg := d1) (R := (b38, cl [.int .i64 (lengthAt x.size (((missL x.n x.bits).getD k 0 : Nat) : Int))] 3) :: (d2 ++ (ds ++ H))) (news := [.int .i64 (lengthAt x.size (((missL x.n x.bits).getD k 0 : Nat) : Int))]) rfl (.none rfl) rfl sl_60 rfl rfl hown1 (Sl.own (List.mem_append_right _ List.mem_cons_self) (fun j x hj => by simpa using hj)) rfl (by simp [Value.oneCell']) (by decide) (by simp only [maxLen]; omega) (by omega) (fun v39 d3 hown3 _ => ?_)
        refine WL.p (.none rfl) rfl (OpP.assign rfl) ?_
        refine WL.nil ?_
        refine EQ.sub ((Sub.cons (i := 0) rfl (Sub.cons (i := 1) rfl (Sub.cons (i := 5) rfl (Sub.cons (i := 6) rfl (Sub.cons (i := 7) rfl (Sub.cons (i := 20) rfl (Sub.cons (i := 21) rfl (Sub.cons (i := 22) rfl (Sub.nil _)))))))))) ?_
        refine EQ.blockN ?_
        refine EQ.code ?_
        refine WC.region ?_
        first | (refine WL.p (.none rfl) rfl (OpP.add64 rfl rfl (by omega)) ?_) | (refine WL.p (.none rfl) rfl (OpP.add rfl rfl) ?_)
        refine WL.p (.none rfl) rfl (OpP.move rfl) ?_
        refine WL.nil ?_
        refine EQ.sub ((Sub.cons (i := 0) rfl (Sub.cons (i := 1) rfl (Sub.cons (i := 5) rfl (Sub.cons (i := 6) rfl (Sub.cons (i := 7) rfl (Sub.cons (i := 20) rfl (Sub.cons (i := 21) rfl (Sub.cons (i := 22) rfl (Sub.nil _)))))))))) ?_
        have hsa := costA_succ x (missL x.n x.bits) k (by omega)
        have hsb := costB_succ x (missL x.n x.bits) k (by omega)
        rw [if_pos (by simpa using hc2)] at hsa hsb
        rw [List.append_nil] at hsb
        refine EQ.again (k + 1, (v39, d3), (v2, d2)) ?_ ?_ ?_ ?_
        · refine ⟨by (try simp only); omega, ?_, ?_⟩
          · show OwnS 3 1 v39 _ _ d3
            rw [hsa, List.length_append]; simpa using hown3
          · show OwnS 3 1 v2 _ _ d2
            rw [hsb]; exact hown2
        · (try simp only); omega
        · exact ((Sub.cons rfl (Sub.cons rfl (Sub.cons rfl (Sub.cons rfl (Sub.cons rfl (Sub.cons rfl (Sub.cons rfl (Sub.cons rfl (Sub.nil _))))))))))
        · intro _ h; first | exact h | exact h.drop | exact h.drop_mid | exact h.drop_mid.drop_mid
      · -- cond 2 f
        (try simp only [decide_eq_true_eq, decide_eq_false_iff_not, Bool.not_eq_true', Bool.not_eq_false', Bool.or_eq_true, Bool.and_eq_true, Bool.or_eq_false_iff, Bool.and_eq_false_imp, Option.isNone_some, Bool.false_eq_true, false_or, true_and] at hc2)
        refine WC.region ?_
        refine WL.p (.none rfl) rfl (OpP.move rfl) ?_
        refine WL.p (.none rfl) rfl (OpP.move rfl) ?_
        refine WL.buildSlice1 sl_60 rfl rfl (by decide) rfl rfl (by rfl) (fun b42 => ?_)
        refine WL.perm (((List.perm_append_comm_assoc d1 d2 (ds ++ H)).cons _).trans List.perm_middle.symm) ?_
        refine WL.append (seg := d2) (R := (b42, cl [.int .i64 (lengthAt x.size (((missL x.n x.bits).getD k 0 : Nat) : Int))] 3) :: (d1 ++ (ds ++ H))) (news := [.int .i64 (lengthAt x.size (((missL x.n x.bits).getD k 0 : Nat) : Int))]) rfl (.none rfl) rfl sl_60 rfl rfl hown2 (Sl.own (List.mem_append_right _ List.mem_cons_self) (fun j x hj => by simpa using hj)) rfl (by simp [Value.oneCell']) (by decide) (by simp only [maxLen]; omega) (by omega) (fun v39 d3 hown3 _ => ?_)
        refine WL.p (.none rfl) rfl (OpP.assign rfl) ?_
        refine WL.nil ?_
        refine EQ.sub ((Sub.cons (i := 0) rfl (Sub.cons (i := 1) rfl (Sub.cons (i := 5) rfl (Sub.cons (i := 6) rfl (Sub.cons (i := 7) rfl (Sub.cons (i := 20) rfl (Sub.cons (i := 21) rfl (Sub.cons (i := 22) rfl (Sub.nil _)))))))))) ?_
        refine EQ.blockN ?_
        refine EQ.code ?_
        refine WC.region ?_
        first | (refine WL.p (.none rfl) rfl (OpP.add64 rfl rfl (by omega)) ?_) | (refine WL.p (.none rfl) rfl (OpP.add rfl rfl) ?_)
        refine WL.p (.none rfl) rfl (OpP.move rfl) ?_
        refine WL.nil ?_
        refine EQ.sub ((Sub.cons (i := 0) rfl (Sub.cons (i := 1) rfl (Sub.cons (i := 5) rfl (Sub.cons (i := 6) rfl (Sub.cons (i := 7) rfl (Sub.cons (i := 20) rfl (Sub.cons (i := 21) rfl (Sub.cons (i := 22) rfl (Sub.nil _)))))))))) ?_
        have hsa := costA_succ x (missL x.n x.bits) k (by omega)
        have hsb := costB_succ x (missL x.n x.bits) k (by omega)
        rw [if_neg (by simpa using hc2)] at hsa hsb
        rw [List.append_nil] at hsa
        refine EQ.again (k + 1, (v1, d1), (v39, d3)) ?_ ?_ ?_ ?_
        · refine ⟨by (try simp only); omega, ?_, ?_⟩
          · show OwnS 3 1 v1 _ _ d1
            rw [hsa]; exact hown1
          · show OwnS 3 1 v39 _ _ d3
            rw [hsb, List.length_append]; simpa using hown3
        · (try simp only); omega
        · exact ((Sub.cons rfl (Sub.cons rfl (Sub.cons rfl (Sub.cons rfl (Sub.cons rfl (Sub.cons rfl (Sub.cons rfl (Sub.cons rfl (Sub.nil _))))))))))
        · intro _ h; exact (h.drop_mid).perm (List.perm_append_comm_assoc _ _ _)
    · -- cond 1 f
      (try simp only [decide_eq_true_eq, decide_eq_false_iff_not, Bool.not_eq_true', Bool.not_eq_false', Bool.or_eq_true, Bool.and_eq_true, Bool.or_eq_false_iff, Bool.and_eq_false_imp, Option.isNone_some, Bool.false_eq_true, false_or, true_and] at hc1)
      refine WC.exit ?_
      refine EQ.thenE ?_
      refine EQ.thenE ?_
      refine EQ.blockHit ?_
      refine EQ.code ?_
      refine WC.seq ?_
      refine WC.region ?_
      obtain ⟨a2, c2, rfl, hcc2, hcc2b, hs2⟩ := hown2.val
      refine WL.p (.none rfl) rfl (OpP.move rfl) ?_
      refine WL.p (.none rfl) rfl (OpP.move rfl) ?_
      have hk2 : (missL x.n x.bits).take k = (missL x.n x.bits) := List.take_of_length_le (by omega)
      rw [hk2] at hown1 hown2 hs2
      have hcl : (costL x).length = (costA x (missL x.n x.bits)).length + (costB x (missL x.n x.bits)).length := by unfold costL; rw [List.length_append]
      have hla2 := costA_le x (missL x.n x.bits)
      have hlb2 := costB_le x (missL x.n x.bits)
      refine WL.append (seg := d1) (R := d2 ++ (ds ++ H)) (news := iv .i64 (costB x (missL x.n x.bits))) rfl (.none rfl) rfl sl_60 rfl (by rw [hk2]; rfl) hown1 ((hs2 W0 (ds ++ H)).of (fun w h => h.sublist (List.sublist_append_right _ _))) (by simp) iv_mem (by decide) (by simp only [maxLen]; omega) (by omega) (fun v47 d4 hown4 _ => ?_)
      rw [← hcl, show iv .i64 (costA x (missL x.n x.bits)) ++ iv .i64 (costB x (missL x.n x.bits)) = iv .i64 (costL x) from (List.map_append).symm] at hown4
      obtain ⟨a4, c4, rfl, hc4, hc4b, hs4⟩ := hown4.val
      refine WL.p (.none rfl) rfl (OpP.assign rfl) ?_
      refine WL.nil ?_
      refine EQ.sub ((Sub.cons (i := 1) rfl (Sub.cons (i := 11) rfl (Sub.nil _)))) ?_
      refine EQ.code ?_
      refine WC.seq ?_
      refine WC.region ?_
      refine WL.p (.none rfl) rfl (OpP.move rfl) ?_
      refine WL.p (.none rfl) rfl (OpP.move rfl) ?_
      refine WL.p (.none rfl) rfl (OpP.move rfl) ?_
      refine WL.p (.none rfl) rfl (OpP.lenSl rfl Try.underlying60) ?_
      refine WL.p (.none rfl) rfl (OpP.min2 rfl rfl) ?_
      refine WL.p (.none rfl) rfl (OpP.max2 rfl rfl) ?_
      refine WL.p (.none rfl) rfl (OpP.slice rfl sl_60 (l := _) (rfl) (rfl) (⟨_, rfl⟩) (by omega) (by omega) (by omega) (by omega)) ?_
      refine WL.call rfl (.none rfl) rfl k_57 rfl (Clone57_c (l := (costL x).take (max 0 (min q ((costL x).length : Int))).toNat) (by rw [List.length_take]; omega) (by rw [List.length_take]; omega) ((hs4 W0 _).cutH _ _)) ?_
      rintro _ _ ⟨d5, rfl, hown5, _⟩
      refine WL.p (.none rfl) rfl (OpP.assign rfl) ?_
      refine WL.nil ?_
      refine EQ.sub ((Sub.cons (i := 4) rfl (Sub.nil _))) ?_
      refine EQ.code ?_
      refine WC.ret ?_
      refine EQ.finD (H' := d5 ++ H) (res1 rfl (.tmp rfl)) (by intro _ h; exact h.sublist (List.Sublist.append_left ((List.sublist_append_right ds _).trans ((List.sublist_append_right d2 _).trans (List.sublist_append_right d4 _))) d5)) ?_
      refine ⟨d5, rfl, ?_⟩
      have e : (max 0 (min q ((costL x).length : Int)) - 0).toNat = (max 0 (min q ((costL x).length : Int))).toNat := by omega
      rw [e] at hown5
      exact hown5

end Go.Proofs.Ytmeimjpjelmchaa
