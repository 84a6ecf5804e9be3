/- Tm: walks of functions of the program, each over the rules of Sx. No conditions but those in the theorems' heads. -/
import Derived.Test.YtjdkohfgbekheaaSo
import Derived.Test.YtjdkohfgbekheaaProg
set_option linter.unusedVariables false
set_option linter.unusedSimpArgs false
namespace Go.Proofs.Ytjdkohfgbekheaa
open Go.RowKit Go.Sx
namespace Tm
theorem bld_52 : bldS Try.prog 52 = some ([(0, 1), (1, 1)], [.int .u64 0, .map none]) := by kernel_rfl
theorem fld_52_0 : fldI Try.prog 52 0 = some (0, false, 1) := by kernel_rfl
theorem fld_52_1 : fldI Try.prog 52 1 = some (1, false, 1) := by kernel_rfl
theorem k_21 : Cal Try.prog 21 := ⟨_, _, Try.func21, by kernel_rfl, rfl⟩
theorem k_26 : Cal Try.prog 26 := ⟨_, _, Try.func26, by kernel_rfl, rfl⟩
theorem map_50 : mapI Try.prog 50 = some (22, .u64, (.pointer none)) := by kernel_rfl
theorem sl_38 : slI Try.prog 38 = some (22, 1, 8) := by kernel_rfl
theorem ty_22 : tyI Try.prog 22 = some (false, 1) := by kernel_rfl
theorem ty_50 : tyI Try.prog 50 = some (false, 1) := by kernel_rfl
end Tm
open Tm

set_option maxRecDepth 100000 in
theorem New_c {W0 : World} {H : Hp} : CxX Try.prog W0 8 #[] H (fun v H' => ∃ g ds, v = .pointer (some ⟨g, 0, none⟩) ∧ H' = ds ++ H ∧ TR ⟨1, []⟩ g ds) := by
  refine enter Try.func8 rfl Try.ntmps8 rfl ?_
  refine WC.seq ?_
  refine WC.region ?_
  refine WL.p (.none rfl) rfl (OpP.assign rfl) ?_
  refine WL.nil ?_
  refine EQ.sub ((Sub.cons (i := 0) rfl (Sub.nil _))) ?_
  refine EQ.code ?_
  refine WC.seq ?_
  refine WC.region ?_
  refine WL.makeMap .u64 rfl (fun b1 => ?_)
  refine WL.p (.none rfl) rfl (OpP.buildS bld_52 (kI rfl (kI rfl kI0)) (by rfl)) ?_
  refine WL.box rfl rfl rfl (fun b3 => ?_)
  refine WL.p (.none rfl) rfl (OpP.assign rfl) ?_
  refine WL.nil ?_
  refine EQ.sub ((Sub.cons (i := 0) rfl (Sub.nil _))) ?_
  refine EQ.code ?_
  refine WC.ret ?_
  refine EQ.fin (res1 rfl (.tmp rfl)) ?_
  exact ⟨b3, [(b3, tabO 1 b1), (b1, mobj .u64 [] 0)], rfl, rfl, b1, [], 0, [], rfl, Mok.nil 0, rfl⟩

set_option maxRecDepth 100000 in
theorem made_c {W0 : World} {H : Hp} {g mb : Nat} {fl : Int} (htb : (g, tabO fl mb) ∈ H) : CxD Try.prog W0 21 #[.pointer (some ⟨g, 0, none⟩)] H (.bool true) H := by
  refine enter Try.func21 rfl Try.ntmps21 rfl ?_
  refine WC.seq ?_
  refine WC.region ?_
  refine WL.p (.none rfl) rfl (OpP.assign rfl) ?_
  refine WL.nil ?_
  refine EQ.sub ((Sub.cons (i := 0) rfl (Sub.cons (i := 2) rfl (Sub.nil _)))) ?_
  refine EQ.code ?_
  refine WC.seq ?_
  refine WC.region ?_
  refine WL.p (.none rfl) rfl (OpP.move rfl) ?_
  refine WL.p (.none rfl) rfl (OpP.neqNil rfl rfl Try.underlying29) ?_
  refine WL.p (.none rfl) rfl (OpP.move rfl) ?_
  refine WL.p (.yes rfl rfl rfl) rfl (OpP.move rfl) ?_
  refine WL.p (.yes rfl rfl rfl) rfl (OpP.nilCheck rfl) ?_
  refine WL.p (.yes rfl rfl rfl) rfl (OpP.fieldAddr rfl fld_52_1) ?_
  refine WL.p (.yes rfl rfl rfl) rfl (OpP.load rfl ty_50 (Rd.own (by repeat (first | assumption | exact List.mem_cons_self | exact List.mem_of_getElem? (by assumption) | exact set_mem (by first | assumption | exact set_hit (by assumption)) | apply List.mem_cons_of_mem | apply List.mem_append_right)) (by rfl))) ?_
  refine WL.p (.yes rfl rfl rfl) rfl (OpP.neqMap rfl rfl Try.underlying50) ?_
  first | (refine WL.p (.none rfl) rfl (OpP.pickT rfl rfl) ?_) | (refine WL.p (.none rfl) rfl (OpP.pickF rfl rfl) ?_) | (refine WL.p (.none rfl) rfl (OpP.pand rfl rfl rfl) ?_)
  refine WL.p (.none rfl) rfl (OpP.assign rfl) ?_
  refine WL.nil ?_
  refine EQ.sub ((Sub.cons (i := 2) rfl (Sub.nil _))) ?_
  refine EQ.code ?_
  refine WC.ret ?_
  refine EQ.fin (res1 rfl (.tmp rfl)) ?_
  exact ⟨rfl, rfl⟩

set_option maxRecDepth 100000 in
theorem made_nil {W0 : World} {H : Hp} : CxD Try.prog W0 21 #[.pointer none] H (.bool false) H := by
  refine enter Try.func21 rfl Try.ntmps21 rfl ?_
  refine WC.seq ?_
  refine WC.region ?_
  refine WL.p (.none rfl) rfl (OpP.assign rfl) ?_
  refine WL.nil ?_
  refine EQ.sub ((Sub.cons (i := 0) rfl (Sub.cons (i := 2) rfl (Sub.nil _)))) ?_
  refine EQ.code ?_
  refine WC.seq ?_
  refine WC.region ?_
  refine WL.p (.none rfl) rfl (OpP.move rfl) ?_
  refine WL.p (.none rfl) rfl (OpP.neqNil rfl rfl Try.underlying29) ?_
  refine WL.p (.none rfl) rfl (OpP.move rfl) ?_
  first | (refine WL.skip (.no rfl rfl rfl) rfl ?_) | (refine WL.skip (.un rfl rfl rfl) rfl ?_)
  first | (refine WL.skip (.no rfl rfl rfl) rfl ?_) | (refine WL.skip (.un rfl rfl rfl) rfl ?_)
  first | (refine WL.skip (.no rfl rfl rfl) rfl ?_) | (refine WL.skip (.un rfl rfl rfl) rfl ?_)
  first | (refine WL.skip (.no rfl rfl rfl) rfl ?_) | (refine WL.skip (.un rfl rfl rfl) rfl ?_)
  first | (refine WL.skip (.no rfl rfl rfl) rfl ?_) | (refine WL.skip (.un rfl rfl rfl) rfl ?_)
  first | (refine WL.p (.none rfl) rfl (OpP.pickT rfl rfl) ?_) | (refine WL.p (.none rfl) rfl (OpP.pickF rfl rfl) ?_) | (refine WL.p (.none rfl) rfl (OpP.pand rfl rfl rfl) ?_)
  refine WL.p (.none rfl) rfl (OpP.assign rfl) ?_
  refine WL.nil ?_
  refine EQ.sub ((Sub.cons (i := 2) rfl (Sub.nil _))) ?_
  refine EQ.code ?_
  refine WC.ret ?_
  refine EQ.fin (res1 rfl (.tmp rfl)) ?_
  exact ⟨rfl, rfl⟩

set_option maxRecDepth 100000 in
theorem made_zero {W0 : World} {H : Hp} {g : Nat} (htb : (g, cl [.int .u64 0, .map none] 52) ∈ H) : CxD Try.prog W0 21 #[.pointer (some ⟨g, 0, none⟩)] H (.bool false) H := by
  refine enter Try.func21 rfl Try.ntmps21 rfl ?_
  refine WC.seq ?_
  refine WC.region ?_
  refine WL.p (.none rfl) rfl (OpP.assign rfl) ?_
  refine WL.nil ?_
  refine EQ.sub ((Sub.cons (i := 0) rfl (Sub.cons (i := 2) rfl (Sub.nil _)))) ?_
  refine EQ.code ?_
  refine WC.seq ?_
  refine WC.region ?_
  refine WL.p (.none rfl) rfl (OpP.move rfl) ?_
  refine WL.p (.none rfl) rfl (OpP.neqNil rfl rfl Try.underlying29) ?_
  refine WL.p (.none rfl) rfl (OpP.move rfl) ?_
  refine WL.p (.yes rfl rfl rfl) rfl (OpP.move rfl) ?_
  refine WL.p (.yes rfl rfl rfl) rfl (OpP.nilCheck rfl) ?_
  refine WL.p (.yes rfl rfl rfl) rfl (OpP.fieldAddr rfl fld_52_1) ?_
  refine WL.p (.yes rfl rfl rfl) rfl (OpP.load rfl ty_50 (Rd.own (by repeat (first | assumption | exact List.mem_cons_self | exact List.mem_of_getElem? (by assumption) | exact set_mem (by first | assumption | exact set_hit (by assumption)) | apply List.mem_cons_of_mem | apply List.mem_append_right)) (by rfl))) ?_
  refine WL.p (.yes rfl rfl rfl) rfl (OpP.neqMap rfl rfl Try.underlying50) ?_
  first | (refine WL.p (.none rfl) rfl (OpP.pickT rfl rfl) ?_) | (refine WL.p (.none rfl) rfl (OpP.pickF rfl rfl) ?_) | (refine WL.p (.none rfl) rfl (OpP.pand rfl rfl rfl) ?_)
  refine WL.p (.none rfl) rfl (OpP.assign rfl) ?_
  refine WL.nil ?_
  refine EQ.sub ((Sub.cons (i := 2) rfl (Sub.nil _))) ?_
  refine EQ.code ?_
  refine WC.ret ?_
  refine EQ.fin (res1 rfl (.tmp rfl)) ?_
  exact ⟨rfl, rfl⟩

set_option maxRecDepth 100000 in
theorem Floor_c {W0 : World} {H : Hp} {g mb : Nat} {fl : Int} (htb : (g, tabO fl mb) ∈ H) : CxD Try.prog W0 10 #[.pointer (some ⟨g, 0, none⟩)] H (.int .u64 fl) H := by
  refine enter Try.func10 rfl Try.ntmps10 rfl ?_
  refine WC.seq ?_
  refine WC.region ?_
  refine WL.p (.none rfl) rfl (OpP.assign rfl) ?_
  refine WL.nil ?_
  refine EQ.sub ((Sub.cons (i := 0) rfl (Sub.cons (i := 2) rfl (Sub.nil _)))) ?_
  refine EQ.code ?_
  refine WC.seq ?_
  refine WC.seq ?_
  refine WC.region ?_
  refine WL.p (.none rfl) rfl (OpP.move rfl) ?_
  refine WL.p (.none rfl) rfl (OpP.eqlNil rfl rfl Try.underlying29) ?_
  refine WL.nil ?_
  refine EQ.sub ((Sub.cons (i := 0) rfl (Sub.cons (i := 2) rfl (Sub.cons (i := 4) rfl (Sub.nil _))))) ?_
  refine EQ.code ?_
  refine WC.condF rfl ?_
  refine WC.skip ?_
  refine EQ.code ?_
  refine WC.seq ?_
  refine WC.region ?_
  refine WL.p (.none rfl) rfl (OpP.move rfl) ?_
  refine WL.p (.none rfl) rfl (OpP.nilCheck rfl) ?_
  refine WL.p (.none rfl) rfl (OpP.fieldAddr rfl fld_52_0) ?_
  refine WL.p (.none rfl) rfl (OpP.load rfl ty_22 (Rd.own (by repeat (first | assumption | exact List.mem_cons_self | exact List.mem_of_getElem? (by assumption) | exact set_mem (by first | assumption | exact set_hit (by assumption)) | apply List.mem_cons_of_mem | apply List.mem_append_right)) (by rfl))) ?_
  refine WL.p (.none rfl) rfl (OpP.assign rfl) ?_
  refine WL.nil ?_
  refine EQ.sub ((Sub.cons (i := 2) rfl (Sub.nil _))) ?_
  refine EQ.code ?_
  refine WC.ret ?_
  refine EQ.fin (res1 rfl (.tmp rfl)) ?_
  exact ⟨rfl, rfl⟩

set_option maxRecDepth 100000 in
theorem Floor_nil {W0 : World} {H : Hp} : CxD Try.prog W0 10 #[.pointer none] H (.int .u64 0) H := by
  refine enter Try.func10 rfl Try.ntmps10 rfl ?_
  refine WC.seq ?_
  refine WC.region ?_
  refine WL.p (.none rfl) rfl (OpP.assign rfl) ?_
  refine WL.nil ?_
  refine EQ.sub ((Sub.cons (i := 0) rfl (Sub.cons (i := 2) rfl (Sub.nil _)))) ?_
  refine EQ.code ?_
  refine WC.seq ?_
  refine WC.seq ?_
  refine WC.region ?_
  refine WL.p (.none rfl) rfl (OpP.move rfl) ?_
  refine WL.p (.none rfl) rfl (OpP.eqlNil rfl rfl Try.underlying29) ?_
  refine WL.nil ?_
  refine EQ.sub ((Sub.cons (i := 0) rfl (Sub.cons (i := 2) rfl (Sub.cons (i := 4) rfl (Sub.nil _))))) ?_
  refine EQ.code ?_
  refine WC.condT rfl ?_
  refine WC.seq ?_
  refine WC.region ?_
  refine WL.p (.none rfl) rfl (OpP.assign rfl) ?_
  refine WL.nil ?_
  refine EQ.sub ((Sub.cons (i := 0) rfl (Sub.cons (i := 2) rfl (Sub.nil _)))) ?_
  refine EQ.code ?_
  refine WC.ret ?_
  refine EQ.thenR ?_
  refine EQ.fin (res1 rfl (.tmp rfl)) ?_
  exact ⟨rfl, rfl⟩

set_option maxRecDepth 100000 in
theorem Waits0_c {W0 : World} {H : Hp} {g mb c : Nat} {fl : Int} {es : List Ent} (htb : (g, tabO fl mb) ∈ H) (hmb : (mb, mobj .u64 es c) ∈ H) (hok : Mok es c) (h12 : es.length ≤ 12) :
    CxX Try.prog W0 11 #[.pointer (some ⟨g, 0, none⟩)] H (fun v H' => ∃ l a k ds, v = .slice a l.length k ∧ H' = ds ++ H ∧ l.Perm (es.map Ent.key) ∧ Sorted l l.length ∧ OwnS 22 1 (.slice a l.length k) l.length (iv .u64 l) ds) := by
  refine enter Try.func11 rfl Try.ntmps11 rfl ?_
  refine WC.seq ?_
  refine WC.region ?_
  refine WL.p (.none rfl) rfl (OpP.assign rfl) ?_
  refine WL.nil ?_
  refine EQ.sub ((Sub.cons (i := 0) rfl (Sub.cons (i := 2) rfl (Sub.nil _)))) ?_
  refine EQ.code ?_
  refine WC.seq ?_
  refine WC.region ?_
  refine WL.p (.none rfl) rfl (OpP.assign rfl) ?_
  refine WL.nil ?_
  refine EQ.sub ((Sub.cons (i := 0) rfl (Sub.cons (i := 2) rfl (Sub.cons (i := 3) rfl (Sub.nil _))))) ?_
  refine EQ.code ?_
  refine WC.seq ?_
  refine WC.seq ?_
  refine WC.region ?_
  refine WL.p (.none rfl) rfl (OpP.move rfl) ?_
  refine WL.callD rfl (.none rfl) rfl k_21 rfl (made_c htb) ?_
  refine WL.nil ?_
  refine EQ.sub ((Sub.cons (i := 0) rfl (Sub.cons (i := 2) rfl (Sub.cons (i := 3) rfl (Sub.cons (i := 6) rfl (Sub.nil _)))))) ?_
  refine EQ.code ?_
  refine WC.condT rfl ?_
  refine WC.seq ?_
  refine WC.region ?_
  refine WL.p (.none rfl) rfl (OpP.move rfl) ?_
  refine WL.p (.none rfl) rfl (OpP.nilCheck rfl) ?_
  refine WL.p (.none rfl) rfl (OpP.fieldAddr rfl fld_52_1) ?_
  refine WL.p (.none rfl) rfl (OpP.load rfl ty_50 (Rd.own (by repeat (first | assumption | exact List.mem_cons_self | exact List.mem_of_getElem? (by assumption) | exact set_mem (by first | assumption | exact set_hit (by assumption)) | apply List.mem_cons_of_mem | apply List.mem_append_right)) (by rfl))) ?_
  refine WL.range (q := .u64) rfl map_50 hmb rfl (fun b11 => ?_)
  refine WL.nil ?_
  refine EQ.sub ((Sub.cons (i := 2) rfl (Sub.cons (i := 3) rfl (Sub.cons (i := 11) rfl (Sub.nil _))))) ?_
  refine EQ.code ?_
  refine WC.block ?_
  refine WC.loop (σ := List Ent × Value × Hp × Nat) (fun s => [(3, s.2.1), (11, .pointer (some ⟨b11, 0, none⟩))]) (fun s => (b11, iobj mb c (s.1.map Ent.born) s.2.2.2) :: (s.2.2.1 ++ H)) (fun s => (s.1.map Ent.born).Nodup ∧ (∀ e ∈ s.1, e ∈ es) ∧ OwnS 22 1 s.2.1 s.1.length (iv .u64 (s.1.map Ent.key)) s.2.2.1 ∧ c ≤ s.2.2.2 ∧ s.1.length ≤ es.length) (fun s => es.countP fun e => !((s.1.map Ent.born).contains e.born)) ([], .slice none 0 0, [], c) ⟨by simp, by simp, OwnS.nil _ _, Nat.le_refl _, Nat.zero_le _⟩ ((Sub.cons rfl (Sub.cons rfl (Sub.nil _)))) (fun _ h => h) (fun ⟨vis, sv, sg, la⟩ hinv => ?_)
  (try simp only at hinv ⊢)
  obtain ⟨hvn, hvs, hown, hsl, hvle⟩ := hinv
  refine WC.seq ?_
  refine WC.region ?_
  refine WL.next1 (tt := 0) (q := .u64) rfl at0 (List.mem_cons_of_mem _ (List.mem_append_right _ hmb)) rfl hok.low hsl (fun go e H2 hgo hgo2 => ?_)
  refine WL.p (.none rfl) rfl (OpP.extract rfl (nxT_0 .u64 go e)) ?_
  refine WL.nil ?_
  refine EQ.sub ((Sub.cons (i := 3) rfl (Sub.cons (i := 11) rfl (Sub.cons (i := 13) rfl (Sub.nil _))))) ?_
  refine EQ.code ?_
  refine WC.seq ?_
  refine WC.cond rfl (fun hc1 => ?_) (fun hc1 => ?_)
  · -- cond 1 t
    (try simp only [decide_eq_true_eq, decide_eq_false_iff_not, Bool.not_eq_true', Bool.not_eq_false', Bool.or_eq_true, Bool.and_eq_true, Bool.or_eq_false_iff, Bool.and_eq_false_imp, Option.isNone_some, Bool.false_eq_true, false_or, true_and] at hc1)
    obtain ⟨he, hne, rfl⟩ := hgo2 hc1
    refine WC.skip ?_
    refine EQ.code ?_
    refine WC.block ?_
    refine WC.seq ?_
    refine WC.region ?_
    refine WL.p (.none rfl) rfl (OpP.entry (q := .u64) (b := mb) (c := c) (es := es) (e := e) rfl List.mem_cons_self (List.mem_cons_of_mem _ (List.mem_append_right _ hmb)) he hok.born) ?_
    refine WL.p (.none rfl) rfl (OpP.extract rfl rfl) ?_
    refine WL.p (.none rfl) rfl (OpP.assign rfl) ?_
    refine WL.nil ?_
    refine EQ.sub ((Sub.cons (i := 3) rfl (Sub.cons (i := 4) rfl (Sub.cons (i := 11) rfl (Sub.nil _))))) ?_
    refine EQ.code ?_
    refine WC.region ?_
    refine WL.p (.none rfl) rfl (OpP.move rfl) ?_
    refine WL.p (.none rfl) rfl (OpP.move rfl) ?_
    refine WL.buildSlice1 sl_38 rfl rfl (by decide) rfl rfl (by rfl) (fun b18 => ?_)
    refine WL.perm (H' := sg ++ ((b18, cl [.int .u64 e.key] 22) :: (b11, iobj mb c (vis.map Ent.born ++ [e.born]) c) :: H)) (List.perm_append_comm_assoc [_, _] sg _) ?_
    refine WL.append (seg := sg) (R := (b18, cl [.int .u64 e.key] 22) :: (b11, iobj mb c (vis.map Ent.born ++ [e.born]) c) :: H) (news := [.int .u64 e.key]) rfl (.none rfl) rfl sl_38 rfl rfl hown (Sl.own (List.mem_append_right _ List.mem_cons_self) (fun j x hj => by simpa using hj)) rfl (fun u hu => by simp at hu; rw [hu]; rfl) (by decide) (by simp only [maxLen]; omega) (by omega) (fun v19 sg2 hown3 _ => ?_)
    refine WL.p (.none rfl) rfl (OpP.assign rfl) ?_
    refine WL.nil ?_
    refine EQ.sub ((Sub.cons (i := 3) rfl (Sub.cons (i := 11) rfl (Sub.nil _)))) ?_
    refine EQ.blockN ?_
    refine EQ.again (vis ++ [e], v19, sg2, c) ?_ ?_ ?_ ?_
    · refine ⟨by simp only [List.map_append, List.map_cons, List.map_nil]; exact List.nodup_append.2 ⟨hvn, by simp, by simp only [List.mem_singleton]; intro x hx y hy; subst hy; exact fun h => hne (h ▸ hx)⟩, fun x hx => ?_, by simpa [iv] using hown3, Nat.le_refl _, ?_⟩
      · rcases List.mem_append.1 hx with h | h
        · exact hvs x h
        · simp only [List.mem_singleton] at h; rw [h]; exact he
      · (try simp only)
        have h1 : ((vis ++ [e]).map Ent.born).Nodup := by simp only [List.map_append, List.map_cons, List.map_nil]; exact List.nodup_append.2 ⟨hvn, by simp, by simp only [List.mem_singleton]; intro x hx y hy; subst hy; exact fun h => hne (h ▸ hx)⟩
        have := nodup_len (m := es.map Ent.born) h1 (fun x hx => by
          obtain ⟨z, hz, rfl⟩ := List.mem_map.1 hx
          refine List.mem_map.2 ⟨z, ?_, rfl⟩
          rcases List.mem_append.1 hz with h | h
          · exact hvs z h
          · simp only [List.mem_singleton] at h; rw [h]; exact he)
        simpa using this
    · refine cnt_lt (fun x _ hx => ?_) ⟨e, he, by simpa using hne, by simp⟩
      simp only [List.map_append, List.contains_eq_mem, List.mem_append, Bool.not_eq_true', decide_eq_false_iff_not, not_or] at hx ⊢
      exact hx.1
    · exact ((Sub.cons rfl (Sub.cons rfl (Sub.nil _))))
    · intro w h; have h3 := h.sublist (List.Sublist.append_left (List.sublist_cons_self _ _) sg2); show St W0 w ((b11, iobj mb c ((vis ++ [e]).map Ent.born) c) :: (sg2 ++ H)); rw [List.map_append]; exact (h3.perm List.perm_middle)
  · -- cond 1 f
    (try simp only [decide_eq_true_eq, decide_eq_false_iff_not, Bool.not_eq_true', Bool.not_eq_false', Bool.or_eq_true, Bool.and_eq_true, Bool.or_eq_false_iff, Bool.and_eq_false_imp, Option.isNone_some, Bool.false_eq_true, false_or, true_and] at hc1)
    obtain ⟨rfl, hall⟩ := hgo hc1
    have hvp := vis_perm hok.born hvn hvs hall
    have hvl := hvp.length_eq
    refine WC.exit ?_
    refine EQ.thenE ?_
    refine EQ.thenE ?_
    refine EQ.blockHit ?_
    refine EQ.code ?_
    refine WC.seq ?_
    refine WC.region ?_
    refine WL.p (.none rfl) rfl (OpP.move rfl) ?_
    have hown9 : OwnS 22 1 sv (vis.map Ent.key).length (iv .u64 (vis.map Ent.key)) sg := by simpa using hown
    clear hown
    obtain ⟨wa, wc, rfl, hwc, hwc2, hws⟩ := hown9.val
    refine WL.hp (H' := sg ++ H) (fun w h => h.drop) ?_
    refine WL.call rfl (.none rfl) rfl k_26 rfl (Sort_c (l0 := vis.map Ent.key) (by simp; omega) hown9) ?_
    rintro _ _ ⟨rfl, l, ds2, rfl, hp, hso, hown2⟩
    refine WL.nil ?_
    refine EQ.sub ((Sub.cons (i := 3) rfl (Sub.nil _))) ?_
    refine EQ.code ?_
    refine WC.seq ?_
    refine WC.region ?_
    refine WL.p (.none rfl) rfl (OpP.move rfl) ?_
    refine WL.p (.none rfl) rfl (OpP.assign rfl) ?_
    refine WL.nil ?_
    refine EQ.sub ((Sub.cons (i := 2) rfl (Sub.nil _))) ?_
    refine EQ.code ?_
    refine WC.ret ?_
    refine EQ.finD (H' := ds2 ++ H) (res1 rfl (.tmp rfl)) (by intro _ h; first | exact h | exact h.drop | exact h.drop.drop | exact h.drop.drop.drop | exact h.drop.drop.drop.drop | exact h.drop.drop.drop.drop.drop | exact h.drop.drop.drop.drop.drop.drop | exact h.drop_mid) ?_
    have hlen := hp.length_eq
    refine ⟨l, wa, wc, ds2, ?_, rfl, hp.trans (hvp.map _), hso, hown2⟩
    rw [hlen]

theorem del_keep {es : List Ent} {q : Int → Bool} {j : Int} (hn : (es.map Ent.key).Nodup) : mdel (es.filter fun e => q e.key) j = es.filter fun e => (q e.key && !decide (e.key = j)) := by
  rw [del_filter j (hn.sublist ((List.filter_sublist).map _)), List.filter_filter]
  congr 1
  funext e
  rw [Bool.and_comm]

set_option maxRecDepth 100000 in
theorem raise0_c {W0 : World} {R : Hp} {g mb c : Nat} {f0 fl : Int} {es : List Ent} (hok : Mok es c) :
    CxD Try.prog W0 25 #[.pointer (some ⟨g, 0, none⟩), .int .u64 fl] ((g, tabO f0 mb) :: (mb, mobj .u64 es c) :: R) (.tuple #[]) ((g, tabO fl mb) :: (mb, mobj .u64 (es.filter fun e => decide (fl ≤ e.key)) c) :: R) := by
  refine enter Try.func25 rfl Try.ntmps25 rfl ?_
  refine WC.seq ?_
  refine WC.region ?_
  refine WL.p (.none rfl) rfl (OpP.move rfl) ?_
  refine WL.p (.none rfl) rfl (OpP.move rfl) ?_
  refine WL.p (.none rfl) rfl (OpP.nilCheck rfl) ?_
  refine WL.p (.none rfl) rfl (OpP.fieldAddr rfl fld_52_0) ?_
  refine WL.s (.none rfl) rfl (OpS.store rfl rfl ty_22 (by repeat (first | assumption | exact at0 | exact set_hit (by first | assumption | exact set_hit (by assumption)) | apply ats)) (by rfl) (by rfl) (by rfl) (by rfl)) ?_
  refine WL.nil ?_
  refine EQ.sub ((Sub.cons (i := 0) rfl (Sub.cons (i := 1) rfl (Sub.nil _)))) ?_
  refine EQ.code ?_
  refine WC.seq ?_
  refine WC.region ?_
  refine WL.p (.none rfl) rfl (OpP.move rfl) ?_
  refine WL.p (.none rfl) rfl (OpP.nilCheck rfl) ?_
  refine WL.p (.none rfl) rfl (OpP.fieldAddr rfl fld_52_1) ?_
  refine WL.p (.none rfl) rfl (OpP.load rfl ty_50 (Rd.own (by repeat (first | assumption | exact List.mem_cons_self | exact List.mem_of_getElem? (by assumption) | exact set_mem (by first | assumption | exact set_hit (by assumption)) | apply List.mem_cons_of_mem | apply List.mem_append_right)) (by rfl))) ?_
  refine WL.range (q := .u64) rfl map_50 (List.mem_cons_of_mem _ List.mem_cons_self) rfl (fun b13 => ?_)
  refine WL.hp (H' := (b13, iobj mb c [] c) :: (g, tabO fl mb) :: (mb, mobj .u64 (es.filter fun e => (fun _ => true) e.key) c) :: R) (fun w h => by rw [show (es.filter fun e => (fun _ => true) e.key) = es by simp]; exact h) ?_
  refine WL.nil ?_
  refine EQ.sub ((Sub.cons (i := 0) rfl (Sub.cons (i := 1) rfl (Sub.cons (i := 13) rfl (Sub.nil _))))) ?_
  refine EQ.code ?_
  refine WC.block ?_
  refine WC.loop (σ := (Int → Bool) × List Nat × Nat) (fun s => [(0, .pointer (some ⟨g, 0, none⟩)), (1, .int .u64 fl), (13, .pointer (some ⟨b13, 0, none⟩))]) (fun s => (b13, iobj mb c s.2.1 s.2.2) :: (g, tabO fl mb) :: (mb, mobj .u64 (es.filter fun e => s.1 e.key) c) :: R) (fun s => (∀ k, fl ≤ k → s.1 k = true) ∧ (∀ e ∈ es, s.1 e.key = true → e.born ∈ s.2.1 → fl ≤ e.key) ∧ c ≤ s.2.2) (fun s => es.countP fun e => s.1 e.key && !(s.2.1.contains e.born)) (fun _ => true, [], c) ⟨fun _ _ => rfl, fun e _ _ h => by simp at h, Nat.le_refl _⟩ ((Sub.cons rfl (Sub.cons rfl (Sub.cons rfl (Sub.nil _))))) (fun _ h => h) (fun ⟨q, seen, la⟩ hinv => ?_)
  (try simp only at hinv ⊢)
  obtain ⟨hq1, hq2, hsl⟩ := hinv
  have hlow : ∀ e ∈ es.filter (fun e => q e.key), e.born < c := fun e he => hok.low e (List.mem_filter.1 he).1
  have hbn : ((es.filter fun e => q e.key).map Ent.born).Nodup := hok.born.sublist ((List.filter_sublist).map _)
  refine WC.seq ?_
  refine WC.region ?_
  refine WL.next1 (tt := 0) (q := .u64) rfl at0 (List.mem_cons_of_mem _ (List.mem_cons_of_mem _ List.mem_cons_self)) rfl hlow hsl (fun go e H2 hgo hgo2 => ?_)
  refine WL.p (.none rfl) rfl (OpP.extract rfl (nxT_0 .u64 go e)) ?_
  refine WL.nil ?_
  refine EQ.sub ((Sub.cons (i := 0) rfl (Sub.cons (i := 1) rfl (Sub.cons (i := 13) rfl (Sub.cons (i := 15) rfl (Sub.nil _)))))) ?_
  refine EQ.code ?_
  refine WC.seq ?_
  refine WC.cond rfl (fun hc0 => ?_) (fun hc0 => ?_)
  · -- cond 0 t
    (try simp only [decide_eq_true_eq, decide_eq_false_iff_not, Bool.not_eq_true', Bool.not_eq_false', Bool.or_eq_true, Bool.and_eq_true, Bool.or_eq_false_iff, Bool.and_eq_false_imp, Option.isNone_some, Bool.false_eq_true, false_or, true_and] at hc0)
    obtain ⟨he, hne, rfl⟩ := hgo2 hc0
    have he0 := he
    have he := List.mem_filter.1 he
    refine WC.skip ?_
    refine EQ.code ?_
    refine WC.block ?_
    refine WC.seq ?_
    refine WC.region ?_
    refine WL.p (.none rfl) rfl (OpP.entry (q := .u64) (b := mb) (c := c) (es := es.filter fun e => q e.key) (e := e) rfl List.mem_cons_self (List.mem_cons_of_mem _ (List.mem_cons_of_mem _ List.mem_cons_self)) he0 hbn) ?_
    refine WL.p (.none rfl) rfl (OpP.extract rfl rfl) ?_
    refine WL.p (.none rfl) rfl (OpP.assign rfl) ?_
    refine WL.nil ?_
    refine EQ.sub ((Sub.cons (i := 0) rfl (Sub.cons (i := 1) rfl (Sub.cons (i := 4) rfl (Sub.cons (i := 13) rfl (Sub.nil _)))))) ?_
    refine EQ.code ?_
    refine WC.seq ?_
    refine WC.region ?_
    refine WL.p (.none rfl) rfl (OpP.move rfl) ?_
    refine WL.p (.none rfl) rfl (OpP.move rfl) ?_
    refine WL.p (.none rfl) rfl (OpP.lss rfl rfl) ?_
    refine WL.nil ?_
    refine EQ.sub ((Sub.cons (i := 0) rfl (Sub.cons (i := 1) rfl (Sub.cons (i := 4) rfl (Sub.cons (i := 13) rfl (Sub.cons (i := 20) rfl (Sub.nil _))))))) ?_
    refine EQ.code ?_
    refine WC.cond rfl (fun hc1 => ?_) (fun hc1 => ?_)
    · -- cond 1 t
      (try simp only [decide_eq_true_eq, decide_eq_false_iff_not, Bool.not_eq_true', Bool.not_eq_false', Bool.or_eq_true, Bool.and_eq_true, Bool.or_eq_false_iff, Bool.and_eq_false_imp, Option.isNone_some, Bool.false_eq_true, false_or, true_and] at hc1)
      refine WC.region ?_
      refine WL.p (.none rfl) rfl (OpP.move rfl) ?_
      refine WL.p (.none rfl) rfl (OpP.nilCheck rfl) ?_
      refine WL.p (.none rfl) rfl (OpP.fieldAddr rfl fld_52_1) ?_
      refine WL.p (.none rfl) rfl (OpP.load rfl ty_50 (Rd.own (by repeat (first | assumption | exact List.mem_cons_self | exact List.mem_of_getElem? (by assumption) | exact set_mem (by first | assumption | exact set_hit (by assumption)) | apply List.mem_cons_of_mem | apply List.mem_append_right)) (by rfl))) ?_
      refine WL.p (.none rfl) rfl (OpP.move rfl) ?_
      refine WL.delete (q := .u64) (i := 2) rfl (.none rfl) rfl rfl rfl map_50 rfl ?_
      refine WL.nil ?_
      refine EQ.sub ((Sub.cons (i := 0) rfl (Sub.cons (i := 1) rfl (Sub.cons (i := 13) rfl (Sub.nil _))))) ?_
      refine EQ.blockN ?_
      refine EQ.again (fun k => q k && !decide (k = e.key), seen ++ [e.born], c) ?_ ?_ ?_ ?_
      · refine ⟨fun k hk => ?_, fun x hx h1 h2 => ?_, Nat.le_refl _⟩
        · (try simp only)
          rw [hq1 k hk, decide_eq_false (by omega)]; rfl
        · (try simp only [Bool.and_eq_true, Bool.not_eq_true', decide_eq_false_iff_not] at h1)
          rcases List.mem_append.1 h2 with h | h
          · exact hq2 x hx h1.1 h
          · simp only [List.mem_singleton] at h
            exact absurd (congrArg Ent.key (map_inj hok.born x hx e he.1 h)) h1.2
      · refine cnt_lt (fun x _ hx => ?_) ⟨e, he.1, by simp [he.2, hne], by simp⟩
        simp only [Bool.and_eq_true, Bool.not_eq_true', List.contains_eq_mem, List.mem_append, decide_eq_false_iff_not, not_or] at hx ⊢
        exact ⟨hx.1.1, hx.2.1⟩
      · exact ((Sub.cons rfl (Sub.cons rfl (Sub.cons rfl (Sub.nil _)))))
      · intro w h; rw [del_keep hok.keys] at h; exact h
    · -- cond 1 f
      (try simp only [decide_eq_true_eq, decide_eq_false_iff_not, Bool.not_eq_true', Bool.not_eq_false', Bool.or_eq_true, Bool.and_eq_true, Bool.or_eq_false_iff, Bool.and_eq_false_imp, Option.isNone_some, Bool.false_eq_true, false_or, true_and] at hc1)
      refine WC.skip ?_
      refine EQ.blockN ?_
      refine EQ.again (q, seen ++ [e.born], c) ?_ ?_ ?_ ?_
      · refine ⟨hq1, fun x hx h1 h2 => ?_, Nat.le_refl _⟩
        (try simp only at h1 h2)
        rcases List.mem_append.1 h2 with h | h
        · exact hq2 x hx h1 h
        · simp only [List.mem_singleton] at h
          rw [map_inj hok.born x hx e he.1 h]; omega
      · refine cnt_lt (fun x _ hx => ?_) ⟨e, he.1, by simp [he.2, hne], by simp⟩
        simp only [Bool.and_eq_true, Bool.not_eq_true', List.contains_eq_mem, List.mem_append, decide_eq_false_iff_not, not_or] at hx ⊢
        exact ⟨hx.1, hx.2.1⟩
      · exact ((Sub.cons rfl (Sub.cons rfl (Sub.cons rfl (Sub.nil _)))))
      · intro _ h; first | exact h | exact h.drop | exact h.drop_mid | exact h.drop_mid.drop_mid
  · -- cond 0 f
    (try simp only [decide_eq_true_eq, decide_eq_false_iff_not, Bool.not_eq_true', Bool.not_eq_false', Bool.or_eq_true, Bool.and_eq_true, Bool.or_eq_false_iff, Bool.and_eq_false_imp, Option.isNone_some, Bool.false_eq_true, false_or, true_and] at hc0)
    obtain ⟨rfl, hall⟩ := hgo hc0
    have hfe : (es.filter fun e => q e.key) = es.filter fun e => decide (fl ≤ e.key) := List.filter_congr (fun x hx => by
      by_cases h : fl ≤ x.key
      · rw [hq1 _ h, decide_eq_true h]
      · rw [decide_eq_false h]
        cases hh : q x.key with
        | false => rfl
        | true => exact absurd (hq2 x hx hh (hall x (List.mem_filter.2 ⟨hx, hh⟩))) h)
    rw [hfe]
    refine WC.exit ?_
    refine EQ.thenE ?_
    refine EQ.thenE ?_
    refine EQ.blockHit ?_
    refine EQ.finDN (H' := (g, tabO fl mb) :: (mb, mobj .u64 (es.filter fun e => decide (fl ≤ e.key)) c) :: R) (res0 rfl) (by intro _ h; first | exact h | exact h.drop | exact h.drop.drop | exact h.drop.drop.drop | exact h.drop.drop.drop.drop | exact h.drop.drop.drop.drop.drop | exact h.drop.drop.drop.drop.drop.drop | exact h.drop_mid) ?_
    exact ⟨rfl, rfl⟩

end Go.Proofs.Ytjdkohfgbekheaa
