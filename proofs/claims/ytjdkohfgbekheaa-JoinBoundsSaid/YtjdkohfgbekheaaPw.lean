/- Pw: walks of functions of the program, each over the rules of Sx. No conditions but those in the theorems' heads. -/
import Derived.Test.YtjdkohfgbekheaaPt
import Derived.Test.YtjdkohfgbekheaaProg
set_option linter.unusedVariables false
set_option linter.unusedSimpArgs false
namespace Go.Proofs.Ytjdkohfgbekheaa
open Go.RowKit Go.Sx
namespace Pw
theorem bld_61 : bldS Try.prog 61 = some ([(0, 1), (1, 64), (65, 256), (321, 1)], [.int .i64 0, .bool false, .bool false, .bool false, .bool false, .bool false, .bool false, .bool false, .bool false, .bool false, .bool false, .bool false, .bool false, .bool false, .bool false, .bool false, .bool false, .bool false, .bool false, .bool false, .bool false, .bool false, .bool false, .bool false, .bool false, .bool false, .bool false, .bool false, .bool false, .bool false, .bool false, .bool false, .bool false, .bool false, .bool false, .bool false, .bool false, .bool false, .bool false, .bool false, .bool false, .bool false, .bool false, .bool false, .bool false, .bool false, .bool false, .bool false, .bool false, .bool false, .bool false, .bool false, .bool false, .bool false, .bool false, .bool false, .bool false, .bool false, .bool false, .bool false, .bool false, .bool false, .bool false, .bool false, .bool false, .int .u64 0, .int .i64 0, .int .i64 0, .slice none 0 0, .int .u64 0, .int .i64 0, .int .i64 0, .slice none 0 0, .int .u64 0, .int .i64 0, .int .i64 0, .slice none 0 0, .int .u64 0, .int .i64 0, .int .i64 0, .slice none 0 0, .int .u64 0, .int .i64 0, .int .i64 0, .slice none 0 0, .int .u64 0, .int .i64 0, .int .i64 0, .slice none 0 0, .int .u64 0, .int .i64 0, .int .i64 0, .slice none 0 0, .int .u64 0, .int .i64 0, .int .i64 0, .slice none 0 0, .int .u64 0, .int .i64 0, .int .i64 0, .slice none 0 0, .int .u64 0, .int .i64 0, .int .i64 0, .slice none 0 0, .int .u64 0, .int .i64 0, .int .i64 0, .slice none 0 0, .int .u64 0, .int .i64 0, .int .i64 0, .slice none 0 0, .int .u64 0, .int .i64 0, .int .i64 0, .slice none 0 0, .int .u64 0, .int .i64 0, .int .i64 0, .slice none 0 0, .int .u64 0, .int .i64 0, .int .i64 0, .slice none 0 0, .int .u64 0, .int .i64 0, .int .i64 0, .slice none 0 0, .int .u64 0, .int .i64 0, .int .i64 0, .slice none 0 0, .int .u64 0, .int .i64 0, .int .i64 0, .slice none 0 0, .int .u64 0, .int .i64 0, .int .i64 0, .slice none 0 0, .int .u64 0, .int .i64 0, .int .i64 0, .slice none 0 0, .int .u64 0, .int .i64 0, .int .i64 0, .slice none 0 0, .int .u64 0, .int .i64 0, .int .i64 0, .slice none 0 0, .int .u64 0, .int .i64 0, .int .i64 0, .slice none 0 0, .int .u64 0, .int .i64 0, .int .i64 0, .slice none 0 0, .int .u64 0, .int .i64 0, .int .i64 0, .slice none 0 0, .int .u64 0, .int .i64 0, .int .i64 0, .slice none 0 0, .int .u64 0, .int .i64 0, .int .i64 0, .slice none 0 0, .int .u64 0, .int .i64 0, .int .i64 0, .slice none 0 0, .int .u64 0, .int .i64 0, .int .i64 0, .slice none 0 0, .int .u64 0, .int .i64 0, .int .i64 0, .slice none 0 0, .int .u64 0, .int .i64 0, .int .i64 0, .slice none 0 0, .int .u64 0, .int .i64 0, .int .i64 0, .slice none 0 0, .int .u64 0, .int .i64 0, .int .i64 0, .slice none 0 0, .int .u64 0, .int .i64 0, .int .i64 0, .slice none 0 0, .int .u64 0, .int .i64 0, .int .i64 0, .slice none 0 0, .int .u64 0, .int .i64 0, .int .i64 0, .slice none 0 0, .int .u64 0, .int .i64 0, .int .i64 0, .slice none 0 0, .int .u64 0, .int .i64 0, .int .i64 0, .slice none 0 0, .int .u64 0, .int .i64 0, .int .i64 0, .slice none 0 0, .int .u64 0, .int .i64 0, .int .i64 0, .slice none 0 0, .int .u64 0, .int .i64 0, .int .i64 0, .slice none 0 0, .int .u64 0, .int .i64 0, .int .i64 0, .slice none 0 0, .int .u64 0, .int .i64 0, .int .i64 0, .slice none 0 0, .int .u64 0, .int .i64 0, .int .i64 0, .slice none 0 0, .int .u64 0, .int .i64 0, .int .i64 0, .slice none 0 0, .int .u64 0, .int .i64 0, .int .i64 0, .slice none 0 0, .int .u64 0, .int .i64 0, .int .i64 0, .slice none 0 0, .int .u64 0, .int .i64 0, .int .i64 0, .slice none 0 0, .int .u64 0, .int .i64 0, .int .i64 0, .slice none 0 0, .int .u64 0, .int .i64 0, .int .i64 0, .slice none 0 0, .int .u64 0, .int .i64 0, .int .i64 0, .slice none 0 0, .int .u64 0, .int .i64 0, .int .i64 0, .slice none 0 0, .int .u64 0, .int .i64 0, .int .i64 0, .slice none 0 0, .int .u64 0, .int .i64 0, .int .i64 0, .slice none 0 0, .int .u64 0, .int .i64 0, .int .i64 0, .slice none 0 0, .int .u64 0, .int .i64 0, .int .i64 0, .slice none 0 0, .int .u64 0, .int .i64 0, .int .i64 0, .slice none 0 0, .int .u64 0, .int .i64 0, .int .i64 0, .slice none 0 0, .int .u64 0, .int .i64 0, .int .i64 0, .slice none 0 0, .int .u64 0, .int .i64 0, .int .i64 0, .slice none 0 0, .int .u64 0, .int .i64 0, .int .i64 0, .slice none 0 0, .int .u64 0, .int .i64 0, .int .i64 0, .slice none 0 0, .int .u64 0, .int .i64 0, .int .i64 0, .slice none 0 0, .int .u64 0, .int .i64 0, .int .i64 0, .slice none 0 0, .int .i64 0]) := by kernel_rfl
theorem el_31 : elI Try.prog 31 = some (some 64, 4, false, 1) := by kernel_rfl
theorem el_59 : elI Try.prog 59 = some (some 64, 35, true, 4) := by kernel_rfl
theorem fld_35_0 : fldI Try.prog 35 0 = some (0, false, 1) := by kernel_rfl
theorem fld_35_1 : fldI Try.prog 35 1 = some (1, false, 1) := by kernel_rfl
theorem fld_35_2 : fldI Try.prog 35 2 = some (2, false, 1) := by kernel_rfl
theorem fld_35_3 : fldI Try.prog 35 3 = some (3, false, 1) := by kernel_rfl
theorem fld_52_0 : fldI Try.prog 52 0 = some (0, false, 1) := by kernel_rfl
theorem fld_52_1 : fldI Try.prog 52 1 = some (1, false, 1) := by kernel_rfl
theorem fld_61_0 : fldI Try.prog 61 0 = some (0, false, 1) := by kernel_rfl
theorem fld_61_1 : fldI Try.prog 61 1 = some (1, true, 64) := by kernel_rfl
theorem fld_61_2 : fldI Try.prog 61 2 = some (65, true, 256) := by kernel_rfl
theorem fld_61_3 : fldI Try.prog 61 3 = some (321, false, 1) := by kernel_rfl
theorem k_20 : Cal Try.prog 20 := ⟨_, _, Try.func20, by kernel_rfl, rfl⟩
theorem k_21 : Cal Try.prog 21 := ⟨_, _, Try.func21, by kernel_rfl, rfl⟩
theorem k_22 : Cal Try.prog 22 := ⟨_, _, Try.func22, by kernel_rfl, rfl⟩
theorem k_23 : Cal Try.prog 23 := ⟨_, _, Try.func23, by kernel_rfl, rfl⟩
theorem k_24 : Cal Try.prog 24 := ⟨_, _, Try.func24, by kernel_rfl, rfl⟩
theorem k_25 : Cal Try.prog 25 := ⟨_, _, Try.func25, by kernel_rfl, rfl⟩
theorem map_50 : mapI Try.prog 50 = some (22, .u64, (.pointer none)) := by kernel_rfl
theorem ty_22 : tyI Try.prog 22 = some (false, 1) := by kernel_rfl
theorem ty_23 : tyI Try.prog 23 = some (false, 1) := by kernel_rfl
theorem ty_3 : tyI Try.prog 3 = some (false, 1) := by kernel_rfl
theorem ty_35 : tyI Try.prog 35 = some (true, 4) := by kernel_rfl
theorem ty_4 : tyI Try.prog 4 = some (false, 1) := by kernel_rfl
theorem ty_50 : tyI Try.prog 50 = some (false, 1) := by kernel_rfl
theorem z_35 : zI Try.prog 35 = some [.int .u64 0, .int .i64 0, .int .i64 0, .slice none 0 0] := by kernel_rfl
end Pw
open Pw

structure Jst where
  T : Tab
  F : Opn
  ob : Nat
  C : List (List Value)
  S : List Hp
  mb : Nat
  es : List Ent
  c : Nat
  dr : Hp
theorem foc_perm {α : Type} (x y z o : α) (d1 Sf d3 R : List α) : (x :: y :: z :: ((d1 ++ ((o :: Sf) ++ d3)) ++ R)).Perm (o :: x :: (Sf ++ (y :: z :: ((d1 ++ d3) ++ R)))) := by
  have h1 : (x :: y :: z :: ((d1 ++ ((o :: Sf) ++ d3)) ++ R)) = (x :: y :: z :: d1) ++ (o :: (Sf ++ (d3 ++ R))) := by simp [List.append_assoc]
  rw [h1]
  refine List.perm_middle.trans (List.Perm.cons o ?_)
  have h2 := List.perm_append_comm_assoc (y :: z :: d1) Sf (d3 ++ R)
  refine List.Perm.trans (List.Perm.cons x h2) ?_
  simp [List.append_assoc]
theorem fin_perm {α : Type} {o G M : α} {dn Sf Sf2 dr dd R : List α} (hdd : dd.Perm ((o :: Sf2) ++ dr)) (hS : Sf2.Perm (dn ++ Sf)) : (o :: (dn ++ (Sf ++ (G :: M :: (dr ++ R))))).Perm (G :: M :: (dd ++ R)) := by
  have h1 : (o :: (dn ++ (Sf ++ (G :: M :: (dr ++ R))))) = (o :: (dn ++ Sf)) ++ ([G, M] ++ (dr ++ R)) := by simp [List.append_assoc]
  rw [h1]
  refine (List.perm_append_comm_assoc _ [G, M] _).trans (List.Perm.cons G (List.Perm.cons M ?_))
  have h2 : dd.Perm ((o :: (dn ++ Sf)) ++ dr) := hdd.trans (List.Perm.append_right dr (List.Perm.cons o hS))
  have h3 := (h2.append_right R).symm
  rwa [List.append_assoc] at h3
theorem pSet_new {Fs : List Opn} {F G : Opn} (h : pFind Opn.id Fs F.id = none) (hG : G.id = F.id) : pSet Opn.id (Fs ++ [F]) G = Fs ++ [G] := by
  induction Fs with
  | nil => simp [pSet, hG]
  | cons E Fs ih =>
    unfold pFind at h
    rw [List.find?_cons] at h
    by_cases hq : E.id = F.id
    · simp [hq] at h
    · simp only [hq, decide_false] at h
      simp only [List.cons_append, pSet, if_neg (show ¬ E.id = G.id by rw [hG]; exact hq)]
      rw [ih h]
theorem room_find {T T1 : Tab} {id e : Int} (h : RoomR T id e T1) (hf : T.find id = none) : T1.find id = none := by
  cases h with
  | ok _ => exact hf
  | full m _ _ _ => exact hf
  | up m _ _ _ =>
    unfold Tab.find pFind Tab.raise at *
    rw [List.find?_eq_none] at hf ⊢
    intro F hF
    exact hf F (List.mem_filter.1 hF).1
theorem map_is (g : List (Option (List Int))) (i : Nat) : (g.map Option.isSome).getD i false = (g.getD i none).isSome := by
  simp only [List.getD_eq_getElem?_getD, List.getElem?_map]
  cases g[i]? <;> rfl
theorem full_all {g : List (Option (List Int))} {k : Nat} (hk : k ≤ g.length) (hlow : ∀ i, i < g.length → (g.getD i none).isSome = true → i < k) (hc : g.countP Option.isSome = k) : ∀ j, j < k → (g.getD j none).isSome = true := by
  have h1 : g.countP Option.isSome = (g.take k).countP Option.isSome + (g.drop k).countP Option.isSome := by rw [← List.countP_append, List.take_append_drop]
  have h2 : (g.drop k).countP Option.isSome = 0 := by
    rw [List.countP_eq_zero]
    intro x hx hs
    obtain ⟨j, hj, rfl⟩ := List.mem_iff_getElem.1 hx
    simp only [List.length_drop] at hj
    have := hlow (k + j) (by omega) (by rw [List.getD_eq_getElem?_getD, List.getElem?_eq_getElem (by omega)]; simpa using hs)
    omega
  have h3 : (g.take k).countP Option.isSome = (g.take k).length := by simp; omega
  intro j hj
  have h4 := List.countP_eq_length.1 h3 (g.getD j none) (by
    rw [List.getD_eq_getElem?_getD, List.getElem?_eq_getElem (by omega)]
    exact List.mem_take_iff_getElem.2 ⟨j, by omega, rfl⟩)
  exact h4

set_option maxRecDepth 100000 in
set_option maxHeartbeats 1000000 in
theorem Put_c {W0 : World} {R : Hp} {T : Tab} {g : Nat} {ds : Hp} (h : TR T g ds) (hwf : Wf T) {id ix n : Int} {a : Option Addr} {c : Nat} {d : List Int} (hid : 0 ≤ id) (hn1 : -9223372036854775808 ≤ n) (hn2 : n ≤ 9223372036854775807) (hsl : Sl W0 R a (iv .u8 d)) :
    CxX Try.prog W0 9 #[.pointer (some ⟨g, 0, none⟩), ptV id ix n a d.length c] (ds ++ R) (fun v H' => ∃ out oa oc is e T' dd ds', v = .tuple #[.slice oa out.length oc, .bool is, .int .i64 e] ∧ H' = dd ++ (ds' ++ R) ∧ TR T' g ds' ∧ PutR T id ix n d out is e T' ∧ ∀ W R', Sl W (dd ++ R') oa (iv .u8 out)) := by
  obtain ⟨mb, es, cc, d2, rfl, hok, hps⟩ := h
  refine enter Try.func9 rfl Try.ntmps9 rfl ?_
  refine WC.seq ?_
  refine WC.region ?_
  refine WL.box rfl rfl rfl (fun b3 => ?_)
  refine WL.hp (H' := (b3, cl (ptL id ix n a d.length c) 35) :: (g, tabO T.floor mb) :: (mb, mobj .u64 es cc) :: (d2 ++ R)) (fun w h => h) ?_
  refine WL.p (.none rfl) rfl (OpP.assign rfl) ?_
  refine WL.p (.none rfl) rfl (OpP.assign rfl) ?_
  refine WL.p (.none rfl) rfl (OpP.assign rfl) ?_
  refine WL.nil ?_
  refine EQ.sub ((Sub.cons (i := 0) rfl (Sub.cons (i := 3) rfl (Sub.cons (i := 4) rfl (Sub.cons (i := 5) rfl (Sub.cons (i := 6) rfl (Sub.nil _))))))) ?_
  refine EQ.code ?_
  refine WC.seq ?_
  refine WC.block ?_
  refine WC.seq ?_
  refine WC.region ?_
  refine WL.p (.none rfl) rfl (OpP.move rfl) ?_
  refine WL.callD rfl (.none rfl) rfl k_21 rfl (made_c (mb := mb) (fl := T.floor) (by simp)) ?_
  refine WL.p (.none rfl) rfl (OpP.not rfl) ?_
  refine WL.p (.none rfl) rfl (OpP.assign rfl) ?_
  refine WL.nil ?_
  refine EQ.sub ((Sub.cons (i := 0) rfl (Sub.cons (i := 3) rfl (Sub.cons (i := 4) rfl (Sub.cons (i := 5) rfl (Sub.cons (i := 6) rfl (Sub.cons (i := 12) rfl (Sub.nil _)))))))) ?_
  refine EQ.code ?_
  refine WC.condF rfl ?_
  refine WC.seq ?_
  refine WC.region ?_
  refine WL.p (.none rfl) rfl (OpP.loadB rfl ty_35 (by repeat (first | assumption | exact List.mem_cons_self | exact List.mem_of_getElem? (by assumption) | exact set_mem (by first | assumption | exact set_hit (by assumption)) | apply List.mem_cons_of_mem | apply List.mem_append_right)) (by rfl)) ?_
  refine WL.callD rfl (.none rfl) rfl k_22 rfl (Right_c hn1 hn2) ?_
  refine WL.p (.none rfl) rfl (OpP.not rfl) ?_
  refine WL.p (.none rfl) rfl (OpP.assign rfl) ?_
  refine WL.nil ?_
  refine EQ.sub ((Sub.cons (i := 0) rfl (Sub.cons (i := 3) rfl (Sub.cons (i := 4) rfl (Sub.cons (i := 5) rfl (Sub.cons (i := 6) rfl (Sub.cons (i := 16) rfl (Sub.nil _)))))))) ?_
  refine EQ.code ?_
  refine WC.cond rfl (fun hc1 => ?_) (fun hc1 => ?_)
  · -- cond 1 t
    (try simp only [decide_eq_true_eq, decide_eq_false_iff_not, Bool.not_eq_true', Bool.not_eq_false', Bool.or_eq_true, Bool.and_eq_true, Bool.or_eq_false_iff, Bool.and_eq_false_imp, Option.isNone_some, Bool.false_eq_true, false_or, true_and] at hc1)
    refine WC.seq ?_
    refine WC.region ?_
    refine WL.p (.none rfl) rfl (OpP.assign rfl) ?_
    refine WL.p (.none rfl) rfl (OpP.assign rfl) ?_
    refine WL.p (.none rfl) rfl (OpP.assign rfl) ?_
    refine WL.nil ?_
    refine EQ.sub ((Sub.cons (i := 0) rfl (Sub.cons (i := 3) rfl (Sub.cons (i := 4) rfl (Sub.cons (i := 5) rfl (Sub.cons (i := 6) rfl (Sub.nil _))))))) ?_
    refine EQ.code ?_
    refine WC.ret ?_
    refine EQ.blockR ?_
    refine EQ.thenR ?_
    refine EQ.finD (H' := (g, tabO T.floor mb) :: (mb, mobj .u64 es cc) :: (d2 ++ R)) (res3 rfl (.tmp rfl) (.tmp rfl) (.tmp rfl)) (by intro _ h; first | exact h.drop | exact (h.perm (List.perm_append_comm_assoc (_ :: _ :: d21) [_] R)).drop | exact (h.perm (foc_perm _ _ _ _ _ _ _ _).symm).drop | exact (h.sublist (((List.sublist_cons_self _ _).trans (List.sublist_cons_self _ _)).cons_cons _)).perm hfin | exact (h.perm (List.perm_append_comm_assoc [_, _] dj _)).sublist (List.Sublist.append_left (((List.Sublist.append_right hsub5 R).cons_cons _).cons_cons _) dj)) ?_
    exact ⟨[], none, 0, false, 3, T, [], _, rfl, rfl, ⟨mb, es, cc, d2, rfl, hok, hps⟩, .form hc1, fun W R' => Sl.nil _⟩
  · -- cond 1 f
    (try simp only [decide_eq_true_eq, decide_eq_false_iff_not, Bool.not_eq_true', Bool.not_eq_false', Bool.or_eq_true, Bool.and_eq_true, Bool.or_eq_false_iff, Bool.and_eq_false_imp, Option.isNone_some, Bool.false_eq_true, false_or, true_and] at hc1)
    have hpk : ptOk id ix n d.length = true := hc1
    have hpk2 := hpk
    unfold ptOk at hpk2
    simp only [decide_eq_true_eq] at hpk2
    obtain ⟨i, rfl⟩ := Int.eq_ofNat_of_zero_le hpk2.2.2.1.1
    obtain ⟨k, rfl⟩ := Int.eq_ofNat_of_zero_le (show 0 ≤ n by omega)
    obtain ⟨p, hpv, hpn, hpf⟩ := look_ptr hps id
    have hi64 : i < 64 := by omega
    refine WC.seq ?_
    refine WC.draw (by kernel_rfl) (by kernel_rfl) ?_
    refine WQ.p (.none rfl) rfl (OpP.fieldAddr rfl fld_35_0) ?_
    refine WQ.p (.none rfl) rfl (OpP.load rfl ty_22 (Rd.own (by repeat (first | assumption | exact List.mem_cons_self | exact List.mem_of_getElem? (by assumption) | exact set_mem (by first | assumption | exact set_hit (by assumption)) | apply List.mem_cons_of_mem | apply List.mem_append_right)) (by rfl))) ?_
    refine WQ.p (.none rfl) rfl (OpP.move rfl) ?_
    refine WQ.p (.none rfl) rfl (OpP.nilCheck rfl) ?_
    refine WQ.p (.none rfl) rfl (OpP.fieldAddr rfl fld_52_0) ?_
    refine WQ.p (.none rfl) rfl (OpP.load rfl ty_22 (Rd.own (by repeat (first | assumption | exact List.mem_cons_self | exact List.mem_of_getElem? (by assumption) | exact set_mem (by first | assumption | exact set_hit (by assumption)) | apply List.mem_cons_of_mem | apply List.mem_append_right)) (by rfl))) ?_
    refine WQ.p (.none rfl) rfl (OpP.lss rfl rfl) ?_
    refine WQ.p (.none rfl) rfl (OpP.assign rfl) ?_
    refine WQ.done ?_
    refine EQ.sub ((Sub.cons (i := 0) rfl (Sub.cons (i := 3) rfl (Sub.cons (i := 4) rfl (Sub.cons (i := 5) rfl (Sub.cons (i := 6) rfl (Sub.cons (i := 20) rfl (Sub.nil _)))))))) ?_
    refine EQ.code ?_
    refine WC.cond rfl (fun hc2 => ?_) (fun hc2 => ?_)
    · -- cond 2 t
      (try simp only [decide_eq_true_eq, decide_eq_false_iff_not, Bool.not_eq_true', Bool.not_eq_false', Bool.or_eq_true, Bool.and_eq_true, Bool.or_eq_false_iff, Bool.and_eq_false_imp, Option.isNone_some, Bool.false_eq_true, false_or, true_and] at hc2)
      refine WC.seq ?_
      refine WC.region ?_
      refine WL.p (.none rfl) rfl (OpP.assign rfl) ?_
      refine WL.p (.none rfl) rfl (OpP.assign rfl) ?_
      refine WL.p (.none rfl) rfl (OpP.assign rfl) ?_
      refine WL.nil ?_
      refine EQ.sub ((Sub.cons (i := 0) rfl (Sub.cons (i := 3) rfl (Sub.cons (i := 4) rfl (Sub.cons (i := 5) rfl (Sub.cons (i := 6) rfl (Sub.nil _))))))) ?_
      refine EQ.code ?_
      refine WC.ret ?_
      refine EQ.blockR ?_
      refine EQ.thenR ?_
      refine EQ.finD (H' := (g, tabO T.floor mb) :: (mb, mobj .u64 es cc) :: (d2 ++ R)) (res3 rfl (.tmp rfl) (.tmp rfl) (.tmp rfl)) (by intro _ h; first | exact h.drop | exact (h.perm (List.perm_append_comm_assoc (_ :: _ :: d21) [_] R)).drop | exact (h.perm (foc_perm _ _ _ _ _ _ _ _).symm).drop | exact (h.sublist (((List.sublist_cons_self _ _).trans (List.sublist_cons_self _ _)).cons_cons _)).perm hfin | exact (h.perm (List.perm_append_comm_assoc [_, _] dj _)).sublist (List.Sublist.append_left (((List.Sublist.append_right hsub5 R).cons_cons _).cons_cons _) dj)) ?_
      exact ⟨[], none, 0, false, 23, T, [], _, rfl, rfl, ⟨mb, es, cc, d2, rfl, hok, hps⟩, .old hpk hc2, fun W R' => Sl.nil _⟩
    · -- cond 2 f
      (try simp only [decide_eq_true_eq, decide_eq_false_iff_not, Bool.not_eq_true', Bool.not_eq_false', Bool.or_eq_true, Bool.and_eq_true, Bool.or_eq_false_iff, Bool.and_eq_false_imp, Option.isNone_some, Bool.false_eq_true, false_or, true_and] at hc2)
      refine WC.skip ?_
      refine EQ.blockN ?_
      refine EQ.code ?_
      refine WC.seq ?_
      refine WC.draw (by kernel_rfl) (by kernel_rfl) ?_
      refine WQ.p (.none rfl) rfl (OpP.move rfl) ?_
      refine WQ.p (.none rfl) rfl (OpP.nilCheck rfl) ?_
      refine WQ.p (.none rfl) rfl (OpP.fieldAddr rfl fld_52_1) ?_
      refine WQ.p (.none rfl) rfl (OpP.load rfl ty_50 (Rd.own (by repeat (first | assumption | exact List.mem_cons_self | exact List.mem_of_getElem? (by assumption) | exact set_mem (by first | assumption | exact set_hit (by assumption)) | apply List.mem_cons_of_mem | apply List.mem_append_right)) (by rfl))) ?_
      refine WQ.p (.none rfl) rfl (OpP.fieldAddr rfl fld_35_0) ?_
      refine WQ.p (.none rfl) rfl (OpP.load rfl ty_22 (Rd.own (by repeat (first | assumption | exact List.mem_cons_self | exact List.mem_of_getElem? (by assumption) | exact set_mem (by first | assumption | exact set_hit (by assumption)) | apply List.mem_cons_of_mem | apply List.mem_append_right)) (by rfl))) ?_
      refine WQ.p (.none rfl) rfl (OpP.lookup rfl rfl map_50 (List.mem_cons_of_mem _ (List.mem_cons_of_mem _ List.mem_cons_self))) ?_
      rw [hpv]
      refine WQ.p (.none rfl) rfl (OpP.assign rfl) ?_
      refine WQ.done ?_
      refine EQ.sub ((Sub.cons (i := 0) rfl (Sub.cons (i := 3) rfl (Sub.cons (i := 4) rfl (Sub.cons (i := 5) rfl (Sub.cons (i := 6) rfl (Sub.cons (i := 7) rfl (Sub.nil _)))))))) ?_
      refine EQ.code ?_
      refine WC.join (σ := Jst) (fun s => [(0, .pointer (some ⟨g, 0, none⟩)), (3, .pointer (some ⟨b3, 0, none⟩)), (7, .pointer (some ⟨s.ob, 0, none⟩))]) (fun s => (s.ob, cl (opnL s.F s.C) 61) :: (b3, cl (ptL id (i : Int) (k : Int) a d.length c) 35) :: (s.S.flatten ++ ((g, tabO s.T.floor s.mb) :: (s.mb, mobj .u64 s.es s.c) :: (s.dr ++ R)))) (fun s => CR s.F s.C s.S ∧ s.F.id = id ∧ Mok s.es s.c ∧ Base T id (k : Int) s.T s.F ∧ s.F.g.getD i none = none ∧ s.F.n = (k : Int) ∧ (s.F.cnt : Int) < k ∧ (∀ j d, j < 64 → s.F.g.getD j none = some d → ptOk id j (k : Int) d.length = true) ∧ ∀ G sg', G.id = id → OR G s.ob sg' → ∃ dd, dd.Perm (sg' ++ s.dr) ∧ PsR Opn.id OR (pSet Opn.id s.T.fs G) s.es dd) ?_ (fun ⟨T1, F, ob, C, S, mb1, es1, cc1, dr⟩ hinv => ?_)
      · -- join 18 0
        refine WC.block ?_
        refine WC.seq ?_
        refine WC.region ?_
        refine WL.p (.none rfl) rfl (OpP.move rfl) ?_
        refine WL.p (.none rfl) rfl (OpP.eqlNil rfl rfl Try.underlying57) ?_
        refine WL.p (.none rfl) rfl (OpP.assign rfl) ?_
        refine WL.nil ?_
        refine EQ.sub ((Sub.cons (i := 0) rfl (Sub.cons (i := 3) rfl (Sub.cons (i := 4) rfl (Sub.cons (i := 5) rfl (Sub.cons (i := 6) rfl (Sub.cons (i := 7) rfl (Sub.cons (i := 35) rfl (Sub.nil _))))))))) ?_
        refine EQ.code ?_
        refine WC.cond rfl (fun hc3 => ?_) (fun hc3 => ?_)
        · -- cond 3 t
          (try simp only [decide_eq_true_eq, decide_eq_false_iff_not, Bool.not_eq_true', Bool.not_eq_false', Bool.or_eq_true, Bool.and_eq_true, Bool.or_eq_false_iff, Bool.and_eq_false_imp, Option.isNone_some, Bool.false_eq_true, false_or, true_and] at hc3)
          have hpn0 : p = none := by cases p with
            | none => rfl
            | some q => simp at hc3
          refine WC.seq ?_
          refine WC.seq ?_
          refine WC.region ?_
          refine WL.p (.none rfl) rfl (OpP.move rfl) ?_
          refine WL.p (.none rfl) rfl (OpP.fieldAddr rfl fld_35_0) ?_
          refine WL.p (.none rfl) rfl (OpP.load rfl ty_22 (Rd.own (by repeat (first | assumption | exact List.mem_cons_self | exact List.mem_of_getElem? (by assumption) | exact set_mem (by first | assumption | exact set_hit (by assumption)) | apply List.mem_cons_of_mem | apply List.mem_append_right)) (by rfl))) ?_
          refine WL.call rfl (.none rfl) rfl k_23 rfl (CxX.pre (List.perm_append_comm_assoc [_] ((g, tabO T.floor mb) :: (mb, mobj .u64 es cc) :: d2) _) (room_c (T := T) ⟨mb, es, cc, d2, rfl, hok, hps⟩ (Nat.le_trans hwf.len (by decide)) (fun F hF => by have := hwf.num F hF; omega))) ?_
          rintro _ _ ⟨e, T1, ds1, rfl, rfl, hT1, hroom⟩
          obtain ⟨mb1, es1, cc1, d21, rfl, hok1, hps1⟩ := hT1
          refine WL.p (.none rfl) rfl (OpP.assign rfl) ?_
          refine WL.nil ?_
          refine EQ.sub ((Sub.cons (i := 0) rfl (Sub.cons (i := 3) rfl (Sub.cons (i := 4) rfl (Sub.cons (i := 5) rfl (Sub.cons (i := 6) rfl (Sub.cons (i := 7) rfl (Sub.cons (i := 8) rfl (Sub.nil _))))))))) ?_
          refine EQ.code ?_
          refine WC.seq ?_
          refine WC.region ?_
          refine WL.p (.none rfl) rfl (OpP.move rfl) ?_
          refine WL.p (.none rfl) rfl (OpP.neqI rfl rfl) ?_
          refine WL.nil ?_
          refine EQ.sub ((Sub.cons (i := 0) rfl (Sub.cons (i := 3) rfl (Sub.cons (i := 4) rfl (Sub.cons (i := 5) rfl (Sub.cons (i := 6) rfl (Sub.cons (i := 7) rfl (Sub.cons (i := 8) rfl (Sub.cons (i := 43) rfl (Sub.nil _)))))))))) ?_
          refine EQ.code ?_
          refine WC.cond rfl (fun hc4 => ?_) (fun hc4 => ?_)
          · -- cond 4 t
            (try simp only [decide_eq_true_eq, decide_eq_false_iff_not, Bool.not_eq_true', Bool.not_eq_false', Bool.or_eq_true, Bool.and_eq_true, Bool.or_eq_false_iff, Bool.and_eq_false_imp, Option.isNone_some, Bool.false_eq_true, false_or, true_and] at hc4)
            refine WC.seq ?_
            refine WC.region ?_
            refine WL.p (.none rfl) rfl (OpP.move rfl) ?_
            refine WL.p (.none rfl) rfl (OpP.assign rfl) ?_
            refine WL.p (.none rfl) rfl (OpP.assign rfl) ?_
            refine WL.p (.none rfl) rfl (OpP.assign rfl) ?_
            refine WL.nil ?_
            refine EQ.sub ((Sub.cons (i := 0) rfl (Sub.cons (i := 3) rfl (Sub.cons (i := 4) rfl (Sub.cons (i := 5) rfl (Sub.cons (i := 6) rfl (Sub.cons (i := 7) rfl (Sub.nil _)))))))) ?_
            refine EQ.code ?_
            refine WC.ret ?_
            refine EQ.thenR ?_
            refine EQ.blockR ?_
            refine EQ.thenR ?_
            refine EQ.finD (H' := ((g, tabO T1.floor mb1) :: (mb1, mobj .u64 es1 cc1) :: d21) ++ R) (res3 rfl (.tmp rfl) (.tmp rfl) (.tmp rfl)) (by intro _ h; first | exact h.drop | exact (h.perm (List.perm_append_comm_assoc (_ :: _ :: d21) [_] R)).drop | exact (h.perm (foc_perm _ _ _ _ _ _ _ _).symm).drop | exact (h.sublist (((List.sublist_cons_self _ _).trans (List.sublist_cons_self _ _)).cons_cons _)).perm hfin | exact (h.perm (List.perm_append_comm_assoc [_, _] dj _)).sublist (List.Sublist.append_left (((List.Sublist.append_right hsub5 R).cons_cons _).cons_cons _) dj)) ?_
            refine ⟨[], none, 0, false, e, T1, [], _, rfl, rfl, ⟨mb1, es1, cc1, d21, rfl, hok1, hps1⟩, ?_, fun W R' => Sl.nil _⟩
            cases hroom with
            | ok h => exact absurd rfl hc4
            | up m h1 h2 h3 => exact absurd rfl hc4
            | full m h1 h2 h3 => exact .full m hpk (by omega) (hpn hpn0) h1 h2 h3
          · -- cond 4 f
            (try simp only [decide_eq_true_eq, decide_eq_false_iff_not, Bool.not_eq_true', Bool.not_eq_false', Bool.or_eq_true, Bool.and_eq_true, Bool.or_eq_false_iff, Bool.and_eq_false_imp, Option.isNone_some, Bool.false_eq_true, false_or, true_and] at hc4)
            have he0 : e = 0 := by omega
            subst he0
            refine WC.skip ?_
            refine EQ.code ?_
            refine WC.seq ?_
            refine WC.region ?_
            refine WL.p (.none rfl) rfl (OpP.fieldAddr rfl fld_35_2) ?_
            refine WL.p (.none rfl) rfl (OpP.load rfl ty_3 (Rd.own (by repeat (first | assumption | exact List.mem_cons_self | exact List.mem_of_getElem? (by assumption) | exact set_mem (by first | assumption | exact set_hit (by assumption)) | apply List.mem_cons_of_mem | apply List.mem_append_right)) (by rfl))) ?_
            refine WL.p (.none rfl) rfl (OpP.fieldAddr rfl fld_35_2) ?_
            refine WL.p (.none rfl) rfl (OpP.load rfl ty_3 (Rd.own (by repeat (first | assumption | exact List.mem_cons_self | exact List.mem_of_getElem? (by assumption) | exact set_mem (by first | assumption | exact set_hit (by assumption)) | apply List.mem_cons_of_mem | apply List.mem_append_right)) (by rfl))) ?_
            refine WL.p (.none rfl) rfl (OpP.buildS (l := opnX (k : Int) (List.replicate 64 false) (List.replicate 64 pt0) (k : Int)) bld_61 (kI rfl (kI rfl kI0)) (by kernel_rfl)) ?_
            refine WL.box rfl rfl rfl (fun b50 => ?_)
            refine WL.p (.none rfl) rfl (OpP.assign rfl) ?_
            refine WL.nil ?_
            refine EQ.sub ((Sub.cons (i := 0) rfl (Sub.cons (i := 3) rfl (Sub.cons (i := 4) rfl (Sub.cons (i := 5) rfl (Sub.cons (i := 6) rfl (Sub.cons (i := 7) rfl (Sub.nil _)))))))) ?_
            refine EQ.code ?_
            refine WC.drawT 7 (by kernel_rfl) (by kernel_rfl) ?_
            refine WQ.p (.none rfl) rfl (OpP.move rfl) ?_
            refine WQ.p (.none rfl) rfl (OpP.nilCheck rfl) ?_
            refine WQ.p (.none rfl) rfl (OpP.fieldAddr rfl fld_52_1) ?_
            refine WQ.p (.none rfl) rfl (OpP.load rfl ty_50 (Rd.own (by repeat (first | assumption | exact List.mem_cons_self | exact List.mem_of_getElem? (by assumption) | exact set_mem (by first | assumption | exact set_hit (by assumption)) | apply List.mem_cons_of_mem | apply List.mem_append_right)) (by rfl))) ?_
            refine WQ.p (.none rfl) rfl (OpP.fieldAddr rfl fld_35_0) ?_
            refine WQ.p (.none rfl) rfl (OpP.load rfl ty_22 (Rd.own (by repeat (first | assumption | exact List.mem_cons_self | exact List.mem_of_getElem? (by assumption) | exact set_mem (by first | assumption | exact set_hit (by assumption)) | apply List.mem_cons_of_mem | apply List.mem_append_right)) (by rfl))) ?_
            refine WQ.p (.none rfl) rfl (OpP.move rfl) ?_
            refine WQ.tail ?_
            refine WL.s (.none rfl) rfl (OpS.mapUpdate rfl rfl rfl map_50 (by repeat (first | assumption | exact at0 | exact set_hit (by first | assumption | exact set_hit (by assumption)) | apply ats))) ?_
            refine WL.nil ?_
            refine EQ.sub ((Sub.cons (i := 0) rfl (Sub.cons (i := 3) rfl (Sub.cons (i := 4) rfl (Sub.cons (i := 5) rfl (Sub.cons (i := 6) rfl (Sub.cons (i := 7) rfl (Sub.nil _)))))))) ?_
            refine EQ.blockN ?_
            refine EQ.joined ⟨{ T1 with fs := T1.fs ++ [Opn.new id (k : Int)] }, Opn.new id (k : Int), b50, List.replicate 64 pt0, List.replicate 64 [], mb1, mput es1 cc1 id (.pointer (some ⟨b50, 0, none⟩)), mclk es1 cc1 id, d21⟩ ?_ ?_ ?_
            · refine ⟨new_cr _ _, rfl, hok1.put id _, .new T1 (hpn hpn0) hroom, rep_get hi64, rfl, ?_, fun j d hj hd => ?_, fun G sg' hG hO => ⟨d21 ++ sg', List.perm_append_comm, ?_⟩⟩
              · have : (Opn.new id (k : Int)).cnt = 0 := by simp [Opn.cnt, Opn.new, List.countP_replicate]
                (try simp only)
                rw [this]; omega
              · (try simp only [Opn.new] at hd)
                rw [rep_get hj] at hd
                cases hd
              · have hfn := room_find hroom (hpn hpn0)
                (try simp only)
                rw [pSet_new (F := Opn.new id (k : Int)) hfn hG]
                have := hps1.new G b50 sg' cc1 (by rw [hG]; exact hfn) hO
                rwa [hG] at this
            · exact ((Sub.cons rfl (Sub.cons rfl (Sub.cons rfl (Sub.nil _)))))
            · intro w h
              show St W0 w ((b50, cl (opnL (Opn.new id (k : Int)) (List.replicate 64 pt0)) 61) :: _ :: ((List.replicate 64 ([] : Hp)).flatten ++ _))
              rw [rep_flat, new_opn]
              exact h.perm (List.Perm.cons _ (List.perm_append_comm_assoc (_ :: _ :: d21) [_] R))
        · -- cond 3 f
          (try simp only [decide_eq_true_eq, decide_eq_false_iff_not, Bool.not_eq_true', Bool.not_eq_false', Bool.or_eq_true, Bool.and_eq_true, Bool.or_eq_false_iff, Bool.and_eq_false_imp, Option.isNone_some, Bool.false_eq_true, false_or, true_and] at hc3)
          obtain ⟨q, hq⟩ : ∃ q, p = some q := by cases p with
            | none => simp at hc3
            | some q => exact ⟨q, rfl⟩
          obtain ⟨ob, F, d1, C, S, d3, rfl, hfd, hFid, hcr, rfl, hcl⟩ := hpf q hq
          subst hq
          have hFm := List.mem_of_find?_eq_some hfd
          have hFw := hwf.lg F hFm
          refine WC.hp (H' := (ob, cl (opnL F C) 61) :: (b3, cl (ptL id (i : Int) (k : Int) a d.length c) 35) :: (S.flatten ++ ((g, tabO T.floor mb) :: (mb, mobj .u64 es cc) :: ((d1 ++ d3) ++ R)))) (fun w h => h.perm (foc_perm _ _ _ _ _ _ _ _)) ?_
          refine WC.seq ?_
          refine WC.draw (by kernel_rfl) (by kernel_rfl) ?_
          refine WQ.p (.none rfl) rfl (OpP.move rfl) ?_
          refine WQ.p (.none rfl) rfl (OpP.nilCheck rfl) ?_
          refine WQ.p (.none rfl) rfl (OpP.fieldAddr rfl fld_61_0) ?_
          refine WQ.p (.none rfl) rfl (OpP.load rfl ty_3 (Rd.own List.mem_cons_self rfl)) ?_
          refine WQ.p (.none rfl) rfl (OpP.fieldAddr rfl fld_35_2) ?_
          refine WQ.p (.none rfl) rfl (OpP.load rfl ty_3 (Rd.own (by repeat (first | assumption | exact List.mem_cons_self | exact List.mem_of_getElem? (by assumption) | exact set_mem (by first | assumption | exact set_hit (by assumption)) | apply List.mem_cons_of_mem | apply List.mem_append_right)) (by rfl))) ?_
          refine WQ.p (.none rfl) rfl (OpP.neqI rfl rfl) ?_
          refine WQ.p (.none rfl) rfl (OpP.assign rfl) ?_
          refine WQ.done ?_
          refine EQ.sub ((Sub.cons (i := 0) rfl (Sub.cons (i := 3) rfl (Sub.cons (i := 4) rfl (Sub.cons (i := 5) rfl (Sub.cons (i := 6) rfl (Sub.cons (i := 7) rfl (Sub.cons (i := 58) rfl (Sub.nil _))))))))) ?_
          refine EQ.code ?_
          refine WC.cond rfl (fun hc5 => ?_) (fun hc5 => ?_)
          · -- cond 5 t
            (try simp only [decide_eq_true_eq, decide_eq_false_iff_not, Bool.not_eq_true', Bool.not_eq_false', Bool.or_eq_true, Bool.and_eq_true, Bool.or_eq_false_iff, Bool.and_eq_false_imp, Option.isNone_some, Bool.false_eq_true, false_or, true_and] at hc5)
            refine WC.seq ?_
            refine WC.region ?_
            refine WL.p (.none rfl) rfl (OpP.assign rfl) ?_
            refine WL.p (.none rfl) rfl (OpP.assign rfl) ?_
            refine WL.p (.none rfl) rfl (OpP.assign rfl) ?_
            refine WL.nil ?_
            refine EQ.sub ((Sub.cons (i := 0) rfl (Sub.cons (i := 3) rfl (Sub.cons (i := 4) rfl (Sub.cons (i := 5) rfl (Sub.cons (i := 6) rfl (Sub.cons (i := 7) rfl (Sub.nil _)))))))) ?_
            refine EQ.code ?_
            refine WC.ret ?_
            refine EQ.blockR ?_
            refine EQ.thenR ?_
            refine EQ.finD (H' := (g, tabO T.floor mb) :: (mb, mobj .u64 es cc) :: ((d1 ++ (((ob, cl (opnL F C) 61) :: S.flatten) ++ d3)) ++ R)) (res3 rfl (.tmp rfl) (.tmp rfl) (.tmp rfl)) (by intro _ h; first | exact h.drop | exact (h.perm (List.perm_append_comm_assoc (_ :: _ :: d21) [_] R)).drop | exact (h.perm (foc_perm _ _ _ _ _ _ _ _).symm).drop | exact (h.sublist (((List.sublist_cons_self _ _).trans (List.sublist_cons_self _ _)).cons_cons _)).perm hfin | exact (h.perm (List.perm_append_comm_assoc [_, _] dj _)).sublist (List.Sublist.append_left (((List.Sublist.append_right hsub5 R).cons_cons _).cons_cons _) dj)) ?_
            exact ⟨[], none, 0, false, 1, T, [], _, rfl, rfl, ⟨mb, es, cc, _, rfl, hok, hps⟩, .arg F hpk (by omega) hfd (by omega), fun W R' => Sl.nil _⟩
          · -- cond 5 f
            (try simp only [decide_eq_true_eq, decide_eq_false_iff_not, Bool.not_eq_true', Bool.not_eq_false', Bool.or_eq_true, Bool.and_eq_true, Bool.or_eq_false_iff, Bool.and_eq_false_imp, Option.isNone_some, Bool.false_eq_true, false_or, true_and] at hc5)
            have hFn : F.n = (k : Int) := by omega
            refine WC.seq ?_
            refine WC.draw (by kernel_rfl) (by kernel_rfl) ?_
            refine WQ.p (.none rfl) rfl (OpP.move rfl) ?_
            refine WQ.p (.none rfl) rfl (OpP.fieldAddr rfl fld_35_1) ?_
            refine WQ.p (.none rfl) rfl (OpP.load rfl ty_3 (Rd.own (by repeat (first | assumption | exact List.mem_cons_self | exact List.mem_of_getElem? (by assumption) | exact set_mem (by first | assumption | exact set_hit (by assumption)) | apply List.mem_cons_of_mem | apply List.mem_append_right)) (by rfl))) ?_
            refine WQ.p (.none rfl) rfl (OpP.nilCheck rfl) ?_
            refine WQ.p (.none rfl) rfl (OpP.fieldAddr rfl fld_61_1) ?_
            refine WQ.p (.none rfl) rfl (OpP.indexA rfl rfl el_31 (by omega) (by omega)) ?_
            refine WQ.p (.none rfl) rfl (OpP.load rfl ty_4 (Rd.own List.mem_cons_self (opnX_is (by simp [hcr.lg]) hi64))) ?_
            rw [map_is]
            refine WQ.p (.none rfl) rfl (OpP.assign rfl) ?_
            refine WQ.done ?_
            refine EQ.sub ((Sub.cons (i := 0) rfl (Sub.cons (i := 3) rfl (Sub.cons (i := 4) rfl (Sub.cons (i := 5) rfl (Sub.cons (i := 6) rfl (Sub.cons (i := 7) rfl (Sub.cons (i := 66) rfl (Sub.nil _))))))))) ?_
            refine EQ.code ?_
            refine WC.cond rfl (fun hc6 => ?_) (fun hc6 => ?_)
            · -- cond 6 t
              (try simp only [decide_eq_true_eq, decide_eq_false_iff_not, Bool.not_eq_true', Bool.not_eq_false', Bool.or_eq_true, Bool.and_eq_true, Bool.or_eq_false_iff, Bool.and_eq_false_imp, Option.isNone_some, Bool.false_eq_true, false_or, true_and] at hc6)
              refine WC.seq ?_
              refine WC.region ?_
              refine WL.p (.none rfl) rfl (OpP.assign rfl) ?_
              refine WL.p (.none rfl) rfl (OpP.assign rfl) ?_
              refine WL.p (.none rfl) rfl (OpP.assign rfl) ?_
              refine WL.nil ?_
              refine EQ.sub ((Sub.cons (i := 0) rfl (Sub.cons (i := 3) rfl (Sub.cons (i := 4) rfl (Sub.cons (i := 5) rfl (Sub.cons (i := 6) rfl (Sub.cons (i := 7) rfl (Sub.nil _)))))))) ?_
              refine EQ.code ?_
              refine WC.ret ?_
              refine EQ.blockR ?_
              refine EQ.thenR ?_
              refine EQ.finD (H' := (g, tabO T.floor mb) :: (mb, mobj .u64 es cc) :: ((d1 ++ (((ob, cl (opnL F C) 61) :: S.flatten) ++ d3)) ++ R)) (res3 rfl (.tmp rfl) (.tmp rfl) (.tmp rfl)) (by intro _ h; first | exact h.drop | exact (h.perm (List.perm_append_comm_assoc (_ :: _ :: d21) [_] R)).drop | exact (h.perm (foc_perm _ _ _ _ _ _ _ _).symm).drop | exact (h.sublist (((List.sublist_cons_self _ _).trans (List.sublist_cons_self _ _)).cons_cons _)).perm hfin | exact (h.perm (List.perm_append_comm_assoc [_, _] dj _)).sublist (List.Sublist.append_left (((List.Sublist.append_right hsub5 R).cons_cons _).cons_cons _) dj)) ?_
              exact ⟨[], none, 0, false, 7, T, [], _, rfl, rfl, ⟨mb, es, cc, _, rfl, hok, hps⟩, .state F hpk (by omega) hfd hFn (by rw [Int.toNat_natCast]; exact hc6), fun W R' => Sl.nil _⟩
            · -- cond 6 f
              (try simp only [decide_eq_true_eq, decide_eq_false_iff_not, Bool.not_eq_true', Bool.not_eq_false', Bool.or_eq_true, Bool.and_eq_true, Bool.or_eq_false_iff, Bool.and_eq_false_imp, Option.isNone_some, Bool.false_eq_true, false_or, true_and] at hc6)
              refine WC.skip ?_
              refine EQ.blockN ?_
              refine EQ.joined ⟨T, F, ob, C, S, mb, es, cc, d1 ++ d3⟩ ?_ ?_ ?_
              · refine ⟨hcr, hFid, hok, .old F hfd hFn, ?_, hFn, by (try simp only); omega, fun j d hj hd => ?_, fun G sg' hG hO => ⟨d1 ++ (sg' ++ d3), List.perm_append_comm_assoc d1 sg' d3, hcl G sg' hG hO⟩⟩
                · cases hh : F.g.getD i none with
                  | none => rfl
                  | some x => rw [hh] at hc6; cases hc6
                · have := hwf.part F hFm j d hj hd
                  rwa [hFid, hFn] at this
              · exact ((Sub.cons rfl (Sub.cons rfl (Sub.cons rfl (Sub.nil _)))))
              · intro _ h; first | exact h | exact h.drop | exact h.drop_mid
      · -- join 18 1
        (try simp only at hinv ⊢)
        obtain ⟨hcr, hFid, hok1, hbase, hgi, hFn, hcnt, hpar, hclo⟩ := hinv
        have hcm : (F.g.map Option.isSome).length = 64 := by simp [hcr.lg]
        have hcm2 : ((F.g.map Option.isSome).set i true).length = 64 := by simp [hcr.lg]
        refine WC.seq ?_
        refine WC.region ?_
        refine WL.p (.none rfl) rfl (OpP.loadB rfl ty_35 (by repeat (first | assumption | exact List.mem_cons_self | exact List.mem_of_getElem? (by assumption) | exact set_mem (by first | assumption | exact set_hit (by assumption)) | apply List.mem_cons_of_mem | apply List.mem_append_right)) (by rfl)) ?_
        refine WL.allocX z_35 rfl (fun b9 => ?_)
        first | (refine WL.s (.none rfl) rfl (OpS.storeAll rfl rfl ty_35 (by repeat (first | assumption | exact at0 | exact set_hit (by first | assumption | exact set_hit (by assumption)) | apply ats)) (by rfl) (by rfl) (by rfl) (by rfl)) ?_) | (refine WL.s (.none rfl) rfl (OpS.store rfl rfl ty_35 (by repeat (first | assumption | exact at0 | exact set_hit (by first | assumption | exact set_hit (by assumption)) | apply ats)) (by rfl) (by rfl) (by rfl) (by rfl)) ?_)
        refine WL.nil ?_
        refine EQ.sub ((Sub.cons (i := 0) rfl (Sub.cons (i := 3) rfl (Sub.cons (i := 7) rfl (Sub.cons (i := 9) rfl (Sub.nil _)))))) ?_
        refine EQ.code ?_
        refine WC.seq ?_
        refine WC.region ?_
        refine WL.p (.none rfl) rfl (OpP.fieldAddr rfl fld_35_3) ?_
        refine WL.p (.none rfl) rfl (OpP.load rfl ty_23 (Rd.own (by repeat (first | assumption | exact List.mem_cons_self | exact List.mem_of_getElem? (by assumption) | exact set_mem (by first | assumption | exact set_hit (by assumption)) | apply List.mem_cons_of_mem | apply List.mem_append_right)) (by rfl))) ?_
        refine WL.call rfl (.none rfl) rfl k_20 rfl (Clone_c (l := d) rfl (by omega) (hsl.of (fun w h => h.sublist (by repeat (first | exact List.Sublist.refl _ | exact List.sublist_append_right _ _ | apply List.Sublist.cons | refine List.Sublist.trans ?_ (List.sublist_append_right _ _)))))) ?_
        rintro _ _ ⟨dn, rfl, hown2, _⟩
        obtain ⟨pa, pc, rfl, hpc, hpc2, hps2⟩ := hown2.val
        refine WL.hp (H' := (ob, cl (opnX F.n (F.g.map Option.isSome) C (F.n - (F.cnt : Int))) 61) :: (b9, cl (ptL id (i : Int) (k : Int) a d.length c) 35) :: (b3, cl (ptL id (i : Int) (k : Int) a d.length c) 35) :: (dn ++ (S.flatten ++ ((g, tabO T1.floor mb1) :: (mb1, mobj .u64 es1 cc1) :: (dr ++ R))))) (fun w h => h.perm ((List.perm_append_comm_assoc dn [_, _, _] _).trans (List.Perm.swap _ _ _))) ?_
        refine WL.p (.none rfl) rfl (OpP.fieldAddr rfl fld_35_3) ?_
        refine WL.s (.none rfl) rfl (OpS.store rfl rfl ty_23 (by repeat (first | assumption | exact at0 | exact set_hit (by first | assumption | exact set_hit (by assumption)) | apply ats)) (by rfl) (by rfl) (by rfl) (by rfl)) ?_
        refine WL.nil ?_
        refine EQ.sub ((Sub.cons (i := 0) rfl (Sub.cons (i := 3) rfl (Sub.cons (i := 7) rfl (Sub.cons (i := 9) rfl (Sub.nil _)))))) ?_
        refine EQ.code ?_
        refine WC.seq ?_
        refine WC.mixC ((b9, cl (ptL id (i : Int) (k : Int) pa d.length pc) 35) :: (b3, cl (ptL id (i : Int) (k : Int) a d.length c) 35) :: (dn ++ (S.flatten ++ ((g, tabO T1.floor mb1) :: (mb1, mobj .u64 es1 cc1) :: (dr ++ R))))) (by kernel_rfl) ?_
        have hcr2 : CR (F.set i d) (C.set i (ptL id (i : Int) (k : Int) pa d.length pc)) (S.set i dn) := by have := hcr.set (k := pc) hi64 (ptOk_len hpk) hps2; rwa [hFid, hFn] at this
        have hC2 := hcr2.lc
        have hc2 := hcr2.cells
        refine AJ.p (i := 0) rfl (by kernel_rfl) (.none rfl) rfl (OpP.move rfl) ?_
        refine AJ.p (i := 1) rfl (by kernel_rfl) (.none rfl) rfl (OpP.fieldAddr rfl fld_35_1) ?_
        refine AJ.p (i := 2) rfl (by kernel_rfl) (.none rfl) rfl (OpP.load rfl ty_3 (Rd.own (by repeat (first | assumption | exact List.mem_cons_self | exact List.mem_of_getElem? (by assumption) | exact set_mem (by first | assumption | exact set_hit (by assumption)) | apply List.mem_cons_of_mem | apply List.mem_append_right)) (by rfl))) ?_
        refine AJ.p (i := 3) rfl (by kernel_rfl) (.none rfl) rfl (OpP.move rfl) ?_
        refine AJ.p (i := 4) rfl (by kernel_rfl) (.none rfl) rfl (OpP.fieldAddr rfl fld_35_1) ?_
        refine AJ.p (i := 5) rfl (by kernel_rfl) (.none rfl) rfl (OpP.load rfl ty_3 (Rd.own (by repeat (first | assumption | exact List.mem_cons_self | exact List.mem_of_getElem? (by assumption) | exact set_mem (by first | assumption | exact set_hit (by assumption)) | apply List.mem_cons_of_mem | apply List.mem_append_right)) (by rfl))) ?_
        refine AJ.p (i := 6) rfl (by kernel_rfl) (.none rfl) rfl (OpP.loadW rfl ty_35 List.mem_cons_self rfl) ?_
        refine AJ.p (i := 7) rfl (by kernel_rfl) (.none rfl) rfl (OpP.nilCheck rfl) ?_
        refine AJ.p (i := 8) rfl (by kernel_rfl) (.none rfl) rfl (OpP.fieldAddr rfl fld_61_1) ?_
        refine AJ.p (i := 9) rfl (by kernel_rfl) (.none rfl) rfl (OpP.indexA rfl rfl el_31 (by omega) (by omega)) ?_
        refine AJ.p (i := 11) rfl (by kernel_rfl) (.none rfl) rfl (OpP.nilCheck rfl) ?_
        refine AJ.p (i := 12) rfl (by kernel_rfl) (.none rfl) rfl (OpP.fieldAddr rfl fld_61_2) ?_
        refine AJ.one 10 rfl (by kernel_rfl) (by intro _ h; first | exact h | exact h.drop) ?_
        refine WL.s (.none rfl) rfl (OpS.store rfl rfl ty_4 at0 rfl rfl rfl (Nat.ble_eq_true_of_le (by first | (rw [opnX_len hcm hcr.lc hcr.cells]; omega) | (rw [opnX_len hcm hC2 hc2]; omega) | (rw [opnX_len hcm2 hcr.lc hcr.cells]; omega)))) ?_
        rw [opnX_came hcm hi64]
        refine WL.nil ?_
        refine EQ.an ?_
        refine AJ.p (i := 13) rfl (by kernel_rfl) (.none rfl) rfl (OpP.indexA rfl rfl el_59 (by omega) (by omega)) ?_
        refine AJ.one 14 rfl (by kernel_rfl) (by intro _ h; first | exact h | exact h.drop) ?_
        refine WL.s (.none rfl) rfl (OpS.store rfl rfl ty_35 at0 rfl rfl rfl (Nat.ble_eq_true_of_le (by first | (rw [opnX_len hcm hcr.lc hcr.cells]; omega) | (rw [opnX_len hcm hC2 hc2]; omega) | (rw [opnX_len hcm2 hcr.lc hcr.cells]; omega)))) ?_
        first | rw [opnX_part hcr.lc hcr.cells hi64 rfl hcm] | rw [opnX_part hcr.lc hcr.cells hi64 rfl hcm2]
        refine WL.nil ?_
        refine EQ.an ?_
        refine AJ.done (by kernel_rfl) (by intro _ h; first | exact h | exact h.drop) ?_
        refine EQ.sub ((Sub.cons (i := 0) rfl (Sub.cons (i := 3) rfl (Sub.cons (i := 7) rfl (Sub.nil _))))) ?_
        refine EQ.code ?_
        refine WC.seq ?_
        refine WC.region ?_
        refine WL.p (.none rfl) rfl (OpP.move rfl) ?_
        refine WL.p (.none rfl) rfl (OpP.nilCheck rfl) ?_
        refine WL.p (.none rfl) rfl (OpP.fieldAddr rfl fld_61_3) ?_
        refine WL.p (.none rfl) rfl (OpP.load rfl ty_3 (Rd.own List.mem_cons_self (opnX_left hcm2 hC2 hc2))) ?_
        first | (refine WL.p (.none rfl) rfl (OpP.sub64 rfl rfl (by omega)) ?_) | (refine WL.p (.none rfl) rfl (OpP.sub rfl rfl) ?_)
        refine WL.p (.none rfl) rfl (OpP.nilCheck rfl) ?_
        refine WL.p (.none rfl) rfl (OpP.fieldAddr rfl fld_61_3) ?_
        refine WL.s (.none rfl) rfl (OpS.store rfl rfl ty_3 at0 rfl rfl rfl (Nat.ble_eq_true_of_le (Nat.le_of_eq (by rw [opnX_len hcm2 hC2 hc2])))) ?_
        rw [opnX_end hcm2 hC2 hc2]
        refine WL.nil ?_
        refine EQ.sub ((Sub.cons (i := 0) rfl (Sub.cons (i := 3) rfl (Sub.cons (i := 7) rfl (Sub.nil _))))) ?_
        refine EQ.code ?_
        refine WC.seq ?_
        refine WC.seq ?_
        refine WC.region ?_
        refine WL.p (.none rfl) rfl (OpP.move rfl) ?_
        refine WL.p (.none rfl) rfl (OpP.nilCheck rfl) ?_
        refine WL.p (.none rfl) rfl (OpP.fieldAddr rfl fld_61_3) ?_
        refine WL.p (.none rfl) rfl (OpP.load rfl ty_3 (Rd.own List.mem_cons_self (opnX_left hcm2 hC2 hc2))) ?_
        refine WL.p (.none rfl) rfl (OpP.gtr rfl rfl) ?_
        refine WL.nil ?_
        refine EQ.sub ((Sub.cons (i := 0) rfl (Sub.cons (i := 3) rfl (Sub.cons (i := 7) rfl (Sub.cons (i := 103) rfl (Sub.nil _)))))) ?_
        refine EQ.code ?_
        refine WC.cond rfl (fun hc7 => ?_) (fun hc7 => ?_)
        · -- cond 7 t
          (try simp only [decide_eq_true_eq, decide_eq_false_iff_not, Bool.not_eq_true', Bool.not_eq_false', Bool.or_eq_true, Bool.and_eq_true, Bool.or_eq_false_iff, Bool.and_eq_false_imp, Option.isNone_some, Bool.false_eq_true, false_or, true_and] at hc7)
          obtain ⟨dd, hdd, hpsd⟩ := hclo (F.set i d) _ hFid ⟨(C.set i (ptL id (i : Int) (k : Int) pa d.length pc)), S.set i dn, rfl, hcr2⟩
          have hfin := fin_perm (R := R) (G := (g, tabO T1.floor mb1)) (M := (mb1, mobj .u64 es1 cc1)) hdd (setF_perm dn (hcr.off i hi64 hgi).2 (by rw [hcr.ls]; exact hi64))
          have hX : opnX F.n ((F.g.map Option.isSome).set i true) (C.set i (ptL id (i : Int) (k : Int) pa d.length pc)) (F.n - (F.cnt : Int) - 1) = opnL (F.set i d) (C.set i (ptL id (i : Int) (k : Int) pa d.length pc)) := opn_set (by rw [hcr.lg]; exact hi64) hgi
          rw [hX]
          refine WC.seq ?_
          refine WC.region ?_
          refine WL.p (.none rfl) rfl (OpP.assign rfl) ?_
          refine WL.p (.none rfl) rfl (OpP.assign rfl) ?_
          refine WL.p (.none rfl) rfl (OpP.assign rfl) ?_
          refine WL.nil ?_
          refine EQ.sub ((Sub.cons (i := 0) rfl (Sub.cons (i := 3) rfl (Sub.cons (i := 4) rfl (Sub.cons (i := 5) rfl (Sub.cons (i := 6) rfl (Sub.cons (i := 7) rfl (Sub.nil _)))))))) ?_
          refine EQ.code ?_
          refine WC.ret ?_
          refine EQ.thenR ?_
          refine EQ.finD (H' := (g, tabO T1.floor mb1) :: (mb1, mobj .u64 es1 cc1) :: (dd ++ R)) (res3 rfl (.tmp rfl) (.tmp rfl) (.tmp rfl)) (by intro _ h; first | exact h.drop | exact (h.perm (List.perm_append_comm_assoc (_ :: _ :: d21) [_] R)).drop | exact (h.perm (foc_perm _ _ _ _ _ _ _ _).symm).drop | exact (h.sublist (((List.sublist_cons_self _ _).trans (List.sublist_cons_self _ _)).cons_cons _)).perm hfin | exact (h.perm (List.perm_append_comm_assoc [_, _] dj _)).sublist (List.Sublist.append_left (((List.Sublist.append_right hsub5 R).cons_cons _).cons_cons _) dj)) ?_
          exact ⟨[], none, 0, false, 0, T1.upd (F.set i d), [], _, rfl, rfl, ⟨mb1, es1, cc1, dd, rfl, hok1, hpsd⟩, .more T1 F hpk (by omega) hbase hgi (by omega), fun W R' => Sl.nil _⟩
        · -- cond 7 f
          (try simp only [decide_eq_true_eq, decide_eq_false_iff_not, Bool.not_eq_true', Bool.not_eq_false', Bool.or_eq_true, Bool.and_eq_true, Bool.or_eq_false_iff, Bool.and_eq_false_imp, Option.isNone_some, Bool.false_eq_true, false_or, true_and] at hc7)
          obtain ⟨dd, hdd, hpsd⟩ := hclo (F.set i d) _ hFid ⟨(C.set i (ptL id (i : Int) (k : Int) pa d.length pc)), S.set i dn, rfl, hcr2⟩
          have hfin := fin_perm (R := R) (G := (g, tabO T1.floor mb1)) (M := (mb1, mobj .u64 es1 cc1)) hdd (setF_perm dn (hcr.off i hi64 hgi).2 (by rw [hcr.ls]; exact hi64))
          have hX : opnX F.n ((F.g.map Option.isSome).set i true) (C.set i (ptL id (i : Int) (k : Int) pa d.length pc)) (F.n - (F.cnt : Int) - 1) = opnL (F.set i d) (C.set i (ptL id (i : Int) (k : Int) pa d.length pc)) := opn_set (by rw [hcr.lg]; exact hi64) hgi
          rw [hX]
          obtain ⟨d5, hp5, hsub5⟩ := hpsd.filter (fun q => decide (id + 1 ≤ q))
          have hcat : (F.set i d).cat = (List.range k).flatMap fun j => ((F.set i d).g.getD j none).getD [] := by
            unfold Opn.cat
            rw [show (F.set i d).n = F.n from rfl, hFn]
            rfl
          have hlowS : ∀ j, j < (F.set i d).g.length → ((F.set i d).g.getD j none).isSome = true → j < k := fun j hj hs => by
            by_cases e : j = i
            · omega
            · simp only [Opn.set] at hs hj
              rw [getD_set _ _ _ _ _ (by rw [hcr.lg]; exact hi64), if_neg e] at hs
              obtain ⟨x, hx⟩ := Option.isSome_iff_exists.1 hs
              have := hpar j x (by rw [List.length_set, hcr.lg] at hj; exact hj) hx
              unfold ptOk at this
              simp only [decide_eq_true_eq] at this
              omega
          have hallS := full_all (g := (F.set i d).g) (k := k) (by rw [hcr2.lg]; omega) hlowS (show (F.set i d).cnt = k by rw [Opn.cnt_set (by rw [hcr.lg]; exact hi64) hgi]; omega)
          have hpJ : ∀ j, j < k → ∃ a7 c7, ((C.set i (ptL id (i : Int) (k : Int) pa d.length pc)).take k).getD j [] = ptL id j k a7 (((F.set i d).g.getD j none).getD []).length c7 ∧ ptOk id j k (((F.set i d).g.getD j none).getD []).length = true ∧ Sl W0 ((ob, cl (opnL (F.set i d) (C.set i (ptL id (i : Int) (k : Int) pa d.length pc))) 61) :: (b9, cl (ptL id (i : Int) (k : Int) pa d.length pc) 35) :: (b3, cl (ptL id (i : Int) (k : Int) a d.length c) 35) :: (dn ++ (S.flatten ++ ((g, tabO T1.floor mb1) :: (mb1, mobj .u64 es1 cc1) :: (dr ++ R))))) a7 (iv .u8 (((F.set i d).g.getD j none).getD [])) := fun j hj => by
            obtain ⟨x, hx⟩ := Option.isSome_iff_exists.1 (hallS j hj)
            obtain ⟨a1, c1, h1, h2, h3⟩ := hcr2.on j x (by omega) hx
            rw [hx]
            simp only [Option.getD_some]
            refine ⟨a1, c1, ?_, ?_, ?_⟩
            · rw [show ((C.set i (ptL id (i : Int) (k : Int) pa d.length pc)).take k).getD j [] = (C.set i (ptL id (i : Int) (k : Int) pa d.length pc)).getD j [] by simp [List.getD_eq_getElem?_getD, List.getElem?_take, hj], h1, show (F.set i d).id = F.id from rfl, show (F.set i d).n = F.n from rfl, hFid, hFn]
            · by_cases e : j = i
              · subst e
                simp only [Opn.set] at hx
                rw [getD_set _ _ _ _ _ (by rw [hcr.lg]; exact hi64), if_pos rfl] at hx
                cases hx
                exact hpk
              · simp only [Opn.set] at hx
                rw [getD_set _ _ _ _ _ (by rw [hcr.lg]; exact hi64), if_neg e] at hx
                exact hpar j x (by omega) hx
            · refine (h3 W0 []).of (fun w h => h.sublist ?_)
              rw [List.append_nil, getD_set _ _ _ _ _ (by rw [hcr.ls]; exact hi64)]
              by_cases e : j = i
              · rw [if_pos e]
                exact (((List.sublist_append_left dn _).cons _).cons _).cons _
              · rw [if_neg e]
                have h5 : (S.getD j []).Sublist S.flatten := by
                  have hjl : j < S.length := by rw [hcr.ls]; omega
                  rw [List.getD_eq_getElem?_getD, List.getElem?_eq_getElem hjl]
                  exact List.sublist_flatten_of_mem (List.getElem_mem hjl)
                exact (((((h5.trans (List.sublist_append_left _ _)).trans (List.sublist_append_right dn _)).cons _).cons _).cons _)
          refine WC.hp (H' := (ob, cl (opnL (F.set i d) (C.set i (ptL id (i : Int) (k : Int) pa d.length pc))) 61) :: (b9, cl (ptL id (i : Int) (k : Int) pa d.length pc) 35) :: (b3, cl (ptL id (i : Int) (k : Int) a d.length c) 35) :: (dn ++ (S.flatten ++ ((g, tabO T1.floor mb1) :: (mb1, mobj .u64 es1 cc1) :: (dr ++ R))))) (fun w h => h) ?_
          refine WC.skip ?_
          refine EQ.code ?_
          refine WC.seq ?_
          refine WC.mix (by kernel_rfl) ?_
          refine AJ.p (i := 0) rfl (by kernel_rfl) (.none rfl) rfl (OpP.move rfl) ?_
          refine AJ.p (i := 1) rfl (by kernel_rfl) (.none rfl) rfl (OpP.nilCheck rfl) ?_
          refine AJ.p (i := 2) rfl (by kernel_rfl) (.none rfl) rfl (OpP.fieldAddr rfl fld_61_2) ?_
          refine AJ.p (i := 3) rfl (by kernel_rfl) (.none rfl) rfl (OpP.move rfl) ?_
          refine AJ.p (i := 4) rfl (by kernel_rfl) (.none rfl) rfl (OpP.nilCheck rfl) ?_
          refine AJ.p (i := 5) rfl (by kernel_rfl) (.none rfl) rfl (OpP.fieldAddr rfl fld_61_0) ?_
          refine AJ.p (i := 6) rfl (by kernel_rfl) (.none rfl) rfl (OpP.load rfl ty_3 (Rd.own (v := .int .i64 (k : Int)) List.mem_cons_self (by show some (Value.int .i64 F.n) = _; rw [hFn]))) ?_
          refine AJ.p (i := 7) rfl (by kernel_rfl) (.none rfl) rfl (OpP.slice_array rfl el_59 (l := _) rfl rfl ⟨_, rfl⟩ (by omega) (by omega) (by omega) (by omega)) ?_
          rw [show ((k : Int) - 0).toNat = k by omega]
          refine AJ.one 8 rfl (by kernel_rfl) (by intro _ h; first | exact h | exact h.drop | exact h.drop.drop | exact h.sublist (List.sublist_append_right _ _) | exact h.drop.sublist (List.sublist_append_right _ _)) ?_
          refine WL.call rfl (.none rfl) rfl k_24 rfl (Join_c (ob := ob) (o := 65) (k := k) (id := id) (C := (C.set i (ptL id (i : Int) (k : Int) pa d.length pc)).take k) (d := fun j => ((F.set i d).g.getD j none).getD []) (Sl.own (l := opnL (F.set i d) (C.set i (ptL id (i : Int) (k : Int) pa d.length pc))) List.mem_cons_self (opnX_take (n := (F.set i d).n) (came := (F.set i d).g.map Option.isSome) (C := (C.set i (ptL id (i : Int) (k : Int) pa d.length pc))) (left := (F.set i d).n - ((F.set i d).cnt : Int)) (by simp [hcr2.lg]) k)) (by omega) (by omega) (by rw [List.length_take, hC2]; omega) (fun c hc => hc2 c (List.mem_of_mem_take hc)) hpJ) ?_
          rintro _ _ ⟨oa, oc, dj, rfl, rfl, hownj⟩
          refine WL.nil ?_
          refine EQ.an ?_
          refine AJ.p (i := 9) rfl (by kernel_rfl) (.none rfl) rfl (OpP.move rfl) ?_
          refine AJ.p (i := 10) rfl (by kernel_rfl) (.none rfl) rfl (OpP.extract rfl rfl) ?_
          refine AJ.p (i := 11) rfl (by kernel_rfl) (.none rfl) rfl (OpP.extract rfl rfl) ?_
          refine AJ.p (i := 12) rfl (by kernel_rfl) (.none rfl) rfl (OpP.assign rfl) ?_
          refine AJ.p (i := 13) rfl (by kernel_rfl) (.none rfl) rfl (OpP.assign rfl) ?_
          refine AJ.done (by kernel_rfl) (by intro _ h; first | exact h | exact h.drop | exact h.drop.drop | exact h.sublist (List.sublist_append_right _ _) | exact h.drop.sublist (List.sublist_append_right _ _)) ?_
          refine EQ.sub ((Sub.cons (i := 0) rfl (Sub.cons (i := 3) rfl (Sub.cons (i := 10) rfl (Sub.cons (i := 11) rfl (Sub.nil _)))))) ?_
          refine EQ.code ?_
          refine WC.seq ?_
          refine WC.region ?_
          refine WL.p (.none rfl) rfl (OpP.move rfl) ?_
          refine WL.p (.none rfl) rfl (OpP.fieldAddr rfl fld_35_0) ?_
          refine WL.p (.none rfl) rfl (OpP.load rfl ty_22 (Rd.own (by repeat (first | assumption | exact List.mem_cons_self | exact List.mem_of_getElem? (by assumption) | exact set_mem (by first | assumption | exact set_hit (by assumption)) | apply List.mem_cons_of_mem | apply List.mem_append_right)) (by rfl))) ?_
          refine WL.p (.none rfl) rfl (OpP.add rfl rfl) ?_
          rw [wrap64 (by omega) (by omega)]
          refine WL.hp (H' := (g, tabO T1.floor mb1) :: (mb1, mobj .u64 es1 cc1) :: (dj ++ (dd ++ R))) (fun w h => ((h.sublist (List.Sublist.append_left (((List.sublist_cons_self _ _).trans (List.sublist_cons_self _ _)).cons_cons _) dj)).perm (List.Perm.append_left dj hfin)).perm (List.perm_append_comm_assoc dj [_, _] _)) ?_
          refine WL.callD rfl (.none rfl) rfl k_25 rfl (raise0_c hok1) ?_
          refine WL.nil ?_
          refine EQ.sub ((Sub.cons (i := 10) rfl (Sub.cons (i := 11) rfl (Sub.nil _)))) ?_
          refine EQ.code ?_
          refine WC.seq ?_
          refine WC.region ?_
          refine WL.p (.none rfl) rfl (OpP.move rfl) ?_
          refine WL.p (.none rfl) rfl (OpP.move rfl) ?_
          refine WL.p (.none rfl) rfl (OpP.eqlI rfl rfl) ?_
          refine WL.p (.none rfl) rfl (OpP.move rfl) ?_
          refine WL.p (.none rfl) rfl (OpP.assign rfl) ?_
          refine WL.p (.none rfl) rfl (OpP.assign rfl) ?_
          refine WL.p (.none rfl) rfl (OpP.assign rfl) ?_
          refine WL.nil ?_
          refine EQ.sub ((Sub.cons (i := 4) rfl (Sub.cons (i := 5) rfl (Sub.cons (i := 6) rfl (Sub.nil _))))) ?_
          refine EQ.code ?_
          refine WC.ret ?_
          refine EQ.finD (H' := dj ++ ((g, tabO (id + 1) mb1) :: (mb1, mobj .u64 (es1.filter fun e => decide (id + 1 ≤ e.key)) cc1) :: (d5 ++ R))) (res3 rfl (.tmp rfl) (.tmp rfl) (.tmp rfl)) (by intro _ h; first | exact h.drop | exact (h.perm (List.perm_append_comm_assoc (_ :: _ :: d21) [_] R)).drop | exact (h.perm (foc_perm _ _ _ _ _ _ _ _).symm).drop | exact (h.sublist (((List.sublist_cons_self _ _).trans (List.sublist_cons_self _ _)).cons_cons _)).perm hfin | exact (h.perm (List.perm_append_comm_assoc [_, _] dj _)).sublist (List.Sublist.append_left (((List.Sublist.append_right hsub5 R).cons_cons _).cons_cons _) dj)) ?_
          refine ⟨(F.set i d).cat, oa, oc, true, 0, (T1.upd (F.set i d)).raise (id + 1), dj, (g, tabO (id + 1) mb1) :: (mb1, mobj .u64 (es1.filter fun e => decide (id + 1 ≤ e.key)) cc1) :: d5, ?_, rfl, ⟨mb1, _, cc1, d5, rfl, hok1.sub List.filter_sublist, hp5⟩, .last T1 F hpk (by omega) hbase hgi (by omega), fun W R' => ?_⟩
          · rw [hcat]; rfl
          · rw [hcat]; exact hownj.read W R'

end Go.Proofs.Ytjdkohfgbekheaa
