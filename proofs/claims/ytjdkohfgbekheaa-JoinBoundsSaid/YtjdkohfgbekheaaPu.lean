/- Pu: walks of functions of the program, each over the rules of Sx. No conditions but those in the theorems' heads. -/
import Derived.Test.YtjdkohfgbekheaaJn
import Derived.Test.YtjdkohfgbekheaaProg
set_option linter.unusedVariables false
set_option linter.unusedSimpArgs false
namespace Go.Proofs.Ytjdkohfgbekheaa
open Go.RowKit Go.Sx
namespace Pu
theorem el_38 : elI Try.prog 38 = some (none, 22, false, 1) := by kernel_rfl
theorem k_11 : Cal Try.prog 11 := ⟨_, _, Try.func11, by kernel_rfl, rfl⟩
theorem k_25 : Cal Try.prog 25 := ⟨_, _, Try.func25, by kernel_rfl, rfl⟩
theorem ty_22 : tyI Try.prog 22 = some (false, 1) := by kernel_rfl
end Pu
open Pu

def Tab.find (T : Tab) (id : Int) : Option Opn := pFind Opn.id T.fs id
def Tab.raise (T : Tab) (fl : Int) : Tab := ⟨fl, T.fs.filter fun F => decide (fl ≤ F.id)⟩
def Tab.upd (T : Tab) (F : Opn) : Tab := { T with fs := pSet Opn.id T.fs F }
def Opn.new (id n : Int) : Opn := ⟨id, n, List.replicate 64 none⟩
/-- The least number of a frame that waits. -/
def Least (T : Tab) (m : Int) : Prop := m ∈ T.fs.map Opn.id ∧ ∀ i ∈ T.fs.map Opn.id, m ≤ i
/-- Room for one more. -/
inductive RoomR (T : Tab) (id : Int) : Int → Tab → Prop
  | ok : T.fs.length < 4 → RoomR T id 0 T
  | full (m : Int) : 4 ≤ T.fs.length → Least T m → id < m → RoomR T id 5 T
  | up (m : Int) : 4 ≤ T.fs.length → Least T m → m ≤ id → RoomR T id 0 (T.raise (m + 1))
theorem wrap64 {x : Int} (h0 : 0 ≤ x) (h : x < 18446744073709551616) : IntKind.wrap .u64 x = x := by
  unfold IntKind.wrap
  simp [IntKind.bits, IntKind.signed]
  omega
theorem sorted_least {l ids : List Int} (hp : l.Perm ids) (hs : Sorted l l.length) (h0 : 0 < l.length) : l.getD 0 0 ∈ ids ∧ ∀ i ∈ ids, l.getD 0 0 ≤ i := by
  refine ⟨hp.mem_iff.1 (by rw [List.getD_eq_getElem?_getD, List.getElem?_eq_getElem h0]; exact List.getElem_mem _), fun i hi => ?_⟩
  obtain ⟨q, hq, rfl⟩ := List.mem_iff_getElem.1 (hp.mem_iff.2 hi)
  have e : l[q] = l.getD q 0 := by rw [List.getD_eq_getElem?_getD, List.getElem?_eq_getElem hq]; rfl
  rw [e]
  by_cases h : q = 0
  · rw [h]; exact Int.le_refl _
  · exact hs 0 q (by omega) hq

set_option maxRecDepth 100000 in
theorem room_c {W0 : World} {R : Hp} {T : Tab} {g : Nat} {ds : Hp} (h : TR T g ds) {id : Int} (hlen : T.fs.length ≤ 12) (hid : ∀ F ∈ T.fs, 0 ≤ F.id ∧ F.id ≤ 4611686018427387903) :
    CxX Try.prog W0 23 #[.pointer (some ⟨g, 0, none⟩), .int .u64 id] (ds ++ R) (fun v H' => ∃ e T' ds', v = .int .i64 e ∧ H' = ds' ++ R ∧ TR T' g ds' ∧ RoomR T id e T') := by
  obtain ⟨mb, es, c, d2, rfl, hok, hps⟩ := h
  have hkeys := hps.keys
  have hel := hps.len
  refine enter Try.func23 rfl Try.ntmps23 rfl ?_
  refine WC.seq ?_
  refine WC.region ?_
  refine WL.p (.none rfl) rfl (OpP.assign rfl) ?_
  refine WL.nil ?_
  refine EQ.sub ((Sub.cons (i := 0) rfl (Sub.cons (i := 1) rfl (Sub.cons (i := 4) rfl (Sub.nil _))))) ?_
  refine EQ.code ?_
  refine WC.seq ?_
  refine WC.region ?_
  refine WL.p (.none rfl) rfl (OpP.move rfl) ?_
  refine WL.call rfl (.none rfl) rfl k_11 rfl (Waits0_c (fl := T.floor) (mb := mb) (by simp) (by simp) hok (by omega)) ?_
  rintro _ _ ⟨l, wa, wk, dw, rfl, rfl, hp, hso, hown⟩
  have hlp := hp.length_eq
  simp only [List.length_map] at hlp
  rw [hkeys] at hp
  refine WL.p (.none rfl) rfl (OpP.assign rfl) ?_
  refine WL.nil ?_
  refine EQ.sub ((Sub.cons (i := 0) rfl (Sub.cons (i := 1) rfl (Sub.cons (i := 4) rfl (Sub.cons (i := 5) rfl (Sub.nil _)))))) ?_
  refine EQ.code ?_
  refine WC.seq ?_
  refine WC.seq ?_
  refine WC.region ?_
  refine WL.p (.none rfl) rfl (OpP.move rfl) ?_
  refine WL.p (.none rfl) rfl (OpP.lenSl rfl Try.underlying38) ?_
  refine WL.p (.none rfl) rfl (OpP.lss rfl rfl) ?_
  refine WL.nil ?_
  refine EQ.sub ((Sub.cons (i := 0) rfl (Sub.cons (i := 1) rfl (Sub.cons (i := 4) rfl (Sub.cons (i := 5) rfl (Sub.cons (i := 10) rfl (Sub.nil _))))))) ?_
  refine EQ.code ?_
  refine WC.cond rfl (fun hc0 => ?_) (fun hc0 => ?_)
  · -- cond 0 t
    (try simp only [decide_eq_true_eq, decide_eq_false_iff_not, Bool.not_eq_true', Bool.not_eq_false', Bool.or_eq_true, Bool.and_eq_true, Bool.or_eq_false_iff, Bool.and_eq_false_imp, Option.isNone_some, Bool.false_eq_true, false_or, true_and] at hc0)
    refine WC.seq ?_
    refine WC.region ?_
    refine WL.p (.none rfl) rfl (OpP.assign rfl) ?_
    refine WL.nil ?_
    refine EQ.sub ((Sub.cons (i := 0) rfl (Sub.cons (i := 1) rfl (Sub.cons (i := 4) rfl (Sub.cons (i := 5) rfl (Sub.nil _)))))) ?_
    refine EQ.code ?_
    refine WC.ret ?_
    refine EQ.thenR ?_
    refine EQ.finD (H' := (g, tabO T.floor mb) :: (mb, mobj .u64 es c) :: (d2 ++ R)) (res1 rfl (.tmp rfl)) (by intro _ h; first | exact h | exact h.sublist (List.sublist_append_right _ _) | exact h.sublist (((List.Sublist.append_right hsub3 R).cons_cons _).cons_cons _)) ?_
    exact ⟨_, T, _, rfl, rfl, ⟨mb, es, c, d2, rfl, hok, hps⟩, .ok (by omega)⟩
  · -- cond 0 f
    (try simp only [decide_eq_true_eq, decide_eq_false_iff_not, Bool.not_eq_true', Bool.not_eq_false', Bool.or_eq_true, Bool.and_eq_true, Bool.or_eq_false_iff, Bool.and_eq_false_imp, Option.isNone_some, Bool.false_eq_true, false_or, true_and] at hc0)
    obtain ⟨hm1, hm2⟩ := sorted_least hp hso (by omega)
    have hmb2 : 0 ≤ l.getD 0 0 ∧ l.getD 0 0 ≤ 4611686018427387903 := by
      obtain ⟨F, hF, hFe⟩ := List.mem_map.1 hm1
      have := hid F hF
      omega
    have hwa : wa ≠ none := by intro hz; have := (hown.read W0 []).1 hz; have h9 := congrArg List.length this; simp only [iv, List.length_map, List.length_nil] at h9; omega
    refine WC.skip ?_
    refine EQ.code ?_
    refine WC.seq ?_
    refine WC.seq ?_
    refine WC.region ?_
    refine WL.p (.none rfl) rfl (OpP.move rfl) ?_
    refine WL.p (.none rfl) rfl (OpP.move rfl) ?_
    refine WL.p (.none rfl) rfl (OpP.indexSl rfl rfl el_38 (by omega) (by omega) hwa) ?_
    refine WL.p (.none rfl) rfl (OpP.load rfl ty_22 ((hown.read W0 _).get 0 (by omega))) ?_
    refine WL.p (.none rfl) rfl (OpP.lss rfl rfl) ?_
    refine WL.nil ?_
    refine EQ.sub ((Sub.cons (i := 0) rfl (Sub.cons (i := 4) rfl (Sub.cons (i := 5) rfl (Sub.cons (i := 15) rfl (Sub.nil _)))))) ?_
    refine EQ.code ?_
    refine WC.cond rfl (fun hc1 => ?_) (fun hc1 => ?_)
    · -- cond 1 t
      (try simp only [decide_eq_true_eq, decide_eq_false_iff_not, Bool.not_eq_true', Bool.not_eq_false', Bool.or_eq_true, Bool.and_eq_true, Bool.or_eq_false_iff, Bool.and_eq_false_imp, Option.isNone_some, Bool.false_eq_true, false_or, true_and] at hc1)
      refine WC.seq ?_
      refine WC.region ?_
      refine WL.p (.none rfl) rfl (OpP.assign rfl) ?_
      refine WL.nil ?_
      refine EQ.sub ((Sub.cons (i := 0) rfl (Sub.cons (i := 4) rfl (Sub.cons (i := 5) rfl (Sub.nil _))))) ?_
      refine EQ.code ?_
      refine WC.ret ?_
      refine EQ.thenR ?_
      refine EQ.finD (H' := (g, tabO T.floor mb) :: (mb, mobj .u64 es c) :: (d2 ++ R)) (res1 rfl (.tmp rfl)) (by intro _ h; first | exact h | exact h.sublist (List.sublist_append_right _ _) | exact h.sublist (((List.Sublist.append_right hsub3 R).cons_cons _).cons_cons _)) ?_
      exact ⟨_, T, _, rfl, rfl, ⟨mb, es, c, d2, rfl, hok, hps⟩, .full _ (by omega) ⟨hm1, hm2⟩ (by omega)⟩
    · -- cond 1 f
      (try simp only [decide_eq_true_eq, decide_eq_false_iff_not, Bool.not_eq_true', Bool.not_eq_false', Bool.or_eq_true, Bool.and_eq_true, Bool.or_eq_false_iff, Bool.and_eq_false_imp, Option.isNone_some, Bool.false_eq_true, false_or, true_and] at hc1)
      refine WC.skip ?_
      refine EQ.code ?_
      refine WC.seq ?_
      refine WC.region ?_
      refine WL.p (.none rfl) rfl (OpP.move rfl) ?_
      refine WL.p (.none rfl) rfl (OpP.move rfl) ?_
      refine WL.p (.none rfl) rfl (OpP.indexSl rfl rfl el_38 (by omega) (by omega) hwa) ?_
      refine WL.p (.none rfl) rfl (OpP.load rfl ty_22 ((hown.read W0 _).get 0 (by omega))) ?_
      refine WL.p (.none rfl) rfl (OpP.add rfl rfl) ?_
      rw [wrap64 (by omega) (by omega)]
      obtain ⟨d3, hp3, hsub3⟩ := hps.filter (fun k => decide (l.getD 0 0 + 1 ≤ k))
      refine WL.hp (H' := (g, tabO T.floor mb) :: (mb, mobj .u64 es c) :: (d2 ++ R)) (fun w h => h.sublist (List.sublist_append_right _ _)) ?_
      refine WL.callD rfl (.none rfl) rfl k_25 rfl (raise0_c hok) ?_
      refine WL.nil ?_
      refine EQ.sub ((Sub.cons (i := 4) rfl (Sub.nil _))) ?_
      refine EQ.code ?_
      refine WC.seq ?_
      refine WC.region ?_
      refine WL.p (.none rfl) rfl (OpP.assign rfl) ?_
      refine WL.nil ?_
      refine EQ.sub ((Sub.cons (i := 4) rfl (Sub.nil _))) ?_
      refine EQ.code ?_
      refine WC.ret ?_
      refine EQ.finD (H' := (g, tabO (l.getD 0 0 + 1) mb) :: (mb, mobj .u64 (es.filter fun e => decide (l.getD 0 0 + 1 ≤ e.key)) c) :: (d3 ++ R)) (res1 rfl (.tmp rfl)) (by intro _ h; first | exact h | exact h.sublist (List.sublist_append_right _ _) | exact h.sublist (((List.Sublist.append_right hsub3 R).cons_cons _).cons_cons _)) ?_
      exact ⟨_, T.raise (l.getD 0 0 + 1), (g, tabO (l.getD 0 0 + 1) mb) :: (mb, mobj .u64 (es.filter fun e => decide (l.getD 0 0 + 1 ≤ e.key)) c) :: d3, rfl, rfl, ⟨mb, _, c, d3, rfl, hok.sub List.filter_sublist, hp3⟩, .up _ (by omega) ⟨hm1, hm2⟩ (by omega)⟩

end Go.Proofs.Ytjdkohfgbekheaa
