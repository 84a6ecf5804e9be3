/- Jb: walks of functions of the program, each over the rules of Sx. No conditions but those in the theorems' heads. -/
import Derived.Test.YtjdkohfgbekheaaPq
import Derived.Test.YtjdkohfgbekheaaProg
set_option linter.unusedVariables false
set_option linter.unusedSimpArgs false
namespace Go.Proofs.Ytjdkohfgbekheaa
open Go.RowKit Go.Sx
namespace Jb
theorem el_25 : elI Try.prog 25 = some (none, 35, true, 4) := by kernel_rfl
theorem el_38 : elI Try.prog 38 = some (none, 22, false, 1) := by kernel_rfl
theorem fld_35_0 : fldI Try.prog 35 0 = some (0, false, 1) := by kernel_rfl
theorem fld_35_3 : fldI Try.prog 35 3 = some (3, false, 1) := by kernel_rfl
theorem k_10 : Cal Try.prog 10 := ⟨_, _, Try.func10, by kernel_rfl, rfl⟩
theorem k_11 : Cal Try.prog 11 := ⟨_, _, Try.func11, by kernel_rfl, rfl⟩
theorem k_6 : Cal Try.prog 6 := ⟨_, _, Try.func6, by kernel_rfl, rfl⟩
theorem k_8 : Cal Try.prog 8 := ⟨_, _, Try.func8, by kernel_rfl, rfl⟩
theorem k_9 : Cal Try.prog 9 := ⟨_, _, Try.func9, by kernel_rfl, rfl⟩
theorem ty_22 : tyI Try.prog 22 = some (false, 1) := by kernel_rfl
theorem ty_23 : tyI Try.prog 23 = some (false, 1) := by kernel_rfl
theorem ty_35 : tyI Try.prog 35 = some (true, 4) := by kernel_rfl
end Jb
open Jb

section
variable {W0 : World} {R : Hp} {T : Tab} {g : Nat} {ds : Hp}
theorem Waits_c (h : TR T g ds) (h12 : T.fs.length ≤ 12) : CxX Try.prog W0 11 #[.pointer (some ⟨g, 0, none⟩)] (ds ++ R) (fun v H' => ∃ l a k dw, v = .slice a l.length k ∧ H' = dw ++ (ds ++ R) ∧ l.Perm (T.fs.map Opn.id) ∧ Sorted l l.length ∧ OwnS 22 1 (.slice a l.length k) l.length (iv .u64 l) dw) := by
  obtain ⟨mb, es, c, d2, rfl, hok, hps⟩ := h
  have hk := hps.keys
  have hl := hps.len
  have := Waits0_c (W0 := W0) (H := ((g, tabO T.floor mb) :: (mb, mobj .u64 es c) :: d2) ++ R) (fl := T.floor) (mb := mb) (g := g) (by simp) (by simp) hok (by omega)
  rw [hk] at this
  exact this
theorem Floor2_c (h : TR T g ds) : CxD Try.prog W0 10 #[.pointer (some ⟨g, 0, none⟩)] (ds ++ R) (.int .u64 T.floor) (ds ++ R) := by
  obtain ⟨mb, es, c, d2, rfl, hok, hps⟩ := h
  exact Floor_c (mb := mb) (by simp)
end
/-- A part that came in. -/
structure Pv where
  id : Int
  ix : Int
  n : Int
  a : Option Addr
  c : Nat
  d : List Int
def Pv.l (p : Pv) : List Value := ptL p.id p.ix p.n p.a p.d.length p.c
structure PvOk (W0 : World) (p : Pv) : Prop where
  id0 : 0 ≤ p.id
  id1 : p.id < 18446744073709551616
  n0 : -9223372036854775808 ≤ p.n
  n1 : p.n ≤ 9223372036854775807
  dat : ∀ R, Sl W0 R p.a (iv .u8 p.d)
theorem Rd.sla {W0 : World} {H : Hp} {b o o' j : Nat} {xs : List Value} {v : Value} (h : Sl W0 H (some ⟨b, o, none⟩) xs) (hv : xs[j]? = some v) (ho : o' = o + j) : Rd W0 H ⟨b, o', none⟩ v := by
  subst ho
  have := h.2.2 j v hv
  by_cases hj : j = 0
  · subst hj; simpa [slAt, Addr.add] using this
  · simpa [slAt, Addr.add, hj] using this
theorem pv_get {ps : List Pv} {k j : Nat} {p : Pv} {v : Value} (hk : ps[k]? = some p) (hv : p.l[j]? = some v) : (ps.map Pv.l).flatten[k * 4 + j]? = some v :=
  flat_get (sz := 4) (fun vs hvs => by obtain ⟨q, _, rfl⟩ := List.mem_map.1 hvs; rfl) k p.l (by rw [List.getElem?_map, hk]; rfl) j v hv
theorem sl_some {W0 : World} {H : Hp} {a : Option Addr} {xs : List Value} (h : Sl W0 H a xs) (hne : xs ≠ []) : ∃ b o, a = some ⟨b, o, none⟩ := by
  cases a with
  | none => exact absurd (h.1 rfl) hne
  | some p =>
    obtain ⟨b, o, s⟩ := p
    have := h.2.1 hne _ rfl
    simp only at this
    subst this
    exact ⟨b, o, rfl⟩

set_option maxRecDepth 100000 in
set_option maxHeartbeats 1000000 in
theorem JoinBounds_c {W0 : World} {H : Hp} {a0 : Option Addr} {c0 : Nat} {ps : List Pv} (hlen : ps.length ≤ 9223372036854775807) (hsl : ∀ R, Sl W0 R a0 (ps.map Pv.l).flatten) (hps : ∀ p ∈ ps, PvOk W0 p) (halive : ∀ H, CxD Try.prog W0 6 #[] H (.bool true) H) :
    CxD Try.prog W0 4 #[.slice a0 ps.length c0] H (.bool true) H := by
  refine enter Try.func4 rfl Try.ntmps4 rfl ?_
  refine WC.seq ?_
  refine WC.region ?_
  refine WL.p (.none rfl) rfl (OpP.assign rfl) ?_
  refine WL.nil ?_
  refine EQ.sub ((Sub.cons (i := 0) rfl (Sub.cons (i := 2) rfl (Sub.nil _)))) ?_
  refine EQ.code ?_
  refine WC.seq ?_
  refine WC.region ?_
  refine WL.call rfl (.none rfl) rfl k_8 rfl (New_c) ?_
  rintro _ _ ⟨g, ds0, rfl, rfl, hT0⟩
  refine WL.p (.none rfl) rfl (OpP.assign rfl) ?_
  refine WL.nil ?_
  refine EQ.sub ((Sub.cons (i := 0) rfl (Sub.cons (i := 2) rfl (Sub.cons (i := 3) rfl (Sub.nil _))))) ?_
  refine EQ.code ?_
  refine WC.seq ?_
  refine WC.region ?_
  refine WL.p (.none rfl) rfl (OpP.move rfl) ?_
  refine WL.callD rfl (.none rfl) rfl k_10 rfl (Floor2_c hT0) ?_
  refine WL.p (.none rfl) rfl (OpP.assign rfl) ?_
  refine WL.p (.none rfl) rfl (OpP.assign rfl) ?_
  refine WL.nil ?_
  refine EQ.sub ((Sub.cons (i := 0) rfl (Sub.cons (i := 2) rfl (Sub.cons (i := 3) rfl (Sub.cons (i := 4) rfl (Sub.cons (i := 5) rfl (Sub.nil _))))))) ?_
  refine EQ.code ?_
  refine WC.seq ?_
  refine WC.seq ?_
  refine WC.region ?_
  refine WL.p (.none rfl) rfl (OpP.assign rfl) ?_
  refine WL.nil ?_
  refine EQ.sub ((Sub.cons (i := 0) rfl (Sub.cons (i := 2) rfl (Sub.cons (i := 3) rfl (Sub.cons (i := 4) rfl (Sub.cons (i := 5) rfl (Sub.cons (i := 6) rfl (Sub.nil _)))))))) ?_
  refine EQ.code ?_
  refine WC.block ?_
  refine WC.loop (σ := Nat × Tab × Hp × Int) (fun s => [(0, .slice a0 ps.length c0), (3, .pointer (some ⟨g, 0, none⟩)), (4, .int .u64 s.2.2.2), (5, .int .u64 s.2.1.floor), (6, .int .i64 (s.1 : Int))]) (fun s => s.2.2.1 ++ H) (fun s => s.1 ≤ ps.length ∧ s.1 ≤ 200 ∧ TR s.2.1 g s.2.2.1 ∧ Wf s.2.1 ∧ s.2.2.2 < s.2.1.floor) (fun s => 200 - s.1) (0, ⟨1, []⟩, ds0, 0) ⟨Nat.zero_le _, Nat.zero_le _, hT0, wf_new, by show (0 : Int) < 1; decide⟩ ((Sub.cons rfl (Sub.cons rfl (Sub.cons rfl (Sub.cons rfl (Sub.cons rfl (Sub.nil _))))))) (fun _ h => h) (fun ⟨k, T, ds, last⟩ hinv => ?_)
  (try simp only at hinv ⊢)
  obtain ⟨hk, hk2, hT, hwf, hlast⟩ := hinv
  refine WC.seq ?_
  refine WC.seq ?_
  refine WC.region ?_
  refine WL.p (.none rfl) rfl (OpP.move rfl) ?_
  refine WL.p (.none rfl) rfl (OpP.move rfl) ?_
  refine WL.p (.none rfl) rfl (OpP.lenSl rfl Try.underlying25) ?_
  refine WL.p (.none rfl) rfl (OpP.lss rfl rfl) ?_
  refine WL.p (.none rfl) rfl (OpP.move rfl) ?_
  refine WL.g (.bool rfl rfl rfl) rfl (fun hg => OpP.move rfl) ?_
  refine WL.g (.bool rfl rfl rfl) rfl (fun hg => OpP.lss (gk hg rfl) rfl) ?_
  refine WL.p (.none rfl) rfl (OpP.pand rfl rfl rfl) ?_
  refine WL.nil ?_
  refine EQ.sub ((Sub.cons (i := 0) rfl (Sub.cons (i := 3) rfl (Sub.cons (i := 4) rfl (Sub.cons (i := 5) rfl (Sub.cons (i := 6) rfl (Sub.cons (i := 21) rfl (Sub.nil _)))))))) ?_
  refine EQ.code ?_
  refine WC.cond rfl (fun hc0 => ?_) (fun hc0 => ?_)
  · -- cond 0 t
    (try simp only [decide_eq_true_eq, decide_eq_false_iff_not, Bool.not_eq_true', Bool.not_eq_false', Bool.or_eq_true, Bool.and_eq_true, Bool.or_eq_false_iff, Bool.and_eq_false_imp, Option.isNone_some, Bool.false_eq_true, false_or, true_and] at hc0)
    obtain ⟨p, hkp⟩ : ∃ p, ps[k]? = some p := ⟨ps[k]'(by omega), List.getElem?_eq_getElem (by omega)⟩
    have hpv := hps p (List.mem_of_getElem? hkp)
    obtain ⟨b0, o0, rfl⟩ := sl_some (hsl []) (fun h => by have := pv_get (j := 0) hkp (v := .int .u64 p.id) rfl; rw [h] at this; simp at this)
    refine WC.skip ?_
    refine EQ.code ?_
    refine WC.seq ?_
    refine WC.block ?_
    refine WC.seq ?_
    refine WC.seq ?_
    refine WC.region ?_
    refine WL.p (.none rfl) rfl (OpP.move rfl) ?_
    refine WL.p (.none rfl) rfl (OpP.move rfl) ?_
    refine WL.p (.none rfl) rfl (OpP.indexS rfl rfl el_25 (by omega) (by omega)) ?_
    refine WL.p (.none rfl) rfl (OpP.fieldAddr rfl fld_35_3) ?_
    refine WL.p (.none rfl) rfl (OpP.load rfl ty_23 (Rd.sla (hsl _) (pv_get (j := 3) hkp rfl) (by omega))) ?_
    refine WL.p (.none rfl) rfl (OpP.lenSl rfl Try.underlying23) ?_
    refine WL.p (.none rfl) rfl (OpP.gtr rfl rfl) ?_
    refine WL.nil ?_
    refine EQ.sub ((Sub.cons (i := 0) rfl (Sub.cons (i := 3) rfl (Sub.cons (i := 4) rfl (Sub.cons (i := 5) rfl (Sub.cons (i := 6) rfl (Sub.cons (i := 30) rfl (Sub.nil _)))))))) ?_
    refine EQ.code ?_
    refine WC.cond rfl (fun hc1 => ?_) (fun hc1 => ?_)
    · -- cond 1 t
      (try simp only [decide_eq_true_eq, decide_eq_false_iff_not, Bool.not_eq_true', Bool.not_eq_false', Bool.or_eq_true, Bool.and_eq_true, Bool.or_eq_false_iff, Bool.and_eq_false_imp, Option.isNone_some, Bool.false_eq_true, false_or, true_and] at hc1)
      refine WC.seq ?_
      refine WC.region ?_
      refine WL.callD rfl (.none rfl) rfl k_6 rfl (halive _) ?_
      refine WL.p (.none rfl) rfl (OpP.assign rfl) ?_
      refine WL.nil ?_
      refine EQ.sub ((Sub.cons (i := 0) rfl (Sub.cons (i := 2) rfl (Sub.cons (i := 3) rfl (Sub.cons (i := 4) rfl (Sub.cons (i := 5) rfl (Sub.cons (i := 6) rfl (Sub.nil _)))))))) ?_
      refine EQ.code ?_
      refine WC.ret ?_
      refine EQ.thenR ?_
      refine EQ.blockR ?_
      refine EQ.thenR ?_
      refine EQ.thenR ?_
      refine EQ.blockR ?_
      refine EQ.thenR ?_
      refine EQ.finD (H' := H) (res1 rfl (.tmp rfl)) (by intro _ h; exact h.sublist (List.sublist_append_right _ _)) ?_
      exact ⟨rfl, rfl⟩
    · -- cond 1 f
      (try simp only [decide_eq_true_eq, decide_eq_false_iff_not, Bool.not_eq_true', Bool.not_eq_false', Bool.or_eq_true, Bool.and_eq_true, Bool.or_eq_false_iff, Bool.and_eq_false_imp, Option.isNone_some, Bool.false_eq_true, false_or, true_and] at hc1)
      refine WC.skip ?_
      refine EQ.code ?_
      refine WC.seq ?_
      refine WC.region ?_
      refine WL.p (.none rfl) rfl (OpP.move rfl) ?_
      refine WL.p (.none rfl) rfl (OpP.move rfl) ?_
      refine WL.p (.none rfl) rfl (OpP.move rfl) ?_
      refine WL.p (.none rfl) rfl (OpP.indexSl rfl rfl el_25 (by omega) (by omega) (by simp)) ?_
      refine WL.p (.none rfl) rfl (OpP.loadSl (a := some ⟨b0, o0, none⟩) (o := k * 4) (xs := (ps.map Pv.l).flatten) (vs := p.l) rfl ty_35 (hsl _) (fun i v hv => pv_get hkp hv) rfl (by simp [Pv.l])) ?_
      refine WL.call rfl (.none rfl) rfl k_9 rfl (Put_c (R := H) hT hwf hpv.id0 hpv.n0 hpv.n1 (hpv.dat _)) ?_
      rintro _ _ ⟨out, oa, oc, is, e, T2, dd, ds2, rfl, rfl, hT2, hput, hout⟩
      refine WL.hp (H' := ds2 ++ H) (fun w h => h.sublist (List.sublist_append_right _ _)) ?_
      obtain ⟨hwf2, hfl, his⟩ := hput.wf hwf
      refine WL.p (.none rfl) rfl (OpP.move rfl) ?_
      refine WL.p (.none rfl) rfl (OpP.extract rfl rfl) ?_
      refine WL.p (.none rfl) rfl (OpP.extract rfl rfl) ?_
      refine WL.p (.none rfl) rfl (OpP.extract rfl rfl) ?_
      refine WL.p (.none rfl) rfl (OpP.assign rfl) ?_
      refine WL.p (.none rfl) rfl (OpP.assign rfl) ?_
      refine WL.p (.none rfl) rfl (OpP.assign rfl) ?_
      refine WL.nil ?_
      refine EQ.sub ((Sub.cons (i := 0) rfl (Sub.cons (i := 3) rfl (Sub.cons (i := 4) rfl (Sub.cons (i := 5) rfl (Sub.cons (i := 6) rfl (Sub.cons (i := 8) rfl (Sub.cons (i := 9) rfl (Sub.nil _))))))))) ?_
      refine EQ.code ?_
      refine WC.seq ?_
      refine WC.region ?_
      refine WL.p (.none rfl) rfl (OpP.move rfl) ?_
      refine WL.call rfl (.none rfl) rfl k_11 rfl (Waits_c hT2 (Nat.le_trans hwf2.len (by decide))) ?_
      rintro _ _ ⟨l, wa, wk, dw, rfl, rfl, hlp, hso, hown⟩
      have hl4 : l.length ≤ 4 := by have := hlp.length_eq; simp only [List.length_map] at this; have := hwf2.len; omega
      obtain ⟨m0, hm0⟩ : ∃ m0, m0 = l.getD 0 0 := ⟨_, rfl⟩
      have hl0 : 0 < l.length → T2.floor ≤ m0 := fun h => by
        obtain ⟨F, hF, hFe⟩ := List.mem_map.1 (sorted_least hlp hso h).1
        have := (hwf2.num F hF).2.2
        omega
      have hwa : 0 < l.length → wa ≠ none := fun h hz => by
        have h9 := congrArg List.length ((hown.read W0 []).1 hz)
        simp only [iv, List.length_map, List.length_nil] at h9
        omega
      refine WL.p (.none rfl) rfl (OpP.assign rfl) ?_
      refine WL.nil ?_
      refine EQ.sub ((Sub.cons (i := 0) rfl (Sub.cons (i := 3) rfl (Sub.cons (i := 4) rfl (Sub.cons (i := 5) rfl (Sub.cons (i := 6) rfl (Sub.cons (i := 8) rfl (Sub.cons (i := 9) rfl (Sub.cons (i := 10) rfl (Sub.nil _)))))))))) ?_
      refine EQ.code ?_
      refine WC.seq ?_
      refine WC.seq ?_
      refine WC.draw (by kernel_rfl) (by kernel_rfl) ?_
      refine WQ.p (.none rfl) rfl (OpP.move rfl) ?_
      refine WQ.p (.none rfl) rfl (OpP.lenSl rfl Try.underlying38) ?_
      refine WQ.p (.none rfl) rfl (OpP.gtr rfl rfl) ?_
      refine WQ.p (.none rfl) rfl (OpP.move rfl) ?_
      refine WQ.g (.bool rfl rfl rfl) rfl (fun hg => OpP.move rfl) ?_
      refine WQ.gcall rfl (.bool rfl rfl rfl) rfl k_10 (fun hg => kops1 (gk hg rfl)) (fun hg => CxD.perm (List.perm_append_comm_assoc dw ds2 H) (Floor2_c hT2)) ?_
      refine WQ.g (.bool rfl rfl rfl) rfl (fun hg => OpP.move rfl) ?_
      refine WQ.g (.bool rfl rfl rfl) rfl (fun hg => OpP.lss (gk hg rfl) (gk hg rfl)) ?_
      refine WQ.p (.none rfl) rfl (OpP.por rfl rfl rfl) ?_
      refine WQ.p (.none rfl) rfl (OpP.move rfl) ?_
      refine WQ.g (.bool rfl rfl rfl) rfl (fun hg => OpP.move rfl) ?_
      refine WQ.g (.bool rfl rfl rfl) rfl (fun hg => OpP.lenSl (gk hg rfl) Try.underlying38) ?_
      refine WQ.g (.bool rfl rfl rfl) rfl (fun hg => OpP.gtr (gk hg rfl) rfl) ?_
      refine WQ.g (.bool rfl rfl rfl) rfl (fun hg => OpP.move (gk hg rfl)) ?_
      refine WQ.g (.gv rfl rfl rfl) rfl (fun hg => OpP.move rfl) ?_
      refine WQ.g (.gv rfl rfl rfl) rfl (fun hg => OpP.indexSl (gk hg rfl) rfl el_38 (by omega) (by (try simp at hg); omega) (hwa (by (try simp at hg); omega))) ?_
      refine WQ.g (.gv rfl rfl rfl) rfl (fun hg => OpP.load (gk hg rfl) ty_22 ((hown.read W0 _).get 0 (by (try simp at hg); omega))) ?_
      rw [← hm0]
      refine WQ.g (.gv rfl rfl rfl) rfl (fun hg => OpP.move rfl) ?_
      refine WQ.gcall rfl (.gv rfl rfl rfl) rfl k_10 (fun hg => kops1 (gk hg rfl)) (fun hg => CxD.perm (List.perm_append_comm_assoc dw ds2 H) (Floor2_c hT2)) ?_
      refine WQ.g (.gv rfl rfl rfl) rfl (fun hg => OpP.lss (gk hg rfl) (gk hg rfl)) ?_
      refine WQ.g (.bool rfl rfl rfl) rfl (fun hg => OpP.pand (gk hg rfl) (gk2 hg rfl) rfl) ?_
      refine WQ.p (.none rfl) rfl (OpP.por rfl rfl rfl) ?_
      refine WQ.p (.none rfl) rfl (OpP.move rfl) ?_
      refine WQ.g (.bool rfl rfl rfl) rfl (fun hg => OpP.move rfl) ?_
      refine WQ.g (.bool rfl rfl rfl) rfl (fun hg => OpP.move (gk hg rfl)) ?_
      refine WQ.g (.gv rfl rfl rfl) rfl (fun hg => OpP.move rfl) ?_
      refine WQ.g (.gv rfl rfl rfl) rfl (fun hg => OpP.neqI (gk hg rfl) rfl) ?_
      refine WQ.g (.gv rfl rfl rfl) rfl (fun hg => OpP.move (gk hg rfl)) ?_
      refine WQ.g (.gv rfl rfl rfl) rfl (fun hg => OpP.move rfl) ?_
      refine WQ.g (.gv rfl rfl rfl) rfl (fun hg => OpP.move rfl) ?_
      refine WQ.g (.gv rfl rfl rfl) rfl (fun hg => OpP.indexS (gk hg rfl) (gk hg rfl) el_25 (by (try simp at hg); omega) (by (try simp at hg); omega)) ?_
      refine WQ.g (.gv rfl rfl rfl) rfl (fun hg => OpP.fieldAddr (gk hg rfl) fld_35_0) ?_
      refine WQ.g (.gv rfl rfl rfl) rfl (fun hg => OpP.load (gk hg rfl) ty_22 (Rd.sla (hsl _) (pv_get (j := 0) hkp rfl) (by omega))) ?_
      refine WQ.g (.gv rfl rfl rfl) rfl (fun hg => OpP.move rfl) ?_
      refine WQ.g (.gv rfl rfl rfl) rfl (fun hg => OpP.leq (gk hg rfl) (gk hg rfl)) ?_
      refine WQ.g (.gv rfl rfl rfl) rfl (fun hg => OpP.por (gk hg rfl) rfl (gk2 hg rfl)) ?_
      refine WQ.g (.bool rfl rfl rfl) rfl (fun hg => OpP.pand (gk hg rfl) (gk2 hg rfl) rfl) ?_
      refine WQ.p (.none rfl) rfl (OpP.por rfl rfl rfl) ?_
      refine WQ.done ?_
      refine EQ.sub ((Sub.cons (i := 0) rfl (Sub.cons (i := 3) rfl (Sub.cons (i := 4) rfl (Sub.cons (i := 5) rfl (Sub.cons (i := 6) rfl (Sub.cons (i := 8) rfl (Sub.cons (i := 81) rfl (Sub.nil _))))))))) ?_
      refine EQ.code ?_
      refine WC.cond rfl (fun hc2 => ?_) (fun hc2 => ?_)
      · -- cond 2 t
        (try simp only [decide_eq_true_eq, decide_eq_false_iff_not, Bool.not_eq_true', Bool.not_eq_false', Bool.or_eq_true, Bool.and_eq_true, Bool.or_eq_false_iff, Bool.and_eq_false_imp, Option.isNone_some, Bool.false_eq_true, false_or, true_and] at hc2)
        exfalso
        rcases is with _ | _
        · simp at hc2
          omega
        · have h8 := his rfl
          simp [h8.1] at hc2
          omega
      · -- cond 2 f
        (try simp only [decide_eq_true_eq, decide_eq_false_iff_not, Bool.not_eq_true', Bool.not_eq_false', Bool.or_eq_true, Bool.and_eq_true, Bool.or_eq_false_iff, Bool.and_eq_false_imp, Option.isNone_some, Bool.false_eq_true, false_or, true_and] at hc2)
        refine WC.skip ?_
        refine EQ.code ?_
        refine WC.seq ?_
        refine WC.seq ?_
        refine WC.region ?_
        refine WL.p (.none rfl) rfl (OpP.move rfl) ?_
        refine WL.nil ?_
        refine EQ.sub ((Sub.cons (i := 0) rfl (Sub.cons (i := 3) rfl (Sub.cons (i := 4) rfl (Sub.cons (i := 5) rfl (Sub.cons (i := 6) rfl (Sub.cons (i := 82) rfl (Sub.nil _)))))))) ?_
        refine EQ.code ?_
        refine WC.cond rfl (fun hc3 => ?_) (fun hc3 => ?_)
        · -- cond 3 t
          (try simp only [decide_eq_true_eq, decide_eq_false_iff_not, Bool.not_eq_true', Bool.not_eq_false', Bool.or_eq_true, Bool.and_eq_true, Bool.or_eq_false_iff, Bool.and_eq_false_imp, Option.isNone_some, Bool.false_eq_true, false_or, true_and] at hc3)
          refine WC.region ?_
          refine WL.p (.none rfl) rfl (OpP.move rfl) ?_
          refine WL.p (.none rfl) rfl (OpP.move rfl) ?_
          refine WL.p (.none rfl) rfl (OpP.indexS rfl rfl el_25 (by omega) (by omega)) ?_
          refine WL.p (.none rfl) rfl (OpP.fieldAddr rfl fld_35_0) ?_
          refine WL.p (.none rfl) rfl (OpP.load rfl ty_22 (Rd.sla (hsl _) (pv_get (j := 0) hkp rfl) (by omega))) ?_
          refine WL.p (.none rfl) rfl (OpP.assign rfl) ?_
          refine WL.nil ?_
          refine EQ.sub ((Sub.cons (i := 0) rfl (Sub.cons (i := 3) rfl (Sub.cons (i := 4) rfl (Sub.cons (i := 5) rfl (Sub.cons (i := 6) rfl (Sub.nil _))))))) ?_
          refine EQ.code ?_
          refine WC.region ?_
          refine WL.p (.none rfl) rfl (OpP.move rfl) ?_
          refine WL.callD rfl (.none rfl) rfl k_10 rfl (CxD.perm (List.perm_append_comm_assoc dw ds2 H) (Floor2_c hT2)) ?_
          refine WL.p (.none rfl) rfl (OpP.assign rfl) ?_
          refine WL.nil ?_
          refine EQ.sub ((Sub.cons (i := 0) rfl (Sub.cons (i := 3) rfl (Sub.cons (i := 4) rfl (Sub.cons (i := 5) rfl (Sub.cons (i := 6) rfl (Sub.nil _))))))) ?_
          refine EQ.blockN ?_
          refine EQ.code ?_
          refine WC.region ?_
          refine WL.p (.none rfl) rfl (OpP.move rfl) ?_
          first | (refine WL.p (.none rfl) rfl (OpP.add64 rfl rfl (by omega)) ?_) | (refine WL.p (.none rfl) rfl (OpP.add rfl rfl) ?_)
          refine WL.p (.none rfl) rfl (OpP.assign rfl) ?_
          refine WL.nil ?_
          refine EQ.sub ((Sub.cons (i := 0) rfl (Sub.cons (i := 3) rfl (Sub.cons (i := 4) rfl (Sub.cons (i := 5) rfl (Sub.cons (i := 6) rfl (Sub.nil _))))))) ?_
          refine EQ.again (k + 1, T2, ds2, p.id) ?_ ?_ ?_ ?_
          · refine ⟨by (try simp only); omega, by (try simp only); omega, hT2, hwf2, ?_⟩
            (try simp only)
            have := his hc3
            omega
          · (try simp only); omega
          · exact ((Sub.cons rfl (Sub.cons rfl (Sub.cons rfl (Sub.cons rfl (Sub.cons rfl (Sub.nil _)))))))
          · intro w h; exact h.sublist (List.sublist_append_right _ _)
        · -- cond 3 f
          (try simp only [decide_eq_true_eq, decide_eq_false_iff_not, Bool.not_eq_true', Bool.not_eq_false', Bool.or_eq_true, Bool.and_eq_true, Bool.or_eq_false_iff, Bool.and_eq_false_imp, Option.isNone_some, Bool.false_eq_true, false_or, true_and] at hc3)
          refine WC.skip ?_
          refine EQ.code ?_
          refine WC.region ?_
          refine WL.p (.none rfl) rfl (OpP.move rfl) ?_
          refine WL.callD rfl (.none rfl) rfl k_10 rfl (CxD.perm (List.perm_append_comm_assoc dw ds2 H) (Floor2_c hT2)) ?_
          refine WL.p (.none rfl) rfl (OpP.assign rfl) ?_
          refine WL.nil ?_
          refine EQ.sub ((Sub.cons (i := 0) rfl (Sub.cons (i := 3) rfl (Sub.cons (i := 4) rfl (Sub.cons (i := 5) rfl (Sub.cons (i := 6) rfl (Sub.nil _))))))) ?_
          refine EQ.blockN ?_
          refine EQ.code ?_
          refine WC.region ?_
          refine WL.p (.none rfl) rfl (OpP.move rfl) ?_
          first | (refine WL.p (.none rfl) rfl (OpP.add64 rfl rfl (by omega)) ?_) | (refine WL.p (.none rfl) rfl (OpP.add rfl rfl) ?_)
          refine WL.p (.none rfl) rfl (OpP.assign rfl) ?_
          refine WL.nil ?_
          refine EQ.sub ((Sub.cons (i := 0) rfl (Sub.cons (i := 3) rfl (Sub.cons (i := 4) rfl (Sub.cons (i := 5) rfl (Sub.cons (i := 6) rfl (Sub.nil _))))))) ?_
          refine EQ.again (k + 1, T2, ds2, last) ?_ ?_ ?_ ?_
          · refine ⟨by (try simp only); omega, by (try simp only); omega, hT2, hwf2, ?_⟩
            (try simp only)
            omega
          · (try simp only); omega
          · exact ((Sub.cons rfl (Sub.cons rfl (Sub.cons rfl (Sub.cons rfl (Sub.cons rfl (Sub.nil _)))))))
          · intro w h; exact h.sublist (List.sublist_append_right _ _)
  · -- cond 0 f
    (try simp only [decide_eq_true_eq, decide_eq_false_iff_not, Bool.not_eq_true', Bool.not_eq_false', Bool.or_eq_true, Bool.and_eq_true, Bool.or_eq_false_iff, Bool.and_eq_false_imp, Option.isNone_some, Bool.false_eq_true, false_or, true_and] at hc0)
    refine WC.exit ?_
    refine EQ.thenE ?_
    refine EQ.thenE ?_
    refine EQ.blockHit ?_
    refine EQ.code ?_
    refine WC.seq ?_
    refine WC.region ?_
    refine WL.callD rfl (.none rfl) rfl k_6 rfl (halive _) ?_
    refine WL.p (.none rfl) rfl (OpP.assign rfl) ?_
    refine WL.nil ?_
    refine EQ.sub ((Sub.cons (i := 2) rfl (Sub.nil _))) ?_
    refine EQ.code ?_
    refine WC.ret ?_
    refine EQ.finD (H' := H) (res1 rfl (.tmp rfl)) (by intro _ h; exact h.sublist (List.sublist_append_right _ _)) ?_
    exact ⟨rfl, rfl⟩

end Go.Proofs.Ytjdkohfgbekheaa
