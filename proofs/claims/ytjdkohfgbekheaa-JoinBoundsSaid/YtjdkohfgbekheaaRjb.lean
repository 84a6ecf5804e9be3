/- The law JoinBounds holds: whatever the input, it returns true, and the input reads as it did. No conditions. -/
import Derived.Test.YtjdkohfgbekheaaRows
import Derived.Test.YtjdkohfgbekheaaJa
import Derived.Test.YtjdkohfgbekheaaSxArg
set_option linter.unusedVariables false
namespace Go.Proofs.Ytjdkohfgbekheaa
open Go Go.ChangeShapes Go.WideShapes Go.ChangeAt Go.RowKit Go.Sx Go.ChangeMaps
namespace Rjb
theorem own : ownKnob Try.prog.godebug = none := by kernel_rfl
theorem laidOut : laidOutB Try.prog = true := by kernel_rfl

theorem WT_int {P : Program} {W : World} {d : Nat} {t : TypeId} {k : IntKind} {cs : List Value} (ht : P.underlying t = some (.int k)) (h : WT P W (d + 1) t cs) : ∃ x, cs = [.int k x] ∧ (Lit.int k x).wf = true := by
  unfold WT at h
  rw [ht] at h
  exact h
theorem WT_slice {P : Program} {W : World} {d : Nat} {t e : TypeId} {cs : List Value} (ht : P.underlying t = some (.slice e)) (h : WT P W (d + 1) t cs) : ∃ a len cap, cs = [.slice a len cap] := by
  unfold WT at h
  rw [ht] at h
  obtain ⟨a, len, cap, e, _⟩ := h
  exact ⟨a, len, cap, e⟩
theorem c4 : Try.prog.cellsOf 35 = 4 := by kernel_rfl
theorem cu : Try.prog.cellsOf 22 = 1 := by kernel_rfl
theorem ci : Try.prog.cellsOf 3 = 1 := by kernel_rfl
theorem cs1 : Try.prog.cellsOf 23 = 1 := by kernel_rfl
set_option maxRecDepth 100000 in
theorem part_of {W : World} {vs : List Value} (hl : vs.length = 4) (h : WT Try.prog W 8 35 vs) : ∃ p : Pv, vs = p.l ∧ PvOk W p := by
  match vs, hl with
  | [v0, v1, v2, v3], _ =>
    unfold WT at h
    rw [Try.underlying35] at h
    obtain ⟨_, hf⟩ := h
    have h0 : WT Try.prog W 7 22 (List.take (Try.prog.cellsOf 22) [v0, v1, v2, v3]) := hf 0 _ rfl
    have h1 : WT Try.prog W 7 3 (List.take (Try.prog.cellsOf 3) [v1, v2, v3]) := hf 1 _ rfl
    have h2 : WT Try.prog W 7 3 (List.take (Try.prog.cellsOf 3) [v2, v3]) := hf 2 _ rfl
    have h3 : WT Try.prog W 7 23 (List.take (Try.prog.cellsOf 23) [v3]) := hf 3 _ rfl
    rw [cu] at h0
    rw [ci] at h1 h2
    rw [cs1] at h3
    obtain ⟨x0, e0, w0⟩ := WT_int Try.underlying22 h0
    obtain ⟨x1, e1, w1⟩ := WT_int Try.underlying3 h1
    obtain ⟨x2, e2, w2⟩ := WT_int Try.underlying3 h2
    obtain ⟨a, len, cap, e3⟩ := WT_slice Try.underlying23 h3
    rw [e3] at h3
    obtain ⟨_, _, l, hl, _, hs⟩ := h3.ints (d := 5) Try.underlying23 Try.underlying5 (by kernel_rfl)
    subst hl
    simp at e0 e1 e2 e3
    subst e0 e1 e2 e3
    have q0 := wf_u64 w0
    have q2 := wf_i64 w2
    exact ⟨⟨x0, x1, x2, a, cap, l⟩, rfl, ⟨q0.1, by show x0 < 18446744073709551616; omega, q2.1, q2.2, hs⟩⟩
set_option maxRecDepth 100000 in
theorem parts_of {W : World} {a : Option Addr} {len cap : Nat} (h : WT Try.prog W 9 25 [.slice a len cap]) : len ≤ cap ∧ cap ≤ maxLen ∧ ∃ ps : List Pv, ps.length = len ∧ (∀ p ∈ ps, PvOk W p) ∧ ∀ R, Sl W R a (ps.map Pv.l).flatten := by
  obtain ⟨h1, h2, ls, h3, h4, h5⟩ := h.elems Try.underlying25 (by rw [c4]; decide)
  obtain ⟨ps, rfl, hl⟩ := map_list (F := Pv.l) (R := PvOk W) (fun vs hv => by
    obtain ⟨p, e, hp⟩ := part_of (by rw [(h4 vs hv).1, c4]) (h4 vs hv).2
    exact ⟨p, e, hp⟩)
  exact ⟨h1, h2, ps, by simpa using h3, hl, h5⟩

set_option maxHeartbeats 1600000 in
set_option maxRecDepth 100000 in
theorem lifted (os : Os) (started : os.Started) (H : Type) (enc : TypeId × Value → H) :
    ReturnsInHanded {} Try.checked os 4 .any (Rows.joinBoundsSpec.pre6 enc Try.prog Try.f4 Rows.joinBoundsRow.domain false) (Rows.joinBoundsSpec.post enc Try.prog Try.f4 false true false false) := by
  refine returnsInHanded_of_change (C := Try.checked) own started (by kernel_rfl) Try.func4
    (ChangeSpec.witness6 (enc := enc) (C := Try.checked) false ⟨#[], #[.slice none 0 0], []⟩ 9 (by kernel_rfl) (by kernel_rfl) (by kernel_rfl) (by kernel_rfl)) ?_
  intro W base args ds gs before hval0 hW _ _
  have hval : ∀ (j : Nat) t v, Try.f4.params[j]? = some t → args[j]? = some v → Value.okWide Try.prog W .any base t v := hval0
  have hW' := hW
  obtain ⟨p, q, hA0, hV, rfl, _, _⟩ := hW
  have hA : DataW.TrodAll enc Try.prog W 0 (fun _ => true) true Try.f4.params.toList args.toList ds p := hA0
  rw [Try.params4] at hA hval
  obtain ⟨rfl, rfl⟩ := trodVars_none hV
  clear hA0 hval0
  simp only [List.append_nil] at hW'
  have hlt : ∀ x ∈ p, x.block < W.heap.size := fun x hx => hW'.lt x hx
  have hwv := wvs_of hA (fun j t v h1 h2 => hval j t v (by simpa using h1) (by simpa using h2))
  have hdl : ds.length = 1 := (trodAll_length hA).2
  obtain ⟨l⟩ := args
  obtain ⟨v0, l0, rfl, w0, hwv0⟩ := hwv.cons
  obtain rfl := hwv0.nil
  obtain ⟨d0, ds0, rfl, hdl0⟩ := len_cons hdl
  obtain rfl := len_nil hdl0
  obtain ⟨a2, n2, c2, rfl, h2⟩ := w0.slice Try.underlying25
  obtain ⟨hc2, hm2, ps, hl2, hp2, hs2⟩ := parts_of h2
  simp only [maxLen] at hm2
  subst hl2
  refine ((JoinBounds_c (by omega) hs2 hp2 (fun _ => alive10_c) : CxD Try.prog W 4 _ [] (.bool true) []) W (St.start W)).mono fun e W' ⟨v, H', he, ⟨e1, e2⟩, hS⟩ => ?_
  subst e1 he
  have bel : Below W.heap.size W W' := hS.below
  have harg := trodAll_below laidOut bel (by kernel_rfl) hA hlt
  exact ⟨_, rfl, _, _, _, [], _, [], hW', trodAll_mk1 (shut_bool Try.underlying4 _), harg, rfl, bel.frame _, fun h => by cases h⟩
end Rjb
theorem joinBounds_holds : Rows.JoinBoundsSaid :=
  OpenClaim.holds_of_wide 4 Try.f4 rfl rfl rfl rfl rfl rfl rfl ⟨rfl, rfl, rfl, rfl, rfl⟩ rfl rfl rfl rfl rfl (by kernel_rfl) Try.func4 (by kernel_rfl)
    (of_decide_eq_true (by kernel_rfl)) (by unfold Func.isWrapper; first | (rw [if_pos (by decide +kernel)]; kernel_rfl) | (rw [if_neg (by decide +kernel)]; exact ⟨rfl, rfl⟩))
    (fun os started H enc _ => Rjb.lifted os started H enc)

#print axioms joinBounds_holds
end Go.Proofs.Ytjdkohfgbekheaa
