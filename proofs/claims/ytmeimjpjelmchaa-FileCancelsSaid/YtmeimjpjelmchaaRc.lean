/- The law FileCancels holds: whatever the bytes and the map, it returns true, and both read as they did. No conditions. -/
import Derived.Test.YtmeimjpjelmchaaRows
import Derived.Test.YtmeimjpjelmchaaLc
import Derived.ProofKit
import Derived.Lib.SmallJoins
namespace Go.Proofs.Ytmeimjpjelmchaa
open Go Go.ChangeShapes Go.WideShapes Go.ChangeAt Go.RowKit Go.Sx

theorem own : ownKnob Try.prog.godebug = none := by kernel_rfl
theorem laidOut : laidOutB Try.prog = true := by kernel_rfl
theorem cells5 : Try.prog.cellsOf 5 = 1 := by kernel_rfl

/-- Bytes that came in, nil or not. -/
theorem opened23 {H : Type} {enc : TypeId × Value → H} {W : World} {a0 : Option Addr} {len cap : Nat} {d0 : DataW H} {p : List MemPlace}
    (h0 : DataW.Trod enc Try.prog W 0 (fun _ => true) true 23 (.slice a0 len cap) d0 p) :
    ∃ xs : List Int, xs.length = len ∧ len ≤ cap ∧ len ≤ maxLen ∧ Sl W [] a0 (iv .u8 xs) := by
  obtain ⟨fuel, hf⟩ := h0
  rcases open_ints Try.underlying23 Try.underlying5 cells5 hf with ⟨hcs, hx⟩ | ⟨a, len', cap', zs, hcs, _, hl, hm, hz, hx, hcell, hwz⟩
  · simp [Value.cells] at hcs
    obtain ⟨rfl, rfl, rfl⟩ := hcs
    exact ⟨[], rfl, Nat.le_refl _, Nat.zero_le _, Sl.nil _⟩
  · simp [Value.cells] at hcs
    obtain ⟨rfl, rfl, rfl⟩ := hcs
    simp only [if_true] at hz
    refine ⟨zs.take len, by simp; omega, by omega, by omega, (fun h => by cases h), fun hne p hp => ?_, fun j x hj => ?_⟩
    · cases hp
      have h0 : 0 < zs.length := by
        cases zs with
        | nil => simp at hne
        | cons _ _ => simp
      have this : W.cell? a = some (.int .u8 (zs.getD 0 0)) := by simpa [Addr.add] using hcell 0 h0
      unfold World.cell? at this
      split at this
      · by_cases hs : a.spot.isSome = true
        · rw [if_pos hs] at this; cases this
        · simpa using hs
      · cases this
    · simp only [iv, List.getElem?_map, List.getElem?_take] at hj
      split at hj
      · rename_i hlt
        have hj2 : j < zs.length := by omega
        have := hcell j hj2
        rw [List.getElem?_eq_getElem hj2] at hj
        simp only [Option.map_some, Option.some.injEq] at hj
        subst hj
        refine Rd.ro ?_
        show W.cell? (a.add j) = _
        rw [this]
        simp [List.getD_eq_getElem?_getD, hj2]
      · cases hj

set_option maxHeartbeats 800000 in
set_option maxRecDepth 100000 in
theorem fileCancels_lifted (os : Os) (started : os.Started) (H : Type) (enc : TypeId × Value → H) :
    ReturnsInHanded {} Try.checked os 4 .any (Rows.fileCancelsSpec.pre6 enc Try.prog Try.f4 Rows.fileCancelsRow.domain false) (Rows.fileCancelsSpec.post enc Try.prog Try.f4 false true false false) := by
  refine returnsInHanded_of_change (C := Try.checked) own started (by kernel_rfl) Try.func4
    (ChangeSpec.witness6 (enc := enc) (C := Try.checked) false ⟨#[], #[.slice none 0 0, .agg #[.int .i64 0, .int .u64 0]], []⟩ 8 (by kernel_rfl) (by kernel_rfl) (by kernel_rfl) (by kernel_rfl)) ?_
  intro W base args ds gs before hval0 hW _ _
  have hval : ∀ (j : Nat) t v, Try.f4.params[j]? = some t → args[j]? = some v → Value.okWide Try.prog W .any base t v := hval0
  have hW' := hW
  obtain ⟨p, q, hA0, hV, rfl, _, _⟩ := hW
  have hA : DataW.TrodAll enc Try.prog W 0 (fun _ => true) true Try.f4.params.toList args.toList ds p := hA0
  rw [Try.params4] at hA hval
  obtain ⟨v0, v1, d0, d1, p0, p1, rfl, rfl, rfl, h0, h1⟩ := trodAll_two hA
  obtain ⟨rfl, rfl⟩ := trodVars_none hV
  obtain ⟨a0, len0, cap0, rfl⟩ := okWide_slice Try.underlying23 (hval 0 23 v0 rfl rfl)
  obtain ⟨u0, u1, y0, y1, k, rfl, _, _, hy0, hy1⟩ := Joins.open_agg2 Try.underlying38 (by kernel_rfl) (by kernel_rfl) (hval 1 38 v1 rfl rfl) h1
  clear hA0 hval0
  simp only [List.append_nil] at hW'
  have hlt : ∀ x ∈ p0 ++ p1, x.block < W.heap.size := fun x hx => by simpa using hW'.lt x hx
  obtain ⟨xs, hx, hc0, hm0, hB0⟩ := opened23 h0
  obtain ⟨n, hn0, _, hnw⟩ := DataW.trod_int Try.underlying3 hy0
  obtain ⟨b, hb0, _, hbw⟩ := DataW.trod_int Try.underlying22 hy1
  simp only [List.cons.injEq, and_true] at hn0 hb0
  subst hn0 hb0
  have hbb : 0 ≤ b ∧ b < 18446744073709551616 := by
    have := hbw
    simp only [Lit.wf, Bool.and_eq_true, decide_eq_true_eq] at this
    have e1 : IntKind.u64.min = 0 := by decide +kernel
    have e2 : IntKind.u64.max = 18446744073709551615 := by decide +kernel
    rw [e1, e2] at this
    omega
  refine (FileCancels_c (W0 := W) (H := []) (n := n) (b := b) hx hc0 (by simp only [maxLen] at hm0; omega) hB0 hbb.1 hbb.2 W (St.start W)).mono fun e W' ⟨v, H', he, ⟨e1, e2⟩, hS⟩ => ?_
  subst e1 he
  have bel : Below W.heap.size W W' := hS.below
  have harg0 : DataW.Trod enc Try.prog W' 0 (fun b => decide (b < W.heap.size)) true 23 (.slice a0 len0 cap0) d0 p0 :=
    Below.trod laidOut (by kernel_rfl) (of_decide_eq_true (by kernel_rfl)) h0 bel (fun x hx => hlt x (List.mem_append.2 (.inl hx)))
  have harg1 : DataW.Trod enc Try.prog W' 0 (fun b => decide (b < W.heap.size)) true 38 (.agg #[.int .i64 n, .int .u64 b]) d1 p1 :=
    Below.trod laidOut (by kernel_rfl) (of_decide_eq_true (by kernel_rfl)) h1 bel (fun x hx => hlt x (List.mem_append.2 (.inr hx)))
  exact ⟨_, rfl, _, _, _, [], _, [], hW', trodAll_mk1 (shut_bool Try.underlying4 _), trodAll_mk2 harg0 harg1, rfl, bel.frame _, fun h => by cases h⟩

theorem fileCancels_holds : Rows.FileCancelsSaid :=
  OpenClaim.holds_of_wide 4 Try.f4 rfl rfl rfl rfl rfl rfl rfl ⟨rfl, rfl, rfl, rfl, rfl⟩ rfl rfl rfl rfl rfl (by kernel_rfl) Try.func4 (by kernel_rfl)
    (of_decide_eq_true (by kernel_rfl)) (by unfold Func.isWrapper; first | (rw [if_pos (by decide +kernel)]; kernel_rfl) | (rw [if_neg (by decide +kernel)]; exact ⟨rfl, rfl⟩))
    (fun os started H enc _ => fileCancels_lifted os started H enc)

#print axioms fileCancels_holds
end Go.Proofs.Ytmeimjpjelmchaa
