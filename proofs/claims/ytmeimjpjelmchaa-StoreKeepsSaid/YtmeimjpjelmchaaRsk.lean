/- The law StoreKeeps holds: whatever the input, it returns true, and the input reads as it did. No conditions. -/
import Derived.Test.YtmeimjpjelmchaaRows
import Derived.Test.YtmeimjpjelmchaaSk
import Derived.Test.YtmeimjpjelmchaaSxSize
set_option linter.unusedVariables false
namespace Go.Proofs.Ytmeimjpjelmchaa
open Go Go.ChangeShapes Go.WideShapes Go.ChangeAt Go.RowKit Go.Sx Go.ChangeMaps
namespace Rsk
theorem own : ownKnob Try.prog.godebug = none := by kernel_rfl
theorem laidOut : laidOutB Try.prog = true := by kernel_rfl

set_option maxHeartbeats 1600000 in
set_option maxRecDepth 100000 in
theorem lifted (os : Os) (started : os.Started) (H : Type) (enc : TypeId × Value → H) :
    ReturnsInHanded {} Try.checked os 6 .any (Rows.storeKeepsSpec.pre6 enc Try.prog Try.f6 Rows.storeKeepsRow.domain false) (Rows.storeKeepsSpec.post enc Try.prog Try.f6 false true false false) := by
  refine returnsInHanded_of_change_sized (C := Try.checked) own started (by kernel_rfl) Try.func6
    (ChangeSpec.witness6 (enc := enc) (C := Try.checked) false ⟨#[], #[.int .u64 0, .slice none 0 0, .slice none 0 0, .int .i64 0, .int .i64 0, .int .u8 0], []⟩ 8 (by kernel_rfl) (by kernel_rfl) (by kernel_rfl) (by kernel_rfl)) ?_
  intro W base args ds gs before hval0 hW _ hsz0 _
  have hsz : (DataW.weightsEach Try.prog (Try.f6.params.toList ++ Rows.storeKeepsSpec.plain.varTypes Try.prog) (ds ++ gs)).all (· ≤ reachBytes) = true := hsz0
  clear hsz0
  have hval : ∀ (j : Nat) t v, Try.f6.params[j]? = some t → args[j]? = some v → Value.okWide Try.prog W .any base t v := hval0
  have hW' := hW
  obtain ⟨p, q, hA0, hV, rfl, _, _⟩ := hW
  have hA : DataW.TrodAll enc Try.prog W 0 (fun _ => true) true Try.f6.params.toList args.toList ds p := hA0
  rw [Try.params6] at hA hval hsz
  obtain ⟨rfl, rfl⟩ := trodVars_none hV
  clear hA0 hval0
  simp only [List.append_nil] at hW'
  have hlt : ∀ x ∈ p, x.block < W.heap.size := fun x hx => hW'.lt x hx
  have hwv := wvs_of hA (fun j t v h1 h2 => hval j t v (by simpa using h1) (by simpa using h2))
  have hlens := lens_of hA hsz
  clear hsz
  have hdl : ds.length = 6 := (trodAll_length hA).2
  obtain ⟨l⟩ := args
  obtain ⟨v0, l0, rfl, w0, hwv0⟩ := hwv.cons
  obtain ⟨v1, l1, rfl, w1, hwv1⟩ := hwv0.cons
  obtain ⟨v2, l2, rfl, w2, hwv2⟩ := hwv1.cons
  obtain ⟨v3, l3, rfl, w3, hwv3⟩ := hwv2.cons
  obtain ⟨v4, l4, rfl, w4, hwv4⟩ := hwv3.cons
  obtain ⟨v5, l5, rfl, w5, hwv5⟩ := hwv4.cons
  obtain rfl := hwv5.nil
  obtain ⟨d0, ds0, rfl, hdl0⟩ := len_cons hdl
  obtain ⟨d1, ds1, rfl, hdl1⟩ := len_cons hdl0
  obtain ⟨d2, ds2, rfl, hdl2⟩ := len_cons hdl1
  obtain ⟨d3, ds3, rfl, hdl3⟩ := len_cons hdl2
  obtain ⟨d4, ds4, rfl, hdl4⟩ := len_cons hdl3
  obtain ⟨d5, ds5, rfl, hdl5⟩ := len_cons hdl4
  obtain rfl := len_nil hdl5
  obtain ⟨id, rfl, hid⟩ := w0.int Try.underlying22
  obtain ⟨a2, n2, c2, rfl, h2⟩ := w1.slice Try.underlying23
  obtain ⟨hc2, hm2, l2, hl2, hb2, hs2⟩ := h2.ints (d := 7) Try.underlying23 Try.underlying5 (by kernel_rfl)
  obtain ⟨a3, n3, c3, rfl, h3⟩ := w2.slice Try.underlying23
  obtain ⟨hc3, hm3, l3, hl3, hb3, hs3⟩ := h3.ints (d := 7) Try.underlying23 Try.underlying5 (by kernel_rfl)
  obtain ⟨i, rfl, hi⟩ := w3.int Try.underlying3
  have hi2 := wf_i64 hi
  obtain ⟨o, rfl, ho⟩ := w4.int Try.underlying3
  have ho2 := wf_i64 ho
  obtain ⟨x, rfl, hx⟩ := w5.int Try.underlying5
  have hx2 := wf_u8 hx
  obtain ⟨by0, rfl⟩ := Int.eq_ofNat_of_zero_le hx2.1
  simp only [maxLen] at hm2 hm3
  have hL1 := hlens 1 23 5 _ _ _ rfl Try.underlying23 rfl
  have hL2 := hlens 2 23 5 _ _ _ rfl Try.underlying23 rfl
  have hb5 : Try.prog.bytesOf 5 = 1 := by kernel_rfl
  rw [hb5, Nat.mul_one] at hL1 hL2
  simp only [reachBytes] at hL1 hL2
  subst hl2 hl3
  refine ((StoreKeeps_c hc2 (by omega) (isB_of hb2) hs2 (by omega) (isB_of hb3) hs3 (by omega) hi2.1 hi2.2 ho2.1 ho2.2 (by omega) : CxD Try.prog W 6 _ [] (.bool true) []) W (St.start W)).mono fun e W' ⟨v, H', he, ⟨e1, e2⟩, hS⟩ => ?_
  subst e1 he
  have bel : Below W.heap.size W W' := hS.below
  have harg := trodAll_below laidOut bel (by kernel_rfl) hA hlt
  exact ⟨_, rfl, _, _, _, [], _, [], hW', trodAll_mk1 (shut_bool Try.underlying4 _), harg, rfl, bel.frame _, fun h => by cases h⟩
end Rsk
theorem storeKeeps_holds : Rows.StoreKeepsSaid :=
  OpenClaim.holds_of_wide 6 Try.f6 rfl rfl rfl rfl rfl rfl rfl ⟨rfl, rfl, rfl, rfl, rfl⟩ rfl rfl rfl rfl rfl (by kernel_rfl) Try.func6 (by kernel_rfl)
    (of_decide_eq_true (by kernel_rfl)) (by unfold Func.isWrapper; first | (rw [if_pos (by decide +kernel)]; kernel_rfl) | (rw [if_neg (by decide +kernel)]; exact ⟨rfl, rfl⟩))
    (fun os started H enc _ => Rsk.lifted os started H enc)

#print axioms storeKeeps_holds
end Go.Proofs.Ytmeimjpjelmchaa
