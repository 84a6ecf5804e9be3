/- The law StoreSizes holds: whatever the input, it returns true, and the input reads as it did. No conditions. -/
import Derived.Test.YtmeimjpjelmchaaRows
import Derived.Test.YtmeimjpjelmchaaSa
import Derived.Test.YtmeimjpjelmchaaSxArg
set_option linter.unusedVariables false
namespace Go.Proofs.Ytmeimjpjelmchaa
open Go Go.ChangeShapes Go.WideShapes Go.ChangeAt Go.RowKit Go.Sx Go.ChangeMaps
namespace Rss
theorem own : ownKnob Try.prog.godebug = none := by kernel_rfl
theorem laidOut : laidOutB Try.prog = true := by kernel_rfl

theorem sumL_get {l : List Int} (h : l.length = 32) : sumL (fun k => l.getD k 0) = iv .u8 l := by
  rw [sumL_range]
  apply List.ext_getElem
  · simp [h]
  · intro i h1 h2
    simp at h1
    simp [List.getD_eq_getElem?_getD, h, h1]
set_option maxRecDepth 100000 in
theorem info_of {W : World} {v : Value} (h : WV Try.prog W 34 v) : ∃ X : FileM, v = .agg ⟨infoL X⟩ ∧ (-9223372036854775808 ≤ X.size ∧ X.size ≤ 9223372036854775807) := by
  obtain ⟨cs, rfl, hw⟩ := h.agg Try.underlying34
  have hw := WT.flat flat34 (by decide) hw
  obtain ⟨x0, r, rfl, w0, hw⟩ := okB_i hw
  obtain ⟨x1, r, rfl, _, hw⟩ := okB_s hw
  obtain ⟨x2, r, rfl, w2, hw⟩ := okB_i hw
  obtain ⟨l, rfl, hl, _⟩ := okB_rep hw
  exact ⟨{ id := x0, nm := x1, size := x2, sum := fun k => l.getD k 0, ch := [] }, by unfold infoL; rw [sumL_get hl], wf_i64 w2⟩

set_option maxHeartbeats 1600000 in
set_option maxRecDepth 100000 in
theorem lifted (os : Os) (started : os.Started) (H : Type) (enc : TypeId × Value → H) :
    ReturnsInHanded {} Try.checked os 5 .any (Rows.storeSizesSpec.pre6 enc Try.prog Try.f5 Rows.storeSizesRow.domain false) (Rows.storeSizesSpec.post enc Try.prog Try.f5 false true false false) := by
  refine returnsInHanded_of_change (C := Try.checked) own started (by kernel_rfl) Try.func5
    (ChangeSpec.witness6 (enc := enc) (C := Try.checked) false ⟨#[], #[.agg #[.int .u64 0, .string ⟨#[]⟩, .int .i64 0, .int .u8 0, .int .u8 0, .int .u8 0, .int .u8 0, .int .u8 0, .int .u8 0, .int .u8 0, .int .u8 0, .int .u8 0, .int .u8 0, .int .u8 0, .int .u8 0, .int .u8 0, .int .u8 0, .int .u8 0, .int .u8 0, .int .u8 0, .int .u8 0, .int .u8 0, .int .u8 0, .int .u8 0, .int .u8 0, .int .u8 0, .int .u8 0, .int .u8 0, .int .u8 0, .int .u8 0, .int .u8 0, .int .u8 0, .int .u8 0, .int .u8 0, .int .u8 0], .int .i64 0], []⟩ 9 (by kernel_rfl) (by kernel_rfl) (by kernel_rfl) (by kernel_rfl)) ?_
  intro W base args ds gs before hval0 hW _ _
  have hval : ∀ (j : Nat) t v, Try.f5.params[j]? = some t → args[j]? = some v → Value.okWide Try.prog W .any base t v := hval0
  have hW' := hW
  obtain ⟨p, q, hA0, hV, rfl, _, _⟩ := hW
  have hA : DataW.TrodAll enc Try.prog W 0 (fun _ => true) true Try.f5.params.toList args.toList ds p := hA0
  rw [Try.params5] at hA hval
  obtain ⟨rfl, rfl⟩ := trodVars_none hV
  clear hA0 hval0
  simp only [List.append_nil] at hW'
  have hlt : ∀ x ∈ p, x.block < W.heap.size := fun x hx => hW'.lt x hx
  have hwv := wvs_of hA (fun j t v h1 h2 => hval j t v (by simpa using h1) (by simpa using h2))
  have hdl : ds.length = 2 := (trodAll_length hA).2
  obtain ⟨l⟩ := args
  obtain ⟨v0, l0, rfl, w0, hwv0⟩ := hwv.cons
  obtain ⟨v1, l1, rfl, w1, hwv1⟩ := hwv0.cons
  obtain rfl := hwv1.nil
  obtain ⟨d0, ds0, rfl, hdl0⟩ := len_cons hdl
  obtain ⟨d1, ds1, rfl, hdl1⟩ := len_cons hdl0
  obtain rfl := len_nil hdl1
  obtain ⟨X, rfl, hX⟩ := info_of w0
  obtain ⟨i, rfl, hi⟩ := w1.int Try.underlying3
  have hi2 := wf_i64 hi
  refine ((StoreSizes_c hi2.1 hi2.2 hX.1 hX.2 : CxD Try.prog W 5 _ [] (.bool true) []) W (St.start W)).mono fun e W' ⟨v, H', he, ⟨e1, e2⟩, hS⟩ => ?_
  subst e1 he
  have bel : Below W.heap.size W W' := hS.below
  have harg := trodAll_below laidOut bel (by kernel_rfl) hA hlt
  exact ⟨_, rfl, _, _, _, [], _, [], hW', trodAll_mk1 (shut_bool Try.underlying4 _), harg, rfl, bel.frame _, fun h => by cases h⟩
end Rss
theorem storeSizes_holds : Rows.StoreSizesSaid :=
  OpenClaim.holds_of_wide 5 Try.f5 rfl rfl rfl rfl rfl rfl rfl ⟨rfl, rfl, rfl, rfl, rfl⟩ rfl rfl rfl rfl rfl (by kernel_rfl) Try.func5 (by kernel_rfl)
    (of_decide_eq_true (by kernel_rfl)) (by unfold Func.isWrapper; first | (rw [if_pos (by decide +kernel)]; kernel_rfl) | (rw [if_neg (by decide +kernel)]; exact ⟨rfl, rfl⟩))
    (fun os started H enc _ => Rss.lifted os started H enc)

#print axioms storeSizes_holds
end Go.Proofs.Ytmeimjpjelmchaa
