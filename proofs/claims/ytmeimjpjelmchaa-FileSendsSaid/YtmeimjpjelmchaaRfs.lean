/- The law FileSends holds: whatever the input, it returns true, and the input reads as it did. No conditions. -/
import Derived.Test.YtmeimjpjelmchaaRows
import Derived.Test.YtmeimjpjelmchaaFsd
import Derived.Test.YtmeimjpjelmchaaSxArg
set_option linter.unusedVariables false
namespace Go.Proofs.Ytmeimjpjelmchaa
open Go Go.ChangeShapes Go.WideShapes Go.ChangeAt Go.RowKit Go.Sx Go.ChangeMaps
namespace Rfs
theorem own : ownKnob Try.prog.godebug = none := by kernel_rfl
theorem laidOut : laidOutB Try.prog = true := by kernel_rfl

theorem flat38 : flatT Try.prog 3 38 = some [.i .i64, .i .u64] := by kernel_rfl
set_option maxRecDepth 100000 in
theorem map_of {W : World} {v : Value} (h : WV Try.prog W 38 v) : ∃ n b : Int, v = mv n b ∧ 0 ≤ b ∧ b < 18446744073709551616 := by
  obtain ⟨cs, rfl, hw⟩ := h.agg Try.underlying38
  have hw := WT.flat flat38 (by decide) hw
  obtain ⟨x0, r, rfl, w0, hw⟩ := okB_i hw
  obtain ⟨x1, r, rfl, w1, hw⟩ := okB_i hw
  obtain rfl := okB_nil hw
  have hb := wf_u64 w1
  exact ⟨x0, x1, rfl, hb.1, by omega⟩

set_option maxHeartbeats 1600000 in
set_option maxRecDepth 100000 in
theorem lifted (os : Os) (started : os.Started) (H : Type) (enc : TypeId × Value → H) :
    ReturnsInHanded {} Try.checked os 7 .any (Rows.fileSendsSpec.pre6 enc Try.prog Try.f7 Rows.fileSendsRow.domain false) (Rows.fileSendsSpec.post enc Try.prog Try.f7 false true false false) := by
  refine returnsInHanded_of_change (C := Try.checked) own started (by kernel_rfl) Try.func7
    (ChangeSpec.witness6 (enc := enc) (C := Try.checked) false ⟨#[], #[.slice none 0 0, .agg #[.int .i64 0, .int .u64 0], .int .u8 0], []⟩ 8 (by kernel_rfl) (by kernel_rfl) (by kernel_rfl) (by kernel_rfl)) ?_
  intro W base args ds gs before hval0 hW _ _
  have hval : ∀ (j : Nat) t v, Try.f7.params[j]? = some t → args[j]? = some v → Value.okWide Try.prog W .any base t v := hval0
  have hW' := hW
  obtain ⟨p, q, hA0, hV, rfl, _, _⟩ := hW
  have hA : DataW.TrodAll enc Try.prog W 0 (fun _ => true) true Try.f7.params.toList args.toList ds p := hA0
  rw [Try.params7] at hA hval
  obtain ⟨rfl, rfl⟩ := trodVars_none hV
  clear hA0 hval0
  simp only [List.append_nil] at hW'
  have hlt : ∀ x ∈ p, x.block < W.heap.size := fun x hx => hW'.lt x hx
  have hwv := wvs_of hA (fun j t v h1 h2 => hval j t v (by simpa using h1) (by simpa using h2))
  have hdl : ds.length = 3 := (trodAll_length hA).2
  obtain ⟨l⟩ := args
  obtain ⟨v0, l0, rfl, w0, hwv0⟩ := hwv.cons
  obtain ⟨v1, l1, rfl, w1, hwv1⟩ := hwv0.cons
  obtain ⟨v2, l2, rfl, w2, hwv2⟩ := hwv1.cons
  obtain rfl := hwv2.nil
  obtain ⟨d0, ds0, rfl, hdl0⟩ := len_cons hdl
  obtain ⟨d1, ds1, rfl, hdl1⟩ := len_cons hdl0
  obtain ⟨d2, ds2, rfl, hdl2⟩ := len_cons hdl1
  obtain rfl := len_nil hdl2
  obtain ⟨a2, n2, c2, rfl, h2⟩ := w0.slice Try.underlying23
  obtain ⟨hc2, hm2, l2, hl2, hb2, hs2⟩ := h2.ints (d := 7) Try.underlying23 Try.underlying5 (by kernel_rfl)
  obtain ⟨n, b, rfl, hb3, hb4⟩ := map_of w1
  obtain ⟨x, rfl, hx⟩ := w2.int Try.underlying5
  have hx2 := wf_u8 hx
  obtain ⟨kk, rfl⟩ := Int.eq_ofNat_of_zero_le hx2.1
  simp only [maxLen] at hm2
  subst hl2
  refine ((FileSends_c hc2 (by omega) (isB_of hb2) hs2 hb3 hb4 (by omega) : CxD Try.prog W 7 _ [] (.bool true) []) W (St.start W)).mono fun e W' ⟨v, H', he, ⟨e1, e2⟩, hS⟩ => ?_
  subst e1 he
  have bel : Below W.heap.size W W' := hS.below
  have harg := trodAll_below laidOut bel (by kernel_rfl) hA hlt
  exact ⟨_, rfl, _, _, _, [], _, [], hW', trodAll_mk1 (shut_bool Try.underlying4 _), harg, rfl, bel.frame _, fun h => by cases h⟩
end Rfs
theorem fileSends_holds : Rows.FileSendsSaid :=
  OpenClaim.holds_of_wide 7 Try.f7 rfl rfl rfl rfl rfl rfl rfl ⟨rfl, rfl, rfl, rfl, rfl⟩ rfl rfl rfl rfl rfl (by kernel_rfl) Try.func7 (by kernel_rfl)
    (of_decide_eq_true (by kernel_rfl)) (by unfold Func.isWrapper; first | (rw [if_pos (by decide +kernel)]; kernel_rfl) | (rw [if_neg (by decide +kernel)]; exact ⟨rfl, rfl⟩))
    (fun os started H enc _ => Rfs.lifted os started H enc)

#print axioms fileSends_holds
end Go.Proofs.Ytmeimjpjelmchaa
