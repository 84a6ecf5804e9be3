/- The law FileLives holds: whatever the input, it returns true, and the input reads as it did. No conditions. -/
import Derived.Test.YtmeimjpjelmchaaRows
import Derived.Test.YtmeimjpjelmchaaLw
import Derived.Test.YtmeimjpjelmchaaSxArg
set_option linter.unusedVariables false
namespace Go.Proofs.Ytmeimjpjelmchaa
open Go Go.ChangeShapes Go.WideShapes Go.ChangeAt Go.RowKit Go.Sx Go.ChangeMaps
namespace Rl
theorem own : ownKnob Try.prog.godebug = none := by kernel_rfl
theorem laidOut : laidOutB Try.prog = true := by kernel_rfl

theorem flat40 : flatT Try.prog 3 40 = some [.i .i64, .i .i64, .i .u64] := by kernel_rfl
set_option maxRecDepth 100000 in
theorem ops_of {W : World} {a : Option Addr} {len cap : Nat} (h : WT Try.prog W 9 24 [.slice a len cap]) : len ≤ cap ∧ cap ≤ maxLen ∧ ∃ ol : List (Int × Int × Nat), ol.length = len ∧ (∀ o ∈ ol, o.2.2 < 18446744073709551616) ∧ ∀ R, Sl W R a (opsV ol) := by
  obtain ⟨h1, h2, ls, h3, h4, h5⟩ := h.elems Try.underlying24 (by rw [flatT_cells flat40]; decide)
  obtain ⟨ol, rfl, hl⟩ := map_list (F := fun o : Int × Int × Nat => [Value.int .i64 o.1, .int .i64 o.2.1, .int .u64 ((o.2.2 : Nat) : Int)]) (R := fun o => o.2.2 < 18446744073709551616) (fun vs hv => by
    have hw := WT.flat flat40 (by decide) (h4 vs hv).2
    obtain ⟨x0, r, rfl, _, hw⟩ := okB_i hw
    obtain ⟨x1, r, rfl, _, hw⟩ := okB_i hw
    obtain ⟨x2, r, rfl, w2, hw⟩ := okB_i hw
    obtain rfl := okB_nil hw
    have hb := wf_u64 w2
    exact ⟨(x0, x1, x2.toNat), by simp [Int.toNat_of_nonneg hb.1], by show x2.toNat < _; omega⟩)
  refine ⟨h1, h2, ol, by simpa using h3, hl, fun R => ?_⟩
  have := h5 R
  rwa [show (ol.map fun o : Int × Int × Nat => [Value.int .i64 o.1, .int .i64 o.2.1, .int .u64 ((o.2.2 : Nat) : Int)]).flatten = opsV ol from rfl] at this

set_option maxHeartbeats 1600000 in
set_option maxRecDepth 100000 in
theorem lifted (os : Os) (started : os.Started) (H : Type) (enc : TypeId × Value → H) :
    ReturnsInHanded {} Try.checked os 3 .any (Rows.fileLivesSpec.pre6 enc Try.prog Try.f3 Rows.fileLivesRow.domain false) (Rows.fileLivesSpec.post enc Try.prog Try.f3 false true false false) := by
  refine returnsInHanded_of_change (C := Try.checked) own started (by kernel_rfl) Try.func3
    (ChangeSpec.witness6 (enc := enc) (C := Try.checked) false ⟨#[], #[.int .u64 0, .string ⟨#[]⟩, .slice none 0 0, .slice none 0 0], []⟩ 8 (by kernel_rfl) (by kernel_rfl) (by kernel_rfl) (by kernel_rfl)) ?_
  intro W base args ds gs before hval0 hW _ _
  have hval : ∀ (j : Nat) t v, Try.f3.params[j]? = some t → args[j]? = some v → Value.okWide Try.prog W .any base t v := hval0
  have hW' := hW
  obtain ⟨p, q, hA0, hV, rfl, _, _⟩ := hW
  have hA : DataW.TrodAll enc Try.prog W 0 (fun _ => true) true Try.f3.params.toList args.toList ds p := hA0
  rw [Try.params3] at hA hval
  obtain ⟨rfl, rfl⟩ := trodVars_none hV
  clear hA0 hval0
  simp only [List.append_nil] at hW'
  have hlt : ∀ x ∈ p, x.block < W.heap.size := fun x hx => hW'.lt x hx
  have hwv := wvs_of hA (fun j t v h1 h2 => hval j t v (by simpa using h1) (by simpa using h2))
  have hdl : ds.length = 4 := (trodAll_length hA).2
  obtain ⟨l⟩ := args
  obtain ⟨v0, l0, rfl, w0, hwv0⟩ := hwv.cons
  obtain ⟨v1, l1, rfl, w1, hwv1⟩ := hwv0.cons
  obtain ⟨v2, l2, rfl, w2, hwv2⟩ := hwv1.cons
  obtain ⟨v3, l3, rfl, w3, hwv3⟩ := hwv2.cons
  obtain rfl := hwv3.nil
  obtain ⟨d0, ds0, rfl, hdl0⟩ := len_cons hdl
  obtain ⟨d1, ds1, rfl, hdl1⟩ := len_cons hdl0
  obtain ⟨d2, ds2, rfl, hdl2⟩ := len_cons hdl1
  obtain ⟨d3, ds3, rfl, hdl3⟩ := len_cons hdl2
  obtain rfl := len_nil hdl3
  obtain ⟨id, rfl, hid⟩ := w0.int Try.underlying22
  obtain ⟨nm, rfl, hnm⟩ := w1.str Try.underlying9
  obtain ⟨a2, n2, c2, rfl, h2⟩ := w2.slice Try.underlying23
  obtain ⟨hc2, hm2, l2, hl2, hb2, hs2⟩ := h2.ints (d := 7) Try.underlying23 Try.underlying5 (by kernel_rfl)
  obtain ⟨a3, n3, c3, rfl, h3⟩ := w3.slice Try.underlying24
  obtain ⟨hc3, hm3, ol, rfl, hob, hs3⟩ := ops_of h3
  simp only [maxLen] at hm2 hm3
  have hmain : CxD Try.prog W 3 #[.int .u64 id, .string nm, .slice a2 n2 c2, .slice a3 ol.length c3] [] (.bool true) [] := by
    cases hok : infoOk id nm n2 with
    | false => exact LivesBad_c hl2 hc2 (by omega) hs2 (by omega) hs3 hob hok
    | true => exact LivesOk_c hl2 hc2 (by omega) hs2 (by omega) hs3 hob hok
  refine ((hmain : CxD Try.prog W 3 _ [] (.bool true) []) W (St.start W)).mono fun e W' ⟨v, H', he, ⟨e1, e2⟩, hS⟩ => ?_
  subst e1 he
  have bel : Below W.heap.size W W' := hS.below
  have harg := trodAll_below laidOut bel (by kernel_rfl) hA hlt
  exact ⟨_, rfl, _, _, _, [], _, [], hW', trodAll_mk1 (shut_bool Try.underlying4 _), harg, rfl, bel.frame _, fun h => by cases h⟩
end Rl
theorem fileLives_holds : Rows.FileLivesSaid :=
  OpenClaim.holds_of_wide 3 Try.f3 rfl rfl rfl rfl rfl rfl rfl ⟨rfl, rfl, rfl, rfl, rfl⟩ rfl rfl rfl rfl rfl (by kernel_rfl) Try.func3 (by kernel_rfl)
    (of_decide_eq_true (by kernel_rfl)) (by unfold Func.isWrapper; first | (rw [if_pos (by decide +kernel)]; kernel_rfl) | (rw [if_neg (by decide +kernel)]; exact ⟨rfl, rfl⟩))
    (fun os started H enc _ => Rl.lifted os started H enc)

#print axioms fileLives_holds
end Go.Proofs.Ytmeimjpjelmchaa
