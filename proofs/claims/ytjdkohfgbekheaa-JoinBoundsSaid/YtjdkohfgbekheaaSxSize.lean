/- How long a slice that comes in can be: what the claims' reach lets in. No conditions. -/
import Derived.Test.YtjdkohfgbekheaaSxArg
import Derived.SizedLaws
namespace Go.Sx
open Go Go.RowKit Go.ChangeShapes Go.WideShapes Go.ChangeMaps

section
variable {H : Type} {enc : TypeId × Value → H} {P : Program} {W : World}
theorem lens_of {base : Nat} {spare : Nat → Bool} {held : Bool} {xs : List TypeId} {gs : List (DataW H)} : ∀ {ts : List TypeId} {vs : List Value} {ds : List (DataW H)} {p : List MemPlace}, DataW.TrodAll enc P W base spare held ts vs ds p →
    (DataW.weightsEach P (ts ++ xs) (ds ++ gs)).all (· ≤ reachBytes) = true →
    ∀ (j : Nat) (t e : TypeId) (a : Option Addr) (len cap : Nat), ts[j]? = some t → P.underlying t = some (.slice e) → vs[j]? = some (.slice a len cap) → len * P.bytesOf e ≤ reachBytes
  | [], [], _, _, _, _, j, t, e, a, len, cap, h, _, _ => by simp at h
  | t0 :: ts, v :: vs, d :: ds, _, ⟨p, q, ⟨fuel, h1⟩, h2, _⟩, hw, j, t, e, a, len, cap, ht, hu, hv => by
    simp only [List.cons_append, DataW.weightsEach, List.all_append, Bool.and_eq_true] at hw
    cases j with
    | succ j => exact lens_of h2 hw.2 j t e a len cap (by simpa using ht) hu (by simpa using hv)
    | zero =>
      simp only [List.getElem?_cons_zero, Option.some.injEq] at ht hv
      subst ht hv
      rcases Go.Deep.open_slice hu h1 with ⟨e1, _⟩ | ⟨a2, len2, cap2, m, n, D, Pl, e1, _, _, _, _, e2, _⟩
      · simp [Value.cells] at e1
        obtain ⟨_, rfl, _⟩ := e1
        simp
      · simp [Value.cells] at e1
        obtain ⟨rfl, rfl, rfl⟩ := e1
        obtain ⟨rfl, rfl⟩ := Prod.mk.inj e2
        have h3 := hw.1
        unfold DataW.weights at h3
        rw [hu] at h3
        simp only [List.all_cons, Bool.and_eq_true, decide_eq_true_eq, List.length_map, List.length_range] at h3
        exact Nat.le_trans (Nat.mul_le_mul_right _ (Nat.le_add_right _ _)) h3.1
  | [], _ :: _, _, _, h, _, _, _, _, _, _, _, _, _, _ => by simp [DataW.TrodAll] at h
  | _ :: _, [], _, _, h, _, _, _, _, _, _, _, _, _, _ => by simp [DataW.TrodAll] at h
  | _ :: _, _ :: _, [], _, h, _, _, _, _, _, _, _, _, _, _ => by simp [DataW.TrodAll] at h
end
end Go.Sx
