/- Turning contracts: another value, other blocks, another order of them. No conditions. -/
import Derived.Test.YtjdkohfgbekheaaSxOwn
import Derived.Test.YtjdkohfgbekheaaSxMore
namespace Go.Sx
open Go Go.RowKit
theorem CxD.to {P : Program} {W0 : World} {f : FuncId} {args : Array Value} {H H' H2 : Hp} {v v2 : Value} (h : CxD P W0 f args H v H') (e1 : v = v2) (e2 : H' = H2) : CxD P W0 f args H v2 H2 := by subst e1 e2; exact h
theorem CxX.to {P : Program} {W0 : World} {f : FuncId} {args : Array Value} {H : Hp} {R R2 : Value → Hp → Prop} (h : CxX P W0 f args H R) (e : ∀ v H', R v H' → R2 v H') : CxX P W0 f args H R2 := fun w hS =>
  (h w hS).mono fun _ _ ⟨v, H', he, hR, hS'⟩ => ⟨v, H', he, e v H' hR, hS'⟩
theorem CxX.weak {P : Program} {W0 : World} {f : FuncId} {args : Array Value} {H H1 : Hp} {R R1 : Value → Hp → Prop} (hp : ∀ w, St W0 w H → St W0 w H1) (h : CxX P W0 f args H1 R1) (k : ∀ v H', R1 v H' → ∃ H2, (∀ w, St W0 w H' → St W0 w H2) ∧ R v H2) : CxX P W0 f args H R := fun w hS =>
  (h w (hp w hS)).mono fun _ _ ⟨v', H', he, hR, hS'⟩ => by
    obtain ⟨H2, h2, hR2⟩ := k v' H' hR
    exact ⟨v', H2, he, hR2, h2 _ hS'⟩
theorem CxD.x {P : Program} {W0 : World} {f : FuncId} {args : Array Value} {H H' : Hp} {v : Value} {R : Value → Hp → Prop} (h : CxD P W0 f args H v H') (k : R v H') : CxX P W0 f args H R := fun w hS =>
  (h w hS).mono fun _ _ ⟨v', H2, he, ⟨e1, e2⟩, hS'⟩ => by subst e1 e2; exact ⟨_, _, he, k, hS'⟩
theorem CxX.pre {P : Program} {W0 : World} {f : FuncId} {args : Array Value} {H H1 : Hp} {R : Value → Hp → Prop} (hp : H.Perm H1) (h : CxX P W0 f args H1 R) : CxX P W0 f args H R := fun w hS => h w (hS.perm hp)
theorem CxD.perm {P : Program} {W0 : World} {f : FuncId} {args : Array Value} {H H1 : Hp} {v : Value} (hp : H.Perm H1) (h : CxD P W0 f args H1 v H1) : CxD P W0 f args H v H := fun w hS =>
  (h w (hS.perm hp)).mono fun _ _ ⟨v', H', he, ⟨e1, e2⟩, hS'⟩ => by subst e1 e2; exact ⟨_, _, he, ⟨rfl, rfl⟩, hS'.perm hp.symm⟩
theorem Sl.via {W0 : World} {H : Hp} {a : Option Addr} {xs : List Value} (h : Sl W0 H a xs) : ∀ H', (∀ w, St W0 w H' → St W0 w H) → Sl W0 H' a xs := fun H' hh => h.of hh
theorem OwnS.read {T : TypeId} {sz : Nat} {a : Option Addr} {m c : Nat} {cs : List Value} {sg : Hp} (h : OwnS T sz (.slice a m c) m cs sg) (W0 : World) (R : Hp) : Sl W0 (sg ++ R) a cs := by
  obtain ⟨a', c', e, _, _, hs⟩ := h.val
  cases e
  exact hs W0 R
theorem Rd.sl0 {W0 : World} {H : Hp} {b o o' : Nat} {xs : List Value} {v : Value} (h : Sl W0 H (some ⟨b, o, none⟩) xs) (hv : xs[0]? = some v) (ho : o' = o) : Rd W0 H ⟨b, o', none⟩ v := by
  subst ho
  have := h.2.2 0 v hv
  simpa [slAt, Addr.add] using this
end Go.Sx
