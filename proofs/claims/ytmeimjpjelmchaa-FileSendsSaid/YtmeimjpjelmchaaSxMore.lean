/- More rules: a call that may or may not be carried out and changes what is owned; small bit laws. No conditions. -/
import Derived.Test.YtmeimjpjelmchaaSxNat
namespace Go.Sx
open Go Go.RowKit
section
variable {P : Program} {W0 : World} {n : Nat} {ops : Array Oper} {Q : Exit → Act → World → Prop} {kn : Kn} {H : Hp}
/-- A call that may or may not be carried out. -/
theorem WL.gcallX {o : Oper} {rest : List Oper} {f : Nat} {xs : Array Operand} {tys : Array TypeId} {args : List Value} {c : Bool} {v : Value} {R : Hp → Prop}
    (ho : o.op = .call ⟨.value (.func f), xs, tys⟩) (hg : Wn n ops kn o c) (hd : dok n o.dst = true) (hk : Cal P f)
    (ha : c = true → kops kn xs.toList = some args) (h : c = true → CxX P W0 f args.toArray H (fun v' H' => v' = v ∧ R H'))
    (k : ∀ H', (c = true → R H') → (c = false → H' = H) → WL P W0 n ops Q (kset kn o.dst (gv c v)) H' rest) : WL P W0 n ops Q kn H (o :: rest) := by
  cases c with
  | true => exact WL.call ho hg hd hk (ha rfl) (h rfl) fun v' H' ⟨e, hR⟩ => e ▸ k H' (fun _ => hR) (fun h => by cases h)
  | false => exact WL.skip hg hd (k H (fun h => by cases h) (fun _ => rfl))
end
theorem kops4 {kn : Kn} {x y z a : Operand} {v u t s : Value} (h : kop kn x = some v) (h2 : kop kn y = some u) (h3 : kop kn z = some t) (h4 : kop kn a = some s) : kops kn [x, y, z, a] = some [v, u, t, s] := by simp [kops, h, h2, h3, h4]
theorem kops5 {kn : Kn} {x y z a b : Operand} {v u t s r : Value} (h : kop kn x = some v) (h2 : kop kn y = some u) (h3 : kop kn z = some t) (h4 : kop kn a = some s) (h5 : kop kn b = some r) : kops kn [x, y, z, a, b] = some [v, u, t, s, r] := by simp [kops, h, h2, h3, h4, h5]
theorem u8_and7n (k : Nat) (hk : k < 256) : Go.bits .and .u8 (k : Int) 7 = ((k % 8 : Nat) : Int) := by
  have : ∀ k : Fin 256, Go.bits .and .u8 ((k.val : Nat) : Int) 7 = ((k.val % 8 : Nat) : Int) := by decide +kernel
  exact this ⟨k, hk⟩
end Go.Sx
