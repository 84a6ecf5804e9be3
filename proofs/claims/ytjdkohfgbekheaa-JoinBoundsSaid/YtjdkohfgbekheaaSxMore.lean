/- More rules: a call that may or may not be carried out and changes what is owned; small bit laws. No conditions. -/
import Derived.Test.YtjdkohfgbekheaaSxNat
import Derived.Laws.Strings
namespace Go.Sx
open Go Go.RowKit
section
variable {P : Program} {W0 : World} {n : Nat} {ops : Array Oper} {Q : Exit → Act → World → Prop} {kn : Kn} {H : Hp}
/-- A byte of a string. -/
theorem OpP.indexStr {d ty pos aft gd} {t : TypeId} {x y : Operand} {s : ByteArray} {k : IntKind} {j : Int} (hx : kop kn x = some (.string s)) (hy : kop kn y = some (.int k j)) (ht : P.underlying t = some .string) (h0 : 0 ≤ j) (h1 : j < s.size) :
    OpP P W0 n kn H ⟨d, .index t x y, ty, pos, aft, gd⟩ (.int .u8 (s[j.toNat]'(by omega)).toNat) := fun a w hF hS => by
  have := run_index_string w t s k j ht
  rw [dif_pos ⟨h0, h1⟩] at this
  simp [execOp, hF.eval hx, hF.eval hy, this]
/-- A call that may or may not be carried out. -/
theorem WL.gcallX {o : Oper} {rest : List Oper} {f : Nat} {xs : Array Operand} {tys : Array TypeId} {args : List Value} {c : Bool} {v : Value} {R : Hp → Prop}
    (ho : o.op = .call ⟨.value (.func f), xs, tys⟩) (hg : Wn n ops kn o c) (hd : dok n o.dst = true) (hk : Cal P f)
    (ha : c = true → kops kn xs.toList = some args) (h : c = true → CxX P W0 f args.toArray H (fun v' H' => v' = v ∧ R H'))
    (k : ∀ H', (c = true → R H') → (c = false → H' = H) → WL P W0 n ops Q (kset kn o.dst (gv c v)) H' rest) : WL P W0 n ops Q kn H (o :: rest) := by
  cases c with
  | true => exact WL.call ho hg hd hk (ha rfl) (h rfl) fun v' H' ⟨e, hR⟩ => e ▸ k H' (fun _ => hR) (fun h => by cases h)
  | false => exact WL.skip hg hd (k H (fun h => by cases h) (fun _ => rfl))
end
/-- A literal of one struct of four cells. -/
theorem fill4 (z : Array Value) (a b c d : Value) : Instr.fill (fun i => some (i * 4, 4)) ((Array.range (1 * 4)).map (z[· % z.size]!)) [(0, .agg ⟨[a, b, c, d]⟩)] = some ⟨[a, b, c, d]⟩ := by
  have h : (Array.range (1 * 4)).map (z[· % z.size]!) = #[z[0 % z.size]!, z[1 % z.size]!, z[2 % z.size]!, z[3 % z.size]!] := by
    simp [Array.range]; rfl
  rw [h]
  generalize z[0 % z.size]! = x0
  generalize z[1 % z.size]! = x1
  generalize z[2 % z.size]! = x2
  generalize z[3 % z.size]! = x3
  rfl
theorem Rd.ivp {W0 : World} {H : Hp} {b : Nat} {k : IntKind} {l : List Int} {rest : List Value} {T : TypeId} (h : (b, cl (iv k l ++ rest) T) ∈ H) (j : Nat) (hj : j < l.length) : Rd W0 H ⟨b, 0 + ((j : Nat) : Int).toNat * 1, none⟩ (.int k (l.getD j 0)) := by
  refine Rd.own h ?_
  rw [show 0 + ((j : Nat) : Int).toNat * 1 = j by omega, List.getElem?_append_left (by simpa using hj)]
  simp [List.getD_eq_getElem?_getD, hj]
theorem Rd.ivq {W0 : World} {H : Hp} {b : Nat} {k : IntKind} {l : List Int} {rest : List Value} {T : TypeId} (h : (b, cl (iv k l ++ rest) T) ∈ H) (j : Nat) (h0 : 0 < j) (hj : j < l.length) : Rd W0 H ⟨b, 0 + (((j : Nat) : Int) - 1).toNat * 1, none⟩ (.int k (l.getD (j - 1) 0)) := by
  have := Rd.ivp (W0 := W0) h (j - 1) (by omega)
  rwa [show ((j - 1 : Nat) : Int) = ((j : Nat) : Int) - 1 by omega] at this
theorem spl_ivp {k : IntKind} {l : List Int} {rest : List Value} (j : Nat) (hj : j < l.length) (x : Int) : spl (iv k l ++ rest) (0 + ((j : Nat) : Int).toNat * 1) [.int k x] = iv k (l.set j x) ++ rest := by
  rw [show 0 + ((j : Nat) : Int).toNat * 1 = j by omega]
  show (iv k l ++ rest).set j _ = _
  rw [List.set_append_left _ _ (by simpa using hj)]
  simp [iv, List.map_set]
theorem spl_ivq {k : IntKind} {l : List Int} {rest : List Value} (j : Nat) (h0 : 0 < j) (hj : j < l.length) (x : Int) : spl (iv k l ++ rest) (0 + (((j : Nat) : Int) - 1).toNat * 1) [.int k x] = iv k (l.set (j - 1) x) ++ rest := by
  rw [show ((j : Nat) : Int) - 1 = ((j - 1 : Nat) : Int) by omega]
  exact spl_ivp (j - 1) (by omega) x
theorem kops4 {kn : Kn} {x y z a : Operand} {v u t s : Value} (h : kop kn x = some v) (h2 : kop kn y = some u) (h3 : kop kn z = some t) (h4 : kop kn a = some s) : kops kn [x, y, z, a] = some [v, u, t, s] := by simp [kops, h, h2, h3, h4]
theorem kops5 {kn : Kn} {x y z a b : Operand} {v u t s r : Value} (h : kop kn x = some v) (h2 : kop kn y = some u) (h3 : kop kn z = some t) (h4 : kop kn a = some s) (h5 : kop kn b = some r) : kops kn [x, y, z, a, b] = some [v, u, t, s, r] := by simp [kops, h, h2, h3, h4, h5]
theorem u8_and7n (k : Nat) (hk : k < 256) : Go.bits .and .u8 (k : Int) 7 = ((k % 8 : Nat) : Int) := by
  have : ∀ k : Fin 256, Go.bits .and .u8 ((k.val : Nat) : Int) 7 = ((k.val % 8 : Nat) : Int) := by decide +kernel
  exact this ⟨k, hk⟩
end Go.Sx
