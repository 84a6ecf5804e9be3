/- Strings of bytes: conversions. No conditions. -/
import Derived.Test.YtjdkohfgbekheaaSxEq
import Derived.Laws.BytesArg
import Derived.Laws.IdiomStrings
namespace Go.Sx
open Go Go.RowKit

/-- The string of some bytes. -/
def strB (l : List Int) : ByteArray := ⟨(l.map fun n => UInt8.ofNat n.toNat).toArray⟩
/-- The bytes of a string. -/
def bytesI (s : ByteArray) : List Int := s.data.toList.map fun c => (c.toNat : Int)
/-- Numbers that are bytes. -/
def IsB (l : List Int) : Prop := ∀ x ∈ l, 0 ≤ x ∧ x < 256

theorem strB_size (l : List Int) : (strB l).size = l.length := by
  show (l.map fun n => UInt8.ofNat n.toNat).toArray.size = _
  rw [List.size_toArray, List.length_map]
theorem bytesI_length (s : ByteArray) : (bytesI s).length = s.size := by
  show (s.data.toList.map _).length = s.data.size
  rw [List.length_map, Array.length_toList]
theorem bytesI_isB (s : ByteArray) : IsB (bytesI s) := fun x hx => by
  simp only [bytesI, List.mem_map] at hx
  obtain ⟨c, _, rfl⟩ := hx
  have := c.toNat_lt
  omega
theorem bytesI_strB {l : List Int} (h : IsB l) : bytesI (strB l) = l := by
  unfold bytesI strB
  simp only [List.map_map]
  rw [List.map_congr_left (g := id)]
  · simp
  · intro x hx
    have := h x hx
    simp only [Function.comp, id]
    rw [UInt8.toNat_ofNat']
    omega
theorem strB_bytesI (s : ByteArray) : strB (bytesI s) = s := by
  unfold bytesI strB
  obtain ⟨⟨l⟩⟩ := s
  have e : l.map ((fun n : Int => UInt8.ofNat n.toNat) ∘ fun c : UInt8 => (c.toNat : Int)) = l := by
    rw [List.map_congr_left (g := id)]
    · simp
    · intro x _; simp
  simp [e]
theorem strB_inj {l m : List Int} (h : IsB l) (h2 : IsB m) : strB l = strB m ↔ l = m :=
  ⟨fun e => by rw [← bytesI_strB h, ← bytesI_strB h2, e], fun e => by rw [e]⟩
theorem toList_beq (a b : ByteArray) : (a.toList == b.toList) = decide (a = b) := by
  rw [← beq_toListBytes]
  by_cases h : a = b
  · subst h; simp [(MapKept.bytes_beq a a).2 rfl]
  · have : (a == b) = false := by
      cases hq : a == b with
      | false => rfl
      | true => exact absurd ((MapKept.bytes_beq a b).1 hq) h
    simp [this, h]
theorem str_beq {l m : List Int} (h : IsB l) (h2 : IsB m) : ((strB l).toList == (strB m).toList) = decide (l = m) := by
  rw [toList_beq]
  simp only [strB_inj h h2]
theorem IsB.take {l : List Int} (h : IsB l) (k : Nat) : IsB (l.take k) := fun x hx => h x (List.mem_of_mem_take hx)
theorem IsB.drop {l : List Int} (h : IsB l) (k : Nat) : IsB (l.drop k) := fun x hx => h x (List.mem_of_mem_drop hx)
theorem IsB.append {l m : List Int} (h : IsB l) (h2 : IsB m) : IsB (l ++ m) := fun x hx => by
  rcases List.mem_append.1 hx with q | q
  · exact h x q
  · exact h2 x q
theorem IsB.nil : IsB [] := by simp [IsB]

section
variable {P : Program} {W0 : World} {n : Nat} {kn : Kn} {H : Hp} {ops : Array Oper} {Q : Exit → Act → World → Prop}


theorem run_strOf {s t e : TypeId} {a : Option Addr} {m c : Nat} {l : List Int} (hs : P.underlying s = some (.slice e)) (ht : P.underlying t = some .string) (he : P.underlying e = some (.int .u8)) {w : World} (hS : St W0 w H) (hsl : Sl W0 H a (iv .u8 l)) (hl : l.length = m) :
    (convert s t (.slice a m c)).run P w = .ok (.string (strB l)) w := by
  rw [run_convert_bytes_string w s t e a m c hs he ht]
  cases a with
  | none =>
    have := hsl.1 rfl
    have h0 : l = [] := by simpa using this
    subst h0
    simp [Conv.bytesToString, strB]
    rfl
  | some p =>
    have hlc : (loadCells p m).run P w = .ok (l.map (Value.int .u8)).toArray w := by
      have := run_loadCells_list (P := P) (w := w) p (iv .u8 l) (fun j v hj => hsl.2.2 j v hj w hS)
      simpa [hl] using this
    rw [run_bytesToString w p m c l hlc, foldl_push_bytes]
    simp [strB, ByteArray.empty, ByteArray.emptyWithCapacity]
    rfl
/-- A struct out of a slice that reads so. -/
theorem slAt_more {a : Option Addr} {xs : List Value} (h : Sl W0 H a xs) (hne : xs ≠ []) (i j : Nat) : (slAt a i).add j = slAt a (i + j) := by
  cases a with
  | none => exact absurd (h.1 rfl) hne
  | some p =>
    have hp := h.2.1 hne p rfl
    show (p.add i).add j = p.add (i + j)
    obtain ⟨b, o, s⟩ := p
    simp only at hp; subst hp
    simp only [addr_add, Nat.add_assoc]
theorem OpP.loadSl {d ty pos aft gd} {t : TypeId} {x : Operand} {a : Option Addr} {o k : Nat} {xs vs : List Value} (hx : kop kn x = some (.pointer (some (slAt a o)))) (ht : tyI P t = some (true, k)) (hsl : Sl W0 H a xs)
    (hv : ∀ j v, vs[j]? = some v → xs[o + j]? = some v) (hk : vs.length = k) (hne : vs ≠ []) : OpP P W0 n kn H ⟨d, .load t x, ty, pos, aft, gd⟩ (.agg ⟨vs⟩) := fun act w hF hS => by
  have hxs : xs ≠ [] := by
    intro e
    cases vs with
    | nil => exact hne rfl
    | cons v vs => have := hv 0 v rfl; rw [e] at this; simp at this
  subst hk
  have := run_loadCells_list (P := P) (w := w) (slAt a o) vs (fun j v hj => by rw [slAt_more hsl hxs]; exact hsl.2.2 _ v (hv j v hj) w hS)
  simp [execOp, hF.eval hx, Instr.loadAt, Instr.sureAddr, loadVar, run_isAgg_ty ht, run_sizeOf_ty ht, this]
/-- string(b). -/
theorem OpP.strOf {d ty pos aft g} {s t e : TypeId} {x : Operand} {a : Option Addr} {m c : Nat} {l : List Int} (hx : kop kn x = some (.slice a m c)) (hs : P.underlying s = some (.slice e)) (ht : P.underlying t = some .string) (he : P.underlying e = some (.int .u8))
    (hsl : Sl W0 H a (iv .u8 l)) (hl : l.length = m) : OpP P W0 n kn H ⟨d, .convert s t x, ty, pos, aft, g⟩ (.string (strB l)) := fun act w hF hS => by
  have := run_strOf (c := c) hs ht he hS hsl hl
  simp [execOp, hF.eval hx, this]
end
end Go.Sx
