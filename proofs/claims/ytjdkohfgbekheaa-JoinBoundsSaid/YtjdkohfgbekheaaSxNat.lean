/- Bit operations on numbers that are not negative, in Nat's words. No conditions. -/
import Derived.Test.YtjdkohfgbekheaaSxCall
import Derived.Laws.BitsAllLaws
namespace Go.Sx
open Go Go.RowKit
section
variable {P : Program} {W0 : World} {n : Nat} {kn : Kn} {H : Hp}
theorem OpP.xor32 {d ty pos aft g t t'} {x y : Operand} {a b : Nat} (hx : kop kn x = some (.int .u32 (a : Int))) (hy : kop kn y = some (.int .u32 (b : Int))) (ha : a < 4294967296) (hb : b < 4294967296) :
    OpP P W0 n kn H ⟨d, .binOp .xor t x y t', ty, pos, aft, g⟩ (.int .u32 ((a ^^^ b : Nat) : Int)) := by
  have := OpP.bits (P := P) (W0 := W0) (n := n) (H := H) (d := d) (ty := ty) (pos := pos) (aft := aft) (g := g) (t := t) (t' := t') (o := .xor) hx hy (by simp)
  rwa [u32_xor_nat a b ha hb] at this
theorem OpP.xor8 {d ty pos aft g t t'} {x y : Operand} {a b : Nat} (hx : kop kn x = some (.int .u8 (a : Int))) (hy : kop kn y = some (.int .u8 (b : Int))) (ha : a < 256) (hb : b < 256) :
    OpP P W0 n kn H ⟨d, .binOp .xor t x y t', ty, pos, aft, g⟩ (.int .u8 ((a ^^^ b : Nat) : Int)) := by
  have := OpP.bits (P := P) (W0 := W0) (n := n) (H := H) (d := d) (ty := ty) (pos := pos) (aft := aft) (g := g) (t := t) (t' := t') (o := .xor) hx hy (by simp)
  rwa [u8_xor_nat a b ha hb] at this
theorem OpP.and32 {d ty pos aft g t t'} {x y : Operand} {a b : Nat} (hx : kop kn x = some (.int .u32 (a : Int))) (hy : kop kn y = some (.int .u32 (b : Int))) (ha : a < 4294967296) (hb : b < 4294967296) :
    OpP P W0 n kn H ⟨d, .binOp .and t x y t', ty, pos, aft, g⟩ (.int .u32 ((a &&& b : Nat) : Int)) := by
  have := OpP.bits (P := P) (W0 := W0) (n := n) (H := H) (d := d) (ty := ty) (pos := pos) (aft := aft) (g := g) (t := t) (t' := t') (o := .and) hx hy (by simp)
  rwa [u32_and_nat a b ha hb] at this
/-- x >> c. -/
theorem OpP.shrN {d ty pos aft g t t'} {x y : Operand} {k k' : IntKind} {a c : Nat} (hx : kop kn x = some (.int k (a : Int))) (hy : kop kn y = some (.int k' (c : Int))) (hc : c ≤ k.bits) :
    OpP P W0 n kn H ⟨d, .binOp .shr t x y t', ty, pos, aft, g⟩ (.int k ((a / 2 ^ c : Nat) : Int)) := by
  have := OpP.shr (P := P) (W0 := W0) (n := n) (H := H) (d := d) (ty := ty) (pos := pos) (aft := aft) (g := g) (t := t) (t' := t') hx hy (by omega)
  rw [Int.toNat_natCast, Nat.min_eq_left hc, Int.fdiv_eq_ediv_of_nonneg _ (by
    have := Nat.two_pow_pos c
    have e : ((2 ^ c : Nat) : Int) = (2 : Int) ^ c := by push_cast; rfl
    omega)] at this
  have e : (a : Int) / 2 ^ c = ((a / 2 ^ c : Nat) : Int) := by push_cast; rfl
  rwa [e] at this
/-- A conversion down. -/
theorem OpP.conv8 {d ty pos aft g} {s t : TypeId} {x : Operand} {k : IntKind} {a : Nat} (hx : kop kn x = some (.int k (a : Int))) (hs : P.underlying s = some (.int k)) (ht : P.underlying t = some (.int .u8)) :
    OpP P W0 n kn H ⟨d, .convert s t x, ty, pos, aft, g⟩ (.int .u8 ((a % 256 : Nat) : Int)) := by
  have := OpP.conv (P := P) (W0 := W0) (n := n) (H := H) (d := d) (ty := ty) (pos := pos) (aft := aft) (g := g) hx hs ht
  rw [IntKind.wrap_u8] at this
  have e : (a : Int) % 256 = ((a % 256 : Nat) : Int) := by omega
  rwa [e] at this
theorem OpP.conv32 {d ty pos aft g} {s t : TypeId} {x : Operand} {k : IntKind} {a : Nat} (hx : kop kn x = some (.int k (a : Int))) (hs : P.underlying s = some (.int k)) (ht : P.underlying t = some (.int .u32)) (ha : a < 4294967296) :
    OpP P W0 n kn H ⟨d, .convert s t x, ty, pos, aft, g⟩ (.int .u32 (a : Int)) := by
  have := OpP.conv (P := P) (W0 := W0) (n := n) (H := H) (d := d) (ty := ty) (pos := pos) (aft := aft) (g := g) hx hs ht
  rw [IntKind.wrap_u32, show (a : Int) % 4294967296 = a from by omega] at this
  exact this
/-- ^x. -/
theorem OpP.cpl32 {d ty pos aft g t} {x : Operand} {a : Nat} (hx : kop kn x = some (.int .u32 (a : Int))) (ha : a < 4294967296) : OpP P W0 n kn H ⟨d, .unOp .xor t x, ty, pos, aft, g⟩ (.int .u32 ((4294967295 ^^^ a : Nat) : Int)) := fun act w hF _ => by
  have e : (Op.intBits .xor .u32 IntKind.u32.max (a : Int)).run P w = .ok (.int .u32 ((4294967295 ^^^ a : Nat) : Int)) w := by
    have h := u32_xor_nat 4294967295 a (by omega) ha
    have hm : IntKind.u32.max = ((4294967295 : Nat) : Int) := by decide +kernel
    rw [hm, ← h]; rfl
  have e2 : Op.unary .xor (.int .u32 (a : Int)) = Op.intBits .xor .u32 IntKind.u32.max (a : Int) := rfl
  simp only [execOp, hF.eval hx, e2, Sem.run_bind, e, Result.andThen_ok]
  rfl
/-- unsafe.Pointer(p). -/
theorem OpP.toUnsafe {d ty pos aft g} {s t e : TypeId} {x : Operand} {a : Addr} {v : Value} (hx : kop kn x = some (.pointer (some a))) (hs : P.underlying s = some (.pointer e)) (ht : P.underlying t = some .unsafePointer)
    (hsz : (P.info? e).map (fun i => decide (i.size = 0)) = some false) (hv : Rd W0 H a v) : OpP P W0 n kn H ⟨d, .convert s t x, ty, pos, aft, g⟩ (.pointer (some a)) := fun act w hF hS => by
  have := run_convert_to_unsafe (P := P) hs ht hsz (hv w hS)
  simp [execOp, hF.eval hx, this]
/-- Ways that meet again: what is known where they meet. -/
theorem WC.join {Q : Exit → Act → World → Prop} {σ : Type} (I : σ → Kn) (HI : σ → Hp) (inv : σ → Prop) {x y : Code} (hx : WC P W0 n (Exit.then (fun a w => ∃ s, inv s ∧ Fr a n (I s) ∧ St W0 w (HI s)) Q) kn H x) (hy : ∀ s, inv s → WC P W0 n Q (I s) (HI s) y) :
    WC P W0 n Q kn H (.seq x y) := fun a w hF hS => wp_seq (wp_mono (hx a w hF hS) (fun e a w hq => by
  cases e with
  | normal => obtain ⟨s, i1, i2, i3⟩ := hq; exact hy s i1 a w i2 i3
  | _ => exact hq))
theorem EQ.joined {Q : Exit → Act → World → Prop} {σ : Type} {I : σ → Kn} {HI : σ → Hp} {inv : σ → Prop} (s : σ) (h0 : inv s) (hk : Sub (I s) kn) (hh : ∀ w, St W0 w H → St W0 w (HI s)) :
    EQ W0 n .normal (Exit.then (fun a w => ∃ s, inv s ∧ Fr a n (I s) ∧ St W0 w (HI s)) Q) kn H := fun _ w hF hS => ⟨s, h0, hF.sub hk, hh w hS⟩
end
end Go.Sx
