/- How many bits are set: the program's count by halves comes to the count bit by bit. No conditions. -/
import Derived.Test.YtmeimjpjelmchaaBits
namespace Go.Proofs.Ytmeimjpjelmchaa
open Go.RowKit Go.Sx

/-- The count, bit by bit. -/
def pc : Nat → Nat → Nat
  | 0, _ => 0
  | k + 1, b => b % 2 + pc k (b / 2)

/-- A mask of k bytes. -/
def msk (m : Nat) : Nat → Nat
  | 0 => 0
  | k + 1 => 256 * msk m k + m

theorem and_byte (q q' r r' : Nat) (hr : r < 256) (hr' : r' < 256) : (256 * q + r) &&& (256 * q' + r') = 256 * (q &&& q') + (r &&& r') :=
  and_split 8 q q' r r' hr hr'

def S1 (k x : Nat) : Nat := (x / 2 &&& msk 85 k) + (x &&& msk 85 k)
def S2 (k x : Nat) : Nat := (x / 4 &&& msk 51 k) + (x &&& msk 51 k)
def S3 (k x : Nat) : Nat := (x / 16 + x) &&& msk 15 k
def s1 (r : Nat) : Nat := (r / 2 &&& 85) + (r &&& 85)
def s2 (r : Nat) : Nat := (r / 4 &&& 51) + (r &&& 51)
def s3 (r : Nat) : Nat := (r / 16 + r) &&& 15

theorem b1 : ∀ b, b < 2 → ∀ t, t < 128 → (128 * b + t) &&& 85 = t &&& 85 := by decide +kernel
theorem b2 : ∀ b, b < 4 → ∀ t, t < 64 → (64 * b + t) &&& 51 = t &&& 51 := by decide +kernel
theorem all8 : ∀ r, r < 256 → s1 r < 256 ∧ s2 (s1 r) < 256 ∧ s2 (s1 r) % 16 ≤ 4 ∧ s2 (s1 r) / 16 ≤ 4 ∧ s3 (s2 (s1 r)) = pc 8 r ∧ pc 8 r ≤ 8 := by decide +kernel

theorem S1_step (k q r : Nat) (hr : r < 256) : S1 (k + 1) (256 * q + r) = 256 * S1 k q + s1 r := by
  unfold S1 s1
  rw [show msk 85 (k + 1) = 256 * msk 85 k + 85 from rfl]
  have e : (256 * q + r) / 2 = 256 * (q / 2) + (128 * (q % 2) + r / 2) := by omega
  rw [e, and_byte _ _ _ _ (by omega) (by omega), and_byte _ _ _ _ hr (by omega), b1 _ (by omega) _ (by omega)]
  omega
theorem S2_step (k q r : Nat) (hr : r < 256) : S2 (k + 1) (256 * q + r) = 256 * S2 k q + s2 r := by
  unfold S2 s2
  rw [show msk 51 (k + 1) = 256 * msk 51 k + 51 from rfl]
  have e : (256 * q + r) / 4 = 256 * (q / 4) + (64 * (q % 4) + r / 4) := by omega
  rw [e, and_byte _ _ _ _ (by omega) (by omega), and_byte _ _ _ _ hr (by omega), b2 _ (by omega) _ (by omega)]
  omega
theorem S3_step (k q r : Nat) (hr : r / 16 ≤ 4) (hr2 : r % 16 ≤ 4) (hq : q % 16 ≤ 4) : S3 (k + 1) (256 * q + r) = 256 * S3 k q + s3 r := by
  unfold S3 s3
  rw [show msk 15 (k + 1) = 256 * msk 15 k + 15 from rfl]
  have e : (256 * q + r) / 16 + (256 * q + r) = 256 * (q / 16 + q) + (16 * (q % 16) + (r / 16 + r)) := by omega
  rw [e, and_byte _ _ _ _ (by omega) (by omega)]
  congr 1
  rw [show (15 : Nat) = 2 ^ 4 - 1 from rfl, Nat.and_two_pow_sub_one_eq_mod, Nat.and_two_pow_sub_one_eq_mod]
  omega

/-- The counts of k bytes, side by side. -/
def Dg : Nat → Nat → Nat
  | 0, _ => 0
  | k + 1, x => 256 * Dg k (x / 256) + pc 8 (x % 256)

theorem S21_low (k x : Nat) : S2 k (S1 k x) % 16 ≤ 4 := by
  cases k with
  | zero => simp [S2, msk]
  | succ k =>
    have e : x = 256 * (x / 256) + x % 256 := (Nat.div_add_mod x 256).symm
    have hr : x % 256 < 256 := Nat.mod_lt _ (by omega)
    have h := all8 _ hr
    rw [e, S1_step _ _ _ hr, S2_step _ _ _ h.1]
    have := h.2.2.1
    omega

theorem S321 : ∀ k x, S3 k (S2 k (S1 k x)) = Dg k x
  | 0, x => by simp [S3, msk, Dg]
  | k + 1, x => by
    have hr : x % 256 < 256 := Nat.mod_lt _ (by omega)
    have h := all8 _ hr
    have e : x = 256 * (x / 256) + x % 256 := (Nat.div_add_mod x 256).symm
    conv => lhs; rw [e]
    rw [S1_step _ _ _ hr, S2_step _ _ _ h.1, S3_step _ _ _ h.2.2.2.1 h.2.2.1 (S21_low k _), S321 k, h.2.2.2.2.1]
    rfl

theorem pc8_mod (x : Nat) : pc 8 (x % 256) = pc 8 x := by
  simp only [pc]
  omega
theorem pc_add : ∀ (a k x : Nat), pc (a + k) x = pc a x + pc k (x / 2 ^ a)
  | 0, k, x => by simp [pc]
  | a + 1, k, x => by
    rw [show a + 1 + k = (a + k) + 1 from by omega]
    simp only [pc]
    rw [pc_add a k (x / 2), Nat.div_div_eq_div_mul, show 2 * 2 ^ a = 2 ^ (a + 1) from by rw [Nat.pow_succ]; omega]
    omega

theorem pc_le : ∀ k x, pc k x ≤ k
  | 0, _ => Nat.le_refl _
  | k + 1, x => by
    have := pc_le k (x / 2)
    simp only [pc]
    omega

theorem pc64 (x : Nat) : pc 64 x = pc 8 x + (pc 8 (x / 256) + (pc 8 (x / 256 / 256) + (pc 8 (x / 256 / 256 / 256) + (pc 8 (x / 256 / 256 / 256 / 256) + (pc 8 (x / 256 / 256 / 256 / 256 / 256) + (pc 8 (x / 256 / 256 / 256 / 256 / 256 / 256) + pc 8 (x / 256 / 256 / 256 / 256 / 256 / 256 / 256))))))) := by
  have h := fun k y => pc_add 8 k y
  simp only [show (2 : Nat) ^ 8 = 256 from rfl] at h
  rw [show (64 : Nat) = 8 + (8 + (8 + (8 + (8 + (8 + (8 + 8)))))) from rfl, h, h, h, h, h, h, h]

/-- The last steps: the bytes added up. -/
def fold (y : Nat) : Nat :=
  let y1 := y + y / 256
  let y2 := y1 + y1 / 65536
  (y2 + y2 / 4294967296) % 128

theorem div_at (a b q r : Nat) (h : a = q * b + r) (hr : r < b) : a / b = q := by
  subst h
  rw [Nat.add_comm, Nat.add_mul_div_right _ _ (by omega), Nat.div_eq_of_lt hr, Nat.zero_add]
theorem fl1 (p0 p1 p2 p3 p4 p5 p6 p7 : Nat) : 256 * (256 * (256 * (256 * (256 * (256 * (256 * (256 * 0 + p7) + p6) + p5) + p4) + p3) + p2) + p1) + p0 = (256 * (256 * (256 * (256 * (256 * (256 * p7 + p6) + p5) + p4) + p3) + p2) + p1) * 256 + p0 := by omega
theorem fl2 (p0 p1 p2 p3 p4 p5 p6 p7 : Nat) : 256 * (256 * (256 * (256 * (256 * (256 * (256 * (256 * 0 + p7) + p6) + p5) + p4) + p3) + p2) + p1) + p0 + (256 * (256 * (256 * (256 * (256 * (256 * p7 + p6) + p5) + p4) + p3) + p2) + p1) = (256 * (256 * (256 * (256 * (256 * p7 + (p7 + p6)) + (p6 + p5)) + (p5 + p4)) + (p4 + p3)) + (p3 + p2)) * 65536 + (p0 + p1 + 256 * (p1 + p2)) := by omega
theorem fl3 (p0 p1 p2 p3 p4 p5 p6 p7 : Nat) : 256 * (256 * (256 * (256 * (256 * (256 * (256 * (256 * 0 + p7) + p6) + p5) + p4) + p3) + p2) + p1) + p0 + (256 * (256 * (256 * (256 * (256 * (256 * p7 + p6) + p5) + p4) + p3) + p2) + p1) + (256 * (256 * (256 * (256 * (256 * p7 + (p7 + p6)) + (p6 + p5)) + (p5 + p4)) + (p4 + p3)) + (p3 + p2)) = (256 * (256 * (256 * p7 + (p7 + p6)) + (p7 + p6 + p5)) + (p7 + p6 + p5 + p4)) * 4294967296 + (p0 + p1 + p2 + p3 + 256 * (p1 + p2 + p3 + p4) + 65536 * (p2 + p3 + p4 + p5) + 16777216 * (p3 + p4 + p5 + p6)) := by omega
theorem fl4 (p0 p1 p2 p3 p4 p5 p6 p7 : Nat) : 256 * (256 * (256 * (256 * (256 * (256 * (256 * (256 * 0 + p7) + p6) + p5) + p4) + p3) + p2) + p1) + p0 + (256 * (256 * (256 * (256 * (256 * (256 * p7 + p6) + p5) + p4) + p3) + p2) + p1) + (256 * (256 * (256 * (256 * (256 * p7 + (p7 + p6)) + (p6 + p5)) + (p5 + p4)) + (p4 + p3)) + (p3 + p2)) + (256 * (256 * (256 * p7 + (p7 + p6)) + (p7 + p6 + p5)) + (p7 + p6 + p5 + p4)) = 256 * ((p1 + p2 + p3 + p4 + (p7 + p6 + p5)) + 256 * (p2 + p3 + p4 + p5 + (p7 + p6)) + 65536 * (p3 + p4 + p5 + p6 + p7) + 16777216 * (256 * (256 * (256 * p7 + (p7 + p6)) + (p7 + p6 + p5)) + (p7 + p6 + p5 + p4))) + (p0 + (p1 + (p2 + (p3 + (p4 + (p5 + (p6 + p7))))))) := by omega
theorem fold_eq (p0 p1 p2 p3 p4 p5 p6 p7 : Nat) (h0 : p0 ≤ 8) (h1 : p1 ≤ 8) (h2 : p2 ≤ 8) (h3 : p3 ≤ 8) (h4 : p4 ≤ 8) (h5 : p5 ≤ 8) (h6 : p6 ≤ 8) (h7 : p7 ≤ 8) :
    fold (256 * (256 * (256 * (256 * (256 * (256 * (256 * (256 * 0 + p7) + p6) + p5) + p4) + p3) + p2) + p1) + p0) = p0 + (p1 + (p2 + (p3 + (p4 + (p5 + (p6 + p7)))))) := by
  have e1 : (256 * (256 * (256 * (256 * (256 * (256 * (256 * (256 * 0 + p7) + p6) + p5) + p4) + p3) + p2) + p1) + p0) / 256 = 256 * (256 * (256 * (256 * (256 * (256 * p7 + p6) + p5) + p4) + p3) + p2) + p1 := div_at _ _ _ p0 (fl1 ..) (by omega)
  have e2 : (256 * (256 * (256 * (256 * (256 * (256 * (256 * (256 * 0 + p7) + p6) + p5) + p4) + p3) + p2) + p1) + p0 + (256 * (256 * (256 * (256 * (256 * (256 * p7 + p6) + p5) + p4) + p3) + p2) + p1)) / 65536 = 256 * (256 * (256 * (256 * (256 * p7 + (p7 + p6)) + (p6 + p5)) + (p5 + p4)) + (p4 + p3)) + (p3 + p2) := div_at _ _ _ (p0 + p1 + 256 * (p1 + p2)) (fl2 ..) (by omega)
  have e3 : (256 * (256 * (256 * (256 * (256 * (256 * (256 * (256 * 0 + p7) + p6) + p5) + p4) + p3) + p2) + p1) + p0 + (256 * (256 * (256 * (256 * (256 * (256 * p7 + p6) + p5) + p4) + p3) + p2) + p1) + (256 * (256 * (256 * (256 * (256 * p7 + (p7 + p6)) + (p6 + p5)) + (p5 + p4)) + (p4 + p3)) + (p3 + p2))) / 4294967296 = 256 * (256 * (256 * p7 + (p7 + p6)) + (p7 + p6 + p5)) + (p7 + p6 + p5 + p4) := div_at _ _ _ (p0 + p1 + p2 + p3 + 256 * (p1 + p2 + p3 + p4) + 65536 * (p2 + p3 + p4 + p5) + 16777216 * (p3 + p4 + p5 + p6)) (fl3 ..) (by omega)
  unfold fold
  simp only [e1]
  simp only [e2]
  simp only [e3]
  rw [fl4]
  clear e1 e2 e3
  generalize (p1 + p2 + p3 + p4 + (p7 + p6 + p5)) + 256 * (p2 + p3 + p4 + p5 + (p7 + p6)) + 65536 * (p3 + p4 + p5 + p6 + p7) + 16777216 * (256 * (256 * (256 * p7 + (p7 + p6)) + (p7 + p6 + p5)) + (p7 + p6 + p5 + p4)) = c
  omega

theorem fold_Dg (x : Nat) : fold (Dg 8 x) = pc 64 x := by
  rw [pc64]
  simp only [Dg, pc8_mod]
  have h := fun y => pc_le 8 y
  have h0 := h x
  have h1 := h (x / 256)
  have h2 := h (x / 256 / 256)
  have h3 := h (x / 256 / 256 / 256)
  have h4 := h (x / 256 / 256 / 256 / 256)
  have h5 := h (x / 256 / 256 / 256 / 256 / 256)
  have h6 := h (x / 256 / 256 / 256 / 256 / 256 / 256)
  have h7 := h (x / 256 / 256 / 256 / 256 / 256 / 256 / 256)
  generalize pc 8 x = p0 at *
  generalize pc 8 (x / 256) = p1 at *
  generalize pc 8 (x / 256 / 256) = p2 at *
  generalize pc 8 (x / 256 / 256 / 256) = p3 at *
  generalize pc 8 (x / 256 / 256 / 256 / 256) = p4 at *
  generalize pc 8 (x / 256 / 256 / 256 / 256 / 256) = p5 at *
  generalize pc 8 (x / 256 / 256 / 256 / 256 / 256 / 256) = p6 at *
  generalize pc 8 (x / 256 / 256 / 256 / 256 / 256 / 256 / 256) = p7 at *
  exact fold_eq p0 p1 p2 p3 p4 p5 p6 p7 h0 h1 h2 h3 h4 h5 h6 h7

theorem Dg_lt : ∀ k x, Dg k x < 256 ^ k
  | 0, x => by simp [Dg]
  | k + 1, x => by
    have := Dg_lt k (x / 256)
    have h8 := pc_le 8 (x % 256)
    simp only [Dg, Nat.pow_succ]
    omega

def rep : Nat → Nat
  | 0 => 0
  | k + 1 => 256 * rep k + 8
theorem Dg_le : ∀ k x, Dg k x ≤ rep k
  | 0, x => Nat.le_refl _
  | k + 1, x => by
    have := Dg_le k (x / 256)
    have h8 := pc_le 8 (x % 256)
    simp only [Dg, rep]
    omega

theorem w64 (x : Nat) (h : x < 18446744073709551616) : IntKind.u64.wrap (x : Int) = x := by
  rw [IntKind.wrap_u64]; omega
theorem fdiv_nat (x d : Nat) : (x : Int).fdiv (d : Int) = ((x / d : Nat) : Int) := by
  rw [Int.fdiv_eq_ediv_of_nonneg _ (by omega)]; rfl
theorem and64 (x c : Nat) (ci : Int) (hci : ci = (c : Int)) (h : x < 18446744073709551616) (hc : c < 18446744073709551616) : Go.bits .and .u64 (x : Int) ci = ((x &&& c : Nat) : Int) := by
  subst hci
  rw [u64_and (x : Int) (c : Int) (by omega) (by omega) (by omega) (by omega)]; rfl
theorem st1 (x : Nat) (h : x < 18446744073709551616) : IntKind.u64.wrap (Go.bits .and .u64 ((x : Int).fdiv (2 ^ min (Int.toNat 1) IntKind.u64.bits)) 6148914691236517205 + Go.bits .and .u64 (x : Int) 6148914691236517205) = (S1 8 x : Nat) ∧ S1 8 x < 18446744073709551616 := by
  have e1 : (x : Int).fdiv (2 ^ min (Int.toNat 1) IntKind.u64.bits) = ((x / 2 : Nat) : Int) := fdiv_nat x 2
  have hm : msk 85 8 = 6148914691236517205 := by decide
  have a1 : x / 2 &&& 6148914691236517205 ≤ 6148914691236517205 := Nat.and_le_right
  have a2 : x &&& 6148914691236517205 ≤ 6148914691236517205 := Nat.and_le_right
  have hs : S1 8 x = (x / 2 &&& 6148914691236517205) + (x &&& 6148914691236517205) := by unfold S1; rw [hm]
  refine ⟨?_, by omega⟩
  rw [e1, and64 _ 6148914691236517205 6148914691236517205 rfl (by omega) (by omega), and64 _ 6148914691236517205 6148914691236517205 rfl h (by omega), hs, ← Int.natCast_add, w64 _ (by omega)]
theorem st2 (x : Nat) (h : x < 18446744073709551616) : IntKind.u64.wrap (Go.bits .and .u64 ((x : Int).fdiv (2 ^ min (Int.toNat 2) IntKind.u64.bits)) 3689348814741910323 + Go.bits .and .u64 (x : Int) 3689348814741910323) = (S2 8 x : Nat) ∧ S2 8 x < 7378697629483820647 := by
  have e1 : (x : Int).fdiv (2 ^ min (Int.toNat 2) IntKind.u64.bits) = ((x / 4 : Nat) : Int) := fdiv_nat x 4
  have hm : msk 51 8 = 3689348814741910323 := by decide
  have a1 : x / 4 &&& 3689348814741910323 ≤ 3689348814741910323 := Nat.and_le_right
  have a2 : x &&& 3689348814741910323 ≤ 3689348814741910323 := Nat.and_le_right
  have hs : S2 8 x = (x / 4 &&& 3689348814741910323) + (x &&& 3689348814741910323) := by unfold S2; rw [hm]
  refine ⟨?_, by omega⟩
  rw [e1, and64 _ 3689348814741910323 3689348814741910323 rfl (by omega) (by omega), and64 _ 3689348814741910323 3689348814741910323 rfl h (by omega), hs, ← Int.natCast_add, w64 _ (by omega)]
theorem st3 (x : Nat) (h : x < 7378697629483820647) : Go.bits .and .u64 (IntKind.u64.wrap ((x : Int).fdiv (2 ^ min (Int.toNat 4) IntKind.u64.bits) + (x : Int))) 1085102592571150095 = (S3 8 x : Nat) := by
  have e1 : (x : Int).fdiv (2 ^ min (Int.toNat 4) IntKind.u64.bits) = ((x / 16 : Nat) : Int) := fdiv_nat x 16
  have hm : msk 15 8 = 1085102592571150095 := by decide
  unfold S3
  rw [hm, e1, ← Int.natCast_add, w64 _ (by omega), and64 _ 1085102592571150095 1085102592571150095 rfl (by omega) (by omega)]
theorem st4 (x k d : Nat) (hd : (2 : Int) ^ k = (d : Int)) (hx : x < 4611686018427387904) : IntKind.u64.wrap ((x : Int) + (x : Int).fdiv (2 ^ k)) = ((x + x / d : Nat) : Int) := by
  have : x / d ≤ x := Nat.div_le_self _ _
  rw [hd, fdiv_nat, ← Int.natCast_add, w64 _ (by omega)]

theorem wraps_i64 (n : Int) (h₀ : 0 ≤ n) (h₁ : n < 2 ^ 63) : IntKind.i64.wrap n = n := by rw [IntKind.wrap_i64]; omega
theorem ones_val (x : Nat) (h : x < 18446744073709551616) (z1 z2 z3 z4 z5 z6 : Int)
    (h1 : z1 = IntKind.u64.wrap (Go.bits .and .u64 ((x : Int).fdiv (2 ^ min (Int.toNat 1) IntKind.u64.bits)) 6148914691236517205 + Go.bits .and .u64 (x : Int) 6148914691236517205))
    (h2 : z2 = IntKind.u64.wrap (Go.bits .and .u64 (z1.fdiv (2 ^ min (Int.toNat 2) IntKind.u64.bits)) 3689348814741910323 + Go.bits .and .u64 z1 3689348814741910323))
    (h3 : z3 = Go.bits .and .u64 (IntKind.u64.wrap (z2.fdiv (2 ^ min (Int.toNat 4) IntKind.u64.bits) + z2)) 1085102592571150095)
    (h4 : z4 = IntKind.u64.wrap (z3 + z3.fdiv (2 ^ min (Int.toNat 8) IntKind.u64.bits)))
    (h5 : z5 = IntKind.u64.wrap (z4 + z4.fdiv (2 ^ min (Int.toNat 16) IntKind.u64.bits)))
    (h6 : z6 = IntKind.u64.wrap (z5 + z5.fdiv (2 ^ min (Int.toNat 32) IntKind.u64.bits))) :
    Go.bits .and .i64 (IntKind.i64.wrap z6) 127 = (pc 64 x : Nat) := by
  obtain ⟨e1, b1⟩ := st1 x h
  rw [e1] at h1
  subst h1
  obtain ⟨e2, b2⟩ := st2 _ b1
  rw [e2] at h2
  subst h2
  rw [st3 _ b2, S321] at h3
  subst h3
  have hd := Dg_le 8 x
  rw [show rep 8 = 578721382704613384 from by decide] at hd
  rw [st4 _ (min (Int.toNat 8) IntKind.u64.bits) 256 (by decide) (by omega)] at h4
  subst h4
  rw [st4 _ (min (Int.toNat 16) IntKind.u64.bits) 65536 (by decide) (by omega)] at h5
  subst h5
  rw [st4 _ (min (Int.toNat 32) IntKind.u64.bits) 4294967296 (by decide) (by omega)] at h6
  subst h6
  rw [wraps_i64 _ (by omega) (by omega)]
  have hm := bits_mask .i64 63 (by decide) wraps_i64 7 (by decide) ((Dg 8 x + Dg 8 x / 256 + (Dg 8 x + Dg 8 x / 256) / 65536 + (Dg 8 x + Dg 8 x / 256 + (Dg 8 x + Dg 8 x / 256) / 65536) / 4294967296 : Nat) : Int) (by omega) (by omega)
  rw [show (2 : Int) ^ 7 - 1 = 127 from by decide] at hm
  rw [hm, ← fold_Dg]
  unfold fold
  simp only []
  omega

theorem pc_succ : ∀ k b, pc (k + 1) b = pc k b + b / 2 ^ k % 2 := by
  intro k b
  rw [pc_add k 1 b]
  simp [pc]

theorem pc_big (n b : Nat) (h : b < 2 ^ n) (j : Nat) : pc (n + j) b = pc n b := by
  rw [pc_add, Nat.div_eq_of_lt h]
  have : ∀ k, pc k 0 = 0 := by
    intro k
    induction k with
    | zero => rfl
    | succ k ih => simp [pc, ih]
  rw [this]; rfl

theorem pc_full : ∀ (n b : Nat), b < 2 ^ n → (pc n b = n ↔ b = 2 ^ n - 1)
  | 0, b, h => by simp at h; simp [pc, h]
  | n + 1, b, h => by
    have hp : 2 ^ (n + 1) = 2 * 2 ^ n := by rw [Nat.pow_succ]; omega
    have h1 : b / 2 < 2 ^ n := by omega
    have ih := pc_full n (b / 2) h1
    have hl := pc_le n (b / 2)
    have hpos := Nat.two_pow_pos n
    simp only [pc]
    constructor
    · intro e
      have e1 : pc n (b / 2) = n := by omega
      have := ih.1 e1
      omega
    · intro e
      have := ih.2 (by omega)
      omega
end Go.Proofs.Ytmeimjpjelmchaa
