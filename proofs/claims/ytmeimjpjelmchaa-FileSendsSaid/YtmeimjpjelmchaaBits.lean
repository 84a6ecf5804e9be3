/- Numbers and their bits: masks, single bits, how many bits are set. No conditions. -/
import Derived.Test.YtmeimjpjelmchaaDefs
import Derived.Laws.BitsAllLaws
namespace Go.Proofs.Ytmeimjpjelmchaa
open Go.RowKit Go.Sx

theorem and_split (k q q' r r' : Nat) (hr : r < 2 ^ k) (hr' : r' < 2 ^ k) : (2 ^ k * q + r) &&& (2 ^ k * q' + r') = 2 ^ k * (q &&& q') + (r &&& r') := by
  apply Nat.eq_of_testBit_eq
  intro j
  have h3 : r &&& r' < 2 ^ k := Nat.lt_of_le_of_lt Nat.and_le_left hr
  rw [Nat.testBit_and, Nat.testBit_two_pow_mul_add _ hr, Nat.testBit_two_pow_mul_add _ hr', Nat.testBit_two_pow_mul_add _ h3]
  split <;> rw [Nat.testBit_and]

theorem and_mask_hi (a k : Nat) (hk : k ≤ 64) (ha : a < 2 ^ 64) : a &&& (2 ^ 64 - 1 - (2 ^ k - 1)) = 2 ^ k * (a / 2 ^ k) := by
  have h1 : 2 ^ 64 = 2 ^ k * 2 ^ (64 - k) := by rw [← Nat.pow_add]; congr 1; omega
  have hp : 0 < 2 ^ k := Nat.two_pow_pos k
  have h2 : 2 ^ 64 - 1 - (2 ^ k - 1) = 2 ^ k * (2 ^ (64 - k) - 1) + 0 := by
    rw [Nat.mul_sub, ← h1]; omega
  have h3 : a = 2 ^ k * (a / 2 ^ k) + a % 2 ^ k := (Nat.div_add_mod a (2 ^ k)).symm
  have h4 : a / 2 ^ k < 2 ^ (64 - k) := by
    apply Nat.div_lt_of_lt_mul; rw [← h1]; exact ha
  rw [h2]
  conv => lhs; rw [h3]
  rw [and_split k _ _ _ _ (Nat.mod_lt _ hp) hp, Nat.and_two_pow_sub_one_eq_mod, Nat.mod_eq_of_lt h4]
  simp

theorem two64 : (2 : Nat) ^ 64 = 18446744073709551616 := by decide

theorem mRight_eq {n b : Int} (hb : 0 ≤ b) (hb2 : b < 18446744073709551616) (h0 : 0 ≤ n) (h1 : n ≤ 64) : decide (Go.bits .andNot .u64 b (mAll n) = 0) = decide (b < 2 ^ n.toNat) := by
  have hm := mAll_bd n h0 h1
  rw [u64_andNot b (mAll n) hb hb2 hm.1 hm.2]
  have e : (mAll n).toNat = 2 ^ n.toNat - 1 := by
    unfold mAll at *
    have : ((2 ^ n.toNat : Nat) : Int) = (2 : Int) ^ n.toNat := by push_cast; rfl
    omega
  have hk : n.toNat ≤ 64 := by omega
  have hbn : b.toNat < 2 ^ 64 := by rw [two64]; omega
  have := and_mask_hi b.toNat n.toNat hk hbn
  rw [e, show (18446744073709551615 : Nat) = 2 ^ 64 - 1 from by decide, this]
  have hp : 0 < 2 ^ n.toNat := Nat.two_pow_pos _
  have hc : ((2 ^ n.toNat : Nat) : Int) = (2 : Int) ^ n.toNat := by push_cast; rfl
  by_cases h : b.toNat < 2 ^ n.toNat
  · rw [Nat.div_eq_of_lt h]
    have : b < 2 ^ n.toNat := by omega
    simp [this]
  · have h5 : 0 < b.toNat / 2 ^ n.toNat := Nat.div_pos (by omega) hp
    have h6 : ¬ b < 2 ^ n.toNat := by omega
    have h7 : 0 < 2 ^ n.toNat * (b.toNat / 2 ^ n.toNat) := Nat.mul_pos hp h5
    have h8 : ¬ ((2 ^ n.toNat * (b.toNat / 2 ^ n.toNat) : Nat) : Int) = 0 := by omega
    simp only [h6, decide_false]
    exact decide_eq_false h8

/-- One bit more. -/
theorem or_bit (b i : Nat) : b ||| 2 ^ i = if b / 2 ^ i % 2 = 1 then b else b + 2 ^ i := by
  have hp : 0 < 2 ^ i := Nat.two_pow_pos i
  have hb : b.testBit i = decide (b / 2 ^ i % 2 = 1) := by
    rw [Nat.testBit_eq_decide_div_mod_eq]
  split
  · rename_i h
    apply Nat.eq_of_testBit_eq
    intro j
    rw [Nat.testBit_or, Nat.testBit_two_pow]
    by_cases e : i = j
    · subst e; simp [hb, h]
    · simp [e]
  · rename_i h
    have hbit : b.testBit i = false := by rw [hb]; simp [h]
    have := Nat.two_pow_add_eq_or_of_lt (i := i) (b := b % 2 ^ i) (Nat.mod_lt _ hp) 1
    have h1 : b / 2 ^ i % 2 = 0 := by omega
    have h2 : b / 2 ^ i = 2 * (b / 2 ^ i / 2) := by omega
    have h3 : b = 2 ^ i * (b / 2 ^ i) + b % 2 ^ i := (Nat.div_add_mod b (2 ^ i)).symm
    have h4 : b + 2 ^ i = 2 ^ i * (b / 2 ^ i + 1) + b % 2 ^ i := by rw [Nat.mul_add]; omega
    apply Nat.eq_of_testBit_eq
    intro j
    rw [Nat.testBit_or, Nat.testBit_two_pow]
    conv => lhs; rw [h3]
    rw [h4, Nat.testBit_two_pow_mul_add _ (Nat.mod_lt _ hp), Nat.testBit_two_pow_mul_add _ (Nat.mod_lt _ hp)]
    by_cases hj : j < i
    · simp [hj, show ¬ i = j by omega]
    · simp only [hj, if_false]
      by_cases e : i = j
      · subst e
        simp only [Nat.sub_self, decide_true, Bool.or_true]
        rw [h2]
        simp [Nat.testBit_zero, Nat.add_mod]
      · obtain ⟨k, hk⟩ : ∃ k, j - i = k + 1 := ⟨j - i - 1, by omega⟩
        rw [hk, Nat.testBit_succ, Nat.testBit_succ]
        have : (b / 2 ^ i + 1) / 2 = b / 2 ^ i / 2 := by omega
        simp [this, e]
end Go.Proofs.Ytmeimjpjelmchaa
