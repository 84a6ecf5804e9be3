/- Plain functions that the walks of bitmap, store and file come to. No conditions. -/
import Derived.Test.YtmeimjpjelmchaaSxOps2
import Derived.Test.YtmeimjpjelmchaaSxDraw
import Derived.Laws.BitsLemmas
namespace Go.Proofs.Ytmeimjpjelmchaa
open Go.RowKit Go.Sx

/-- A map of chunks, by value. -/
abbrev mv (n b : Int) : Value := .agg #[.int .i64 n, .int .u64 b]
def mAll (n : Int) : Int := 2 ^ n.toNat - 1
def mRight (n b : Int) : Bool := decide (0 ≤ n) && (decide (n ≤ 64) && decide (b < 2 ^ n.toNat))
def mBit (b i : Int) : Bool := b / 2 ^ i.toNat % 2 == 1
def mHas (n b i : Int) : Bool := mRight n b && (decide (0 ≤ i) && (decide (i < n) && mBit b i))

theorem mAll_bd (n : Int) (h : 0 ≤ n) (h2 : n ≤ 64) : 0 ≤ mAll n ∧ mAll n < 18446744073709551616 := by
  unfold mAll
  have h1 : (1 : Int) ≤ 2 ^ n.toNat := by
    have : (1 : Nat) ≤ 2 ^ n.toNat := Nat.one_le_two_pow
    have h3 : ((1 : Nat) : Int) ≤ ((2 ^ n.toNat : Nat) : Int) := by exact_mod_cast this
    simpa using h3
  have h2' : (2 : Int) ^ n.toNat ≤ 2 ^ 64 := by
    have : 2 ^ n.toNat ≤ 2 ^ 64 := Nat.pow_le_pow_right (by omega) (by omega)
    exact_mod_cast this
  have : (2 : Int) ^ 64 = 18446744073709551616 := by decide
  omega

/-- The chunks below k that a map has not. -/
def missTo (n b : Int) (k : Nat) : List Nat := (List.range k).filter fun (i : Nat) => !mHas n b (i : Int)
abbrev missL (n b : Int) : List Nat := missTo n b n.toNat
abbrev ivs (l : List Nat) : List Value := l.map fun (i : Nat) => Value.int .i64 (i : Int)
theorem missTo_succ (n b : Int) (k : Nat) : missTo n b (k + 1) = if mHas n b k then missTo n b k else missTo n b k ++ [k] := by
  unfold missTo
  rw [List.range_succ, List.filter_append]
  cases h : mHas n b k <;> simp [h]
theorem missTo_length (n b : Int) (k : Nat) : (missTo n b k).length ≤ k := by
  unfold missTo
  exact Nat.le_trans (List.length_filter_le _ _) (by simp)
end Go.Proofs.Ytmeimjpjelmchaa
