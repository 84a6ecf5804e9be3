/- What the program's sums of 32 bytes come to, as plain functions. No conditions. -/
import Derived.Test.YtmeimjpjelmchaaSxOps3
namespace Go.Proofs.Ytmeimjpjelmchaa
open Go.RowKit Go.Sx

namespace Sha
abbrev ad (a b : Int) : Int := IntKind.u32.wrap (a + b)
abbrev xo (a b : Int) : Int := Go.bits .xor .u32 a b
abbrev an (a b : Int) : Int := Go.bits .and .u32 a b
abbrev oo (a b : Int) : Int := Go.bits .or .u32 a b
def rotS (k : Int) : Int := Go.bits .and .u64 (IntKind.u64.wrap k) 31
def rot (x k : Int) : Int := oo (IntKind.u32.wrap (x * 2 ^ min (rotS k).toNat IntKind.u32.bits)) (x.fdiv (2 ^ min (IntKind.u64.wrap (32 - rotS k)).toNat IntKind.u32.bits))
def turn (x k : Int) : Int := rot x (-k)
def word (l : List Int) : Int :=
  oo (oo (oo (IntKind.u32.wrap (IntKind.u32.wrap (l.getD 0 0) * 2 ^ min (24 : Int).toNat IntKind.u32.bits)) (IntKind.u32.wrap (IntKind.u32.wrap (l.getD 1 0) * 2 ^ min (16 : Int).toNat IntKind.u32.bits)))
    (IntKind.u32.wrap (IntKind.u32.wrap (l.getD 2 0) * 2 ^ min (8 : Int).toNat IntKind.u32.bits))) (IntKind.u32.wrap (l.getD 3 0))
def kL : List Int := [1116352408, 1899447441, 3049323471, 3921009573, 961987163, 1508970993, 2453635748, 2870763221,
  3624381080, 310598401, 607225278, 1426881987, 1925078388, 2162078206, 2614888103, 3248222580,
  3835390401, 4022224774, 264347078, 604807628, 770255983, 1249150122, 1555081692, 1996064986,
  2554220882, 2821834349, 2952996808, 3210313671, 3336571891, 3584528711, 113926993, 338241895,
  666307205, 773529912, 1294757372, 1396182291, 1695183700, 1986661051, 2177026350, 2456956037,
  2730485921, 2820302411, 3259730800, 3345764771, 3516065817, 3600352804, 4094571909, 275423344,
  430227734, 506948616, 659060556, 883997877, 958139571, 1322822218, 1537002063, 1747873779,
  1955562222, 2024104815, 2227730452, 2361852424, 2428436474, 2756734187, 3204031479, 3329325298]
def hL : List Int := [1779033703, 3144134277, 1013904242, 2773480762, 1359893119, 2600822924, 528734635, 1541459225]
/-- The word of a round. -/
def xOf (i : Nat) (w : List Int) : Int :=
  if 16 ≤ i then
    let far := w.getD ((i + 1) % 16) 0
    let near := w.getD ((i + 14) % 16) 0
    ad (w.getD (i % 16) 0) (ad (ad (w.getD ((i + 9) % 16) 0) (xo (xo (turn far 7) (turn far 18)) (far.fdiv (2 ^ min (3 : Int).toNat IntKind.u32.bits)))) (xo (xo (turn near 17) (turn near 19)) (near.fdiv (2 ^ min (10 : Int).toNat IntKind.u32.bits))))
  else w.getD (i % 16) 0
def wOf (i : Nat) (w : List Int) : List Int := if 16 ≤ i then w.set (i % 16) (xOf i w) else w
def tOf (i : Nat) (x e v5 v6 v7 : Int) : Int := ad (ad (ad (ad v7 (xo (xo (turn e 6) (turn e 11)) (turn e 25))) (xo v6 (an e (xo v5 v6)))) (kL.getD i 0)) x
def uOf (a v1 v2 : Int) : Int := ad (xo (xo (turn a 2) (turn a 13)) (turn a 22)) (oo (an a v1) (an v2 (oo a v1)))
def vOf (i : Nat) (x : Int) (v : List Int) : List Int :=
  match v with
  | [v0, v1, v2, v3, v4, v5, v6, v7] => [ad (tOf i x v4 v5 v6 v7) (uOf v0 v1 v2), v0, v1, v2, ad v3 (tOf i x v4 v5 v6 v7), v4, v5, v6]
  | v => v
/-- State and words behind i rounds. -/
def rounds (v w : List Int) : Nat → List Int × List Int
  | 0 => (v, w)
  | i + 1 => (vOf i (xOf i (rounds v w i).2) (rounds v w i).1, wOf i (rounds v w i).2)
def words (b : List Int) : List Int := (List.range 16).map fun i => word (b.drop (4 * i))
def mix (s b : List Int) : List Int := (List.range 8).map fun i => ad ((rounds s (words b) 64).1.getD i 0) (s.getD i 0)

/-- The state behind k blocks of bytes. -/
def stK (st l : List Int) : Nat → List Int
  | 0 => st
  | k + 1 => mix (stK st l k) ((l.drop (64 * k)).take 64)
def absorb (st l : List Int) : List Int := stK st l (l.length / 64)
def rest (l : List Int) : List Int := l.drop (64 * (l.length / 64))
/-- How many zeros are put behind. -/
def zeros (r : Nat) : Nat := (119 - r % 64) % 64
def lenB (n : Int) (i : Int) : Int := IntKind.u8.wrap ((IntKind.u64.wrap (IntKind.u64.wrap n * 2 ^ min (3 : Int).toNat IntKind.u64.bits)).fdiv (2 ^ min (8 * i).toNat IntKind.u64.bits))
def lens (n : Int) (k : Nat) : List Int := (List.range k).map fun (j : Nat) => lenB n (7 - (j : Int))
def padded (r : List Int) (n : Int) : List Int := r ++ [128] ++ List.replicate (zeros r.length) 0 ++ lens n 8
def outB (v : List Int) : List Int := (List.range 32).map fun (j : Nat) => IntKind.u8.wrap ((v.getD (j / 4) 0).fdiv (2 ^ min (24 - 8 * ((j % 4 : Nat) : Int)).toNat IntKind.u32.bits))
/-- The sum of bytes. -/
def of (l : List Int) : List Int := outB (absorb (absorb hL l) (padded (rest l) l.length))
theorem stK_length (st l : List Int) (h : st.length = 8) : ∀ k, (stK st l k).length = 8
  | 0 => h
  | k + 1 => by simp [stK, mix]
theorem of_length (l : List Int) : (of l).length = 32 := by simp [of, outB]
theorem vOf_length (i : Nat) (x : Int) (v : List Int) (h : v.length = 8) : (vOf i x v).length = 8 := by
  match v, h with
  | [_, _, _, _, _, _, _, _], _ => rfl
theorem wOf_length (i : Nat) (w : List Int) : (wOf i w).length = w.length := by unfold wOf; split <;> simp
theorem rounds_length (v w : List Int) (hv : v.length = 8) : ∀ i, (rounds v w i).1.length = 8 ∧ (rounds v w i).2.length = w.length
  | 0 => ⟨hv, rfl⟩
  | i + 1 => ⟨vOf_length _ _ _ (rounds_length v w hv i).1, by show (wOf i _).length = _; rw [wOf_length]; exact (rounds_length v w hv i).2⟩
theorem mix_length (s b : List Int) : (mix s b).length = 8 := by simp [mix]
theorem words_length (b : List Int) : (words b).length = 16 := by simp [words]
end Sha
end Go.Proofs.Ytmeimjpjelmchaa
