/- A sender's state as plain data, and what is missing of its map. No conditions. -/
import Derived.Test.YtmeimjpjelmchaaFm
namespace Go.Proofs.Ytmeimjpjelmchaa
open Go.RowKit Go.Sx

structure Snd where
  made : Bool
  id : Int
  name : ByteArray
  size : Int
  sum : Nat → Int
  ba : Option Addr
  bl : Nat
  bc : Nat
  n : Int
  bits : Int
  pos : Int
  gone : Bool
def Snd.l (x : Snd) : List Value := [.bool x.made, .int .u64 x.id, .string x.name, .int .i64 x.size, .int .u8 (x.sum 0), .int .u8 (x.sum 1), .int .u8 (x.sum 2), .int .u8 (x.sum 3), .int .u8 (x.sum 4), .int .u8 (x.sum 5), .int .u8 (x.sum 6), .int .u8 (x.sum 7), .int .u8 (x.sum 8), .int .u8 (x.sum 9), .int .u8 (x.sum 10), .int .u8 (x.sum 11), .int .u8 (x.sum 12), .int .u8 (x.sum 13), .int .u8 (x.sum 14), .int .u8 (x.sum 15), .int .u8 (x.sum 16), .int .u8 (x.sum 17), .int .u8 (x.sum 18), .int .u8 (x.sum 19), .int .u8 (x.sum 20), .int .u8 (x.sum 21), .int .u8 (x.sum 22), .int .u8 (x.sum 23), .int .u8 (x.sum 24), .int .u8 (x.sum 25), .int .u8 (x.sum 26), .int .u8 (x.sum 27), .int .u8 (x.sum 28), .int .u8 (x.sum 29), .int .u8 (x.sum 30), .int .u8 (x.sum 31), .slice x.ba x.bl x.bc, .int .i64 x.n, .int .u64 x.bits, .int .i64 x.pos, .bool x.gone]
abbrev Snd.obj (x : Snd) : Obj := cl x.l 57
def Snd.full (x : Snd) : Bool := mRight x.n x.bits && decide (x.bits = mAll x.n)
def Snd.state (x : Snd) : Int := if x.made then (if x.gone then 1 else if x.full then 2 else 0) else 0
def Snd.left (x : Snd) : Int := if x.gone then 0 else x.n - (if mRight x.n x.bits then (pc 64 x.bits.toNat : Nat) else 0)
def Snd.ask (x : Snd) (n b : Int) : Int := if x.made then (if mRight n b ∧ n = x.n then (if x.gone then 41 else 0) else 1) else 6
/-- Which chunk comes next: the first missing at or behind the place, else the first missing. -/
def nextOf (l : List Nat) (p : Int) : Int := (((l.find? fun (i : Nat) => decide ((i : Int) ≥ p)).getD (l.getD 0 0) : Nat) : Int)
def Snd.next (x : Snd) : Int := if x.made = true ∧ x.state = 0 then nextOf (missL x.n x.bits) x.pos else -1

theorem mRight_spec {n b : Int} (h : mRight n b = true) : 0 ≤ n ∧ n ≤ 64 ∧ b < 2 ^ n.toNat := by
  simp [mRight] at h; omega

theorem missTo_pc {n b : Int} (h : mRight n b = true) (hb : 0 ≤ b) : ∀ k : Nat, (k : Int) ≤ n → (missTo n b k).length + pc k b.toNat = k
  | 0, _ => by simp [missTo, pc]
  | k + 1, hk => by
    have ih := missTo_pc h hb k (by omega)
    rw [missTo_succ, pc_succ]
    obtain ⟨B, rfl⟩ := Int.eq_ofNat_of_zero_le hb
    have hbit : mHas n B k = (B / 2 ^ k % 2 == 1) := by
      unfold mHas mBit
      rw [h]
      have h6 : ((B : Int) / 2 ^ (k : Int).toNat % 2) = ((B / 2 ^ k % 2 : Nat) : Int) := by push_cast; rfl
      rw [h6]
      have h1 : (0 : Int) ≤ k := by omega
      have h2 : (k : Int) < n := by omega
      simp only [h1, h2, decide_true, Bool.true_and]
      by_cases e : B / 2 ^ k % 2 = 1
      · simp [e]
      · have : ¬ ((B / 2 ^ k % 2 : Nat) : Int) = 1 := by omega
        rw [beq_eq_false_iff_ne.2 this, beq_eq_false_iff_ne.2 e]
    rw [hbit]
    rw [Int.toNat_natCast] at ih ⊢
    by_cases e : B / 2 ^ k % 2 = 1
    · simp [e]; omega
    · have : B / 2 ^ k % 2 = 0 := by omega
      simp [this]; omega

theorem pc_n {n b : Int} (h : mRight n b = true) (hb : 0 ≤ b) : pc 64 b.toNat = pc n.toNat b.toNat := by
  obtain ⟨h1, h2, h3⟩ := mRight_spec h
  have hc : ((2 ^ n.toNat : Nat) : Int) = (2 : Int) ^ n.toNat := by push_cast; rfl
  have := pc_big n.toNat b.toNat (by omega) (64 - n.toNat)
  rwa [show n.toNat + (64 - n.toNat) = 64 by omega] at this

theorem full_iff {n b : Int} (h : mRight n b = true) (hb : 0 ≤ b) : (pc 64 b.toNat : Nat) = n ↔ b = mAll n := by
  obtain ⟨h1, h2, h3⟩ := mRight_spec h
  have hc : ((2 ^ n.toNat : Nat) : Int) = (2 : Int) ^ n.toNat := by push_cast; rfl
  have hp := Nat.two_pow_pos n.toNat
  have := pc_full n.toNat b.toNat (by omega)
  rw [pc_n h hb]
  unfold mAll
  omega

theorem missL_len {n b : Int} (h : mRight n b = true) (hb : 0 ≤ b) : ((missL n b).length : Int) = n - (pc 64 b.toNat : Nat) := by
  have := missTo_pc h hb n.toNat (by have := mRight_spec h; omega)
  have h2 := mRight_spec h
  rw [pc_n h hb]
  show ((missTo n b n.toNat).length : Int) = _
  omega
theorem missL_lt {n b : Int} {i : Nat} (hi : i ∈ missL n b) : i < n.toNat := by
  simp [missTo] at hi
  have := hi.1
  omega
theorem ivs_get {W0 : World} {H : Hp} {a : Option Addr} {l : List Nat} (h : Sl W0 H a (ivs l)) (j : Nat) (hj : j < l.length) : Rd W0 H (slAt a (j * 1)) (.int .i64 ((l.getD j 0 : Nat) : Int)) := by
  rw [Nat.mul_one]
  refine h.2.2 j _ ?_
  simp [List.getD_eq_getElem?_getD, hj]
theorem nextOf_found {l : List Nat} {p : Int} {k : Nat} (hk : k < l.length) (h1 : ∀ j, j < k → ((l.getD j 0 : Nat) : Int) < p) (h2 : ((l.getD k 0 : Nat) : Int) ≥ p) : nextOf l p = ((l.getD k 0 : Nat) : Int) := by
  unfold nextOf
  have : (l.find? fun (i : Nat) => decide ((i : Int) ≥ p)) = some (l.getD k 0) := by
    rw [List.find?_eq_some_iff_getElem]
    have e : l.getD k 0 = l[k] := by simp [List.getD_eq_getElem?_getD, hk]
    refine ⟨by simpa using h2, k, hk, e.symm, fun j hj => ?_⟩
    have := h1 j hj
    have e2 : l.getD j 0 = l[j] := by simp [List.getD_eq_getElem?_getD, show j < l.length by omega]
    rw [e2] at this
    simp; omega
  rw [this]; rfl
theorem nextOf_none {l : List Nat} {p : Int} (h1 : ∀ j, j < l.length → ((l.getD j 0 : Nat) : Int) < p) : nextOf l p = ((l.getD 0 0 : Nat) : Int) := by
  unfold nextOf
  have : (l.find? fun (i : Nat) => decide ((i : Int) ≥ p)) = none := by
    rw [List.find?_eq_none]
    intro x hx
    obtain ⟨j, hj, rfl⟩ := List.mem_iff_getElem.1 hx
    have := h1 j hj
    have e2 : l.getD j 0 = l[j] := by simp [List.getD_eq_getElem?_getD, hj]
    rw [e2] at this
    simp; omega
  rw [this]; rfl
theorem next_bd (x : Snd) (hn : x.n ≤ 64) (h0 : x.made = true → x.state = 0 → missL x.n x.bits ≠ []) : -1 ≤ x.next ∧ x.next < 64 := by
  unfold Snd.next
  split
  · rename_i h
    have hne := h0 h.1 h.2
    have hpos : 0 < (missL x.n x.bits).length := List.length_pos_iff.2 hne
    have hlt : ∀ j, j < (missL x.n x.bits).length → (missL x.n x.bits).getD j 0 < 64 := by
      intro j hj
      have e : (missL x.n x.bits).getD j 0 = (missL x.n x.bits)[j] := by rw [List.getD_eq_getElem?_getD, List.getElem?_eq_getElem hj]; rfl
      have := missL_lt (n := x.n) (b := x.bits) (List.getElem_mem hj)
      rw [e]; omega
    unfold nextOf
    cases hf : (missL x.n x.bits).find? fun (i : Nat) => decide ((i : Int) ≥ x.pos) with
    | none => have := hlt 0 hpos; simp only [Option.getD_none]; omega
    | some q =>
      have := missL_lt (List.mem_of_find?_eq_some hf)
      simp only [Option.getD_some]; omega
  · omega
theorem next_lt (x : Snd) (hn : 0 ≤ x.n) (h0 : x.made = true → x.state = 0 → missL x.n x.bits ≠ []) (hx : 0 ≤ x.next) : x.next < x.n := by
  unfold Snd.next at *
  split
  · rename_i h
    have hne := h0 h.1 h.2
    have hpos : 0 < (missL x.n x.bits).length := List.length_pos_iff.2 hne
    have hlt : ∀ j, j < (missL x.n x.bits).length → (missL x.n x.bits).getD j 0 < x.n.toNat := by
      intro j hj
      have e : (missL x.n x.bits).getD j 0 = (missL x.n x.bits)[j] := by rw [List.getD_eq_getElem?_getD, List.getElem?_eq_getElem hj]; rfl
      have := missL_lt (n := x.n) (b := x.bits) (List.getElem_mem hj)
      rw [e]; omega
    unfold nextOf
    cases hf : (missL x.n x.bits).find? fun (i : Nat) => decide ((i : Int) ≥ x.pos) with
    | none => have := hlt 0 hpos; simp only [Option.getD_none]; omega
    | some q =>
      have := missL_lt (List.mem_of_find?_eq_some hf)
      simp only [Option.getD_some]; omega
  · rename_i h
    rw [if_neg h] at hx
    omega
theorem lengthAt_bd {n i : Int} (h : 0 ≤ i) (h2 : i < chunks n) : 1 ≤ lengthAt n i ∧ lengthAt n i ≤ 64 ∧ i * 64 + lengthAt n i ≤ n ∧ n ≤ 4096 := by
  unfold lengthAt
  rw [if_pos ⟨h, h2⟩]
  unfold chunks at h2
  split at h2 <;> omega
theorem miss_ne {x : Snd} (hr : mRight x.n x.bits = true) (hb : 0 ≤ x.bits) (hm : x.made = true) (hs : x.state = 0) : missL x.n x.bits ≠ [] := by
  intro h
  have hl := missL_len hr hb
  rw [h] at hl
  have := (full_iff hr hb).1 (by simp at hl; omega)
  unfold Snd.state Snd.full at hs
  rw [hm, hr] at hs
  simp [this] at hs
  cases hg : x.gone <;> simp [hg] at hs
end Go.Proofs.Ytmeimjpjelmchaa
