/- Plain law: a sender and the document's sender that stand for one another tell the same. No conditions. -/
import Derived.Test.YtmeimjpjelmchaaCs
namespace Go.Proofs.Ytmeimjpjelmchaa
open Go.RowKit Go.Sx

/-- A sender and the document's, alike. -/
structure Rel (x : Snd) (y : Rsn) : Prop where
  len : (y.has.length : Int) = x.n
  has : ∀ i : Nat, i < y.has.length → y.has.getD i false = mBit x.bits i
  pos : y.pos = x.pos
  gone : y.gone = x.gone
  made : x.made = true
  lo : 0 ≤ x.bits
  hi : x.bits < 18446744073709551616
  right : mRight x.n x.bits = true
  n : x.n = chunks x.size
  size : x.size = y.cn

theorem Rel.len64 {x : Snd} {y : Rsn} (h : Rel x y) : y.has.length ≤ 64 := by have := h.len; have := (mRight_spec h.right).2.1; omega
theorem Rel.mhas {x : Snd} {y : Rsn} (h : Rel x y) {i : Nat} (hi : i < y.has.length) : mHas x.n x.bits i = y.has.getD i false := by
  rw [h.has i hi]
  unfold mHas
  have := h.len
  have h1 : (0 : Int) ≤ i := by omega
  have h2 : (i : Int) < x.n := by omega
  simp [h.right, h2]
theorem Rel.nat {x : Snd} {y : Rsn} (h : Rel x y) : x.n.toNat = y.has.length := by have := h.len; omega
theorem Rel.missK {x : Snd} {y : Rsn} (h : Rel x y) : ∀ k : Nat, k ≤ y.has.length → missB y.has k = (missTo x.n x.bits k).length
  | 0, _ => by simp [missB, missTo]
  | k + 1, hk => by
    rw [missB_succ _ _ (by omega), missTo_succ, h.missK k (by omega), h.mhas (by omega)]
    split <;> simp
theorem Rel.missN {x : Snd} {y : Rsn} (h : Rel x y) : missB y.has y.has.length = (missL x.n x.bits).length := by
  have := h.missK y.has.length (Nat.le_refl _)
  rw [this, missL, h.nat]
theorem Rel.left {x : Snd} {y : Rsn} (h : Rel x y) : x.left = y.left := by
  unfold Snd.left Rsn.left
  rw [h.gone, h.right]
  cases x.gone with
  | true => rfl
  | false =>
    have := missL_len h.right h.lo
    have e := h.missN
    simp; omega
theorem Rel.state {x : Snd} {y : Rsn} (h : Rel x y) : x.state = y.state := by
  unfold Snd.state Rsn.state
  rw [h.made, h.gone, ← h.left]
  cases hg : x.gone with
  | true => simp
  | false =>
    have e := full_iff h.right h.lo
    simp only [Snd.full, Snd.left, hg, h.right, if_true, Bool.false_eq_true, if_false, Bool.true_and]
    by_cases hf : x.bits = mAll x.n
    · have := e.2 hf; simp [hf]; rw [hf] at this; omega
    · have : ¬ x.n - ((pc 64 x.bits.toNat : Nat) : Int) = 0 := fun hz => hf (e.1 (by omega))
      simp [hf, this]
theorem find_congr {α : Type} {p q : α → Bool} : ∀ {l : List α}, (∀ a ∈ l, p a = q a) → l.find? p = l.find? q
  | [], _ => rfl
  | a :: l, h => by
    simp only [List.find?_cons, h a (by simp), find_congr (l := l) (fun b hb => h b (List.mem_cons_of_mem _ hb))]
theorem nextOf_range (L : Nat) (m : Nat → Bool) (p : Int) : nextOf ((List.range L).filter m) p = (((((List.range L).find? fun i => m i && decide ((i : Int) ≥ p)).getD (((List.range L).find? m).getD 0) : Nat)) : Int) := by
  unfold nextOf
  have e1 : ((List.range L).filter m).find? (fun (i : Nat) => decide ((i : Int) ≥ p)) = (List.range L).find? (fun (i : Nat) => m i && decide ((i : Int) ≥ p)) := by
    rw [List.find?_filter]; exact find_congr (fun i _ => by cases m i <;> simp)
  have e2 : ((List.range L).filter m).getD 0 0 = ((List.range L).find? m).getD 0 := by
    rw [← List.head?_filter]
    cases (List.range L).filter m <;> rfl
  rw [e1, e2]
theorem Rel.next {x : Snd} {y : Rsn} (h : Rel x y) : x.next = y.next := by
  unfold Snd.next Rsn.next
  rw [h.made, ← h.state]
  by_cases hs : x.state = 0
  · rw [if_pos ⟨rfl, hs⟩, if_pos hs]
    have hne := miss_ne h.right h.lo h.made hs
    unfold missL missTo at hne ⊢
    rw [nextOf_range, h.nat]
    rw [h.nat] at hne
    have hm : ∀ i ∈ List.range y.has.length, (!mHas x.n x.bits i) = !(y.has.getD i false) := fun i hi => by rw [h.mhas (by simpa using hi)]
    have e1 : ((List.range y.has.length).find? fun (i : Nat) => (!mHas x.n x.bits i) && decide ((i : Int) ≥ x.pos)) = (List.range y.has.length).find? y.hit := find_congr (fun i hi => by
      have hl : i < y.has.length := by simpa using hi
      rw [hm i hi]
      unfold Rsn.hit
      rw [Nat.mod_eq_of_lt hl, h.pos]
      have : ¬ y.has.length ≤ i := by omega
      simp [this])
    have e2 : ((List.range y.has.length).find? fun (i : Nat) => !mHas x.n x.bits i) = (List.range y.has.length).find? (y.hit ∘ fun i => y.has.length + i) := find_congr (fun i hi => by
      have hl : i < y.has.length := by simpa using hi
      rw [hm i hi]
      simp only [Function.comp]
      unfold Rsn.hit
      rw [Nat.add_mod_left, Nat.mod_eq_of_lt hl]
      simp)
    rw [e1, e2, show 2 * y.has.length = y.has.length + y.has.length by omega, List.range_add, List.find?_append, List.find?_map]
    cases hf : (List.range y.has.length).find? y.hit with
    | some i =>
      have : i < y.has.length := by have := List.mem_of_find?_eq_some hf; simpa using this
      simp [Nat.mod_eq_of_lt this]
    | none =>
      cases hf2 : (List.range y.has.length).find? (y.hit ∘ fun i => y.has.length + i) with
      | some i =>
        have : i < y.has.length := by have := List.mem_of_find?_eq_some hf2; simpa using this
        simp [Nat.mod_eq_of_lt this]
      | none =>
        exfalso
        rw [← e2, List.find?_eq_none] at hf2
        obtain ⟨a, ha⟩ := List.exists_mem_of_ne_nil _ hne
        rw [List.mem_filter] at ha
        exact hf2 a ha.1 ha.2
  · rw [if_neg (fun hh => hs hh.2), if_neg hs]

/-! ### Taking in -/
theorem mBit_nat (b : Nat) (i : Nat) : mBit (b : Int) (i : Int) = b.testBit i := by
  unfold mBit
  rw [Nat.testBit_eq_decide_div_mod_eq, Int.toNat_natCast]
  have h6 : ((b : Int) / 2 ^ i % 2) = ((b / 2 ^ i % 2 : Nat) : Int) := by push_cast; rfl
  rw [h6]
  by_cases h : b / 2 ^ i % 2 = 1
  · simp [h]
  · have : ¬ ((b / 2 ^ i % 2 : Nat) : Int) = 1 := by omega
    rw [beq_eq_false_iff_ne.2 this]
    simp [h]
theorem mBit_or {a b : Int} (ha : 0 ≤ a) (ha2 : a < 18446744073709551616) (hb : 0 ≤ b) (hb2 : b < 18446744073709551616) (i : Nat) : mBit (Go.bits .or .u64 a b) i = (mBit a i || mBit b i) := by
  rw [u64_or a b ha ha2 hb hb2]
  obtain ⟨A, rfl⟩ := Int.eq_ofNat_of_zero_le ha
  obtain ⟨B, rfl⟩ := Int.eq_ofNat_of_zero_le hb
  rw [mBit_nat A, mBit_nat B]
  have := mBit_nat (A ||| B) i
  rw [Nat.testBit_or] at this
  simpa using this
theorem bitsL_get (b : Nat) {n i : Nat} (h : i < n) : (bitsL b n).getD i false = mBit (b : Int) i := by
  rw [mBit_nat, Nat.testBit_eq_decide_div_mod_eq]
  simp [bitsL, List.getD_eq_getElem?_getD, h]
theorem takeB_getD (h w : List Bool) (an : Bool) (i : Nat) (hi : i < h.length) : (takeB h w an h.length).getD i false = (w.getD i false || (h.getD i false && !an)) := by
  simp [takeB, List.getD_eq_getElem?_getD, hi]
theorem right_nat {n : Int} {b : Nat} (h : 0 ≤ n) (h2 : n ≤ 64) : mRight n (b : Int) = decide (b / 2 ^ n.toNat = 0) := by
  unfold mRight
  have hc : ((2 ^ n.toNat : Nat) : Int) = (2 : Int) ^ n.toNat := by push_cast; rfl
  have hp := Nat.two_pow_pos n.toNat
  have : (b / 2 ^ n.toNat = 0) ↔ (b : Int) < 2 ^ n.toNat := by
    rw [Nat.div_eq_zero_iff]
    omega
  simp only [h, h2, decide_true, Bool.true_and, this]
theorem ask_ok {x : Snd} {n b : Int} (h : x.made = true) : x.ask n b = if mRight n b = true ∧ n = x.n then (if x.gone then 41 else 0) else 1 := by
  unfold Snd.ask; rw [if_pos h]
/-- Know: both take the same in. -/
theorem Rel.know {x : Snd} {y : Rsn} (h : Rel x y) {b : Nat} (hb : b < 18446744073709551616) (hr : mRight x.n (b : Int) = true) : Rel { x with bits := Go.bits .or .u64 x.bits b } (y.after (bitsL b y.has.length) false) := by
  have hl : (takeB y.has (bitsL b y.has.length) false y.has.length).length = y.has.length := takeB_length _ _ _ _ (Nat.le_refl _)
  have ho := u64_or x.bits b h.lo h.hi (by omega) (by omega)
  have h3 := (mRight_spec h.right)
  have h4 := (mRight_spec hr)
  have hc : ((2 ^ x.n.toNat : Nat) : Int) = (2 : Int) ^ x.n.toNat := by push_cast; rfl
  have hlt : x.bits.toNat ||| b < 2 ^ x.n.toNat := Nat.or_lt_two_pow (by omega) (by omega)
  have h64 : x.n.toNat ≤ 64 := by omega
  have hp64 : 2 ^ x.n.toNat ≤ 2 ^ 64 := Nat.pow_le_pow_right (by omega) h64
  have hv : (2 : Nat) ^ 64 = 18446744073709551616 := by decide
  rw [Int.toNat_natCast] at ho
  have hmb := fun i : Nat => mBit_or h.lo h.hi (show (0 : Int) ≤ b by omega) (show (b : Int) < 18446744073709551616 by omega) i
  generalize Go.bits .or .u64 x.bits (b : Int) = B at *
  refine ⟨by show ((takeB _ _ _ _).length : Int) = _; rw [hl]; exact h.len, fun i hi => ?_, h.pos, h.gone, h.made, by show 0 ≤ B; omega, by show B < 18446744073709551616; omega, ?_, h.n, h.size⟩
  · have hi' : i < y.has.length := by rw [← hl]; exact hi
    show (takeB _ _ _ _).getD i false = mBit B i
    rw [takeB_getD _ _ _ _ hi', bitsL_get _ hi', h.has i hi', hmb]
    cases mBit (b : Int) i <;> cases mBit x.bits i <;> rfl
  · show mRight x.n B = true
    rw [ho]
    unfold mRight
    simp only [h3.1, h3.2.1, decide_true, Bool.true_and, decide_eq_true_eq]
    omega
theorem Rel.anew {x : Snd} {y : Rsn} (h : Rel x y) {b : Nat} (hb : b < 18446744073709551616) (hr : mRight x.n (b : Int) = true) : Rel { x with n := x.n, bits := b, pos := 0 } (y.after (bitsL b y.has.length) true) := by
  have hl : (takeB y.has (bitsL b y.has.length) true y.has.length).length = y.has.length := takeB_length _ _ _ _ (Nat.le_refl _)
  refine ⟨by show ((takeB _ _ _ _).length : Int) = _; rw [hl]; exact h.len, fun i hi => ?_, rfl, h.gone, h.made, by show (0 : Int) ≤ b; omega, by show (b : Int) < _; omega, hr, h.n, h.size⟩
  have hi' : i < y.has.length := by rw [← hl]; exact hi
  show (takeB _ _ _ _).getD i false = mBit (b : Int) i
  rw [takeB_getD _ _ _ _ hi', bitsL_get _ hi']
  cases mBit (b : Int) i <;> cases y.has.getD i false <;> rfl
theorem Rel.cancel {x : Snd} {y : Rsn} (h : Rel x y) : Rel { x with gone := true } { y with gone := true } := ⟨h.len, h.has, h.pos, rfl, h.made, h.lo, h.hi, h.right, h.n, h.size⟩
theorem Rel.at {x : Snd} {y : Rsn} (h : Rel x y) (p : Int) : Rel { x with pos := p } { y with pos := p } := ⟨h.len, h.has, rfl, h.gone, h.made, h.lo, h.hi, h.right, h.n, h.size⟩

/-! ### The order of the chunks that are told -/
def rot (M : List Nat) (f : Int) : List Nat := (M.filter fun (i : Nat) => decide ((i : Int) ≥ f)) ++ (M.filter fun (i : Nat) => !decide ((i : Int) ≥ f))
theorem cost_rot (x : Snd) : costL x = (rot (missL x.n x.bits) x.next).map fun (i : Nat) => lengthAt x.size (i : Int) := by
  unfold costL costA costB rot; rw [List.map_append]
theorem filter_parts : ∀ {M : List Nat} (f : Int), M.Pairwise (· < ·) → M = (M.filter fun (i : Nat) => !decide ((i : Int) ≥ f)) ++ (M.filter fun (i : Nat) => decide ((i : Int) ≥ f))
  | [], _, _ => rfl
  | a :: M, f, hs => by
    rw [List.pairwise_cons] at hs
    by_cases h : (a : Int) ≥ f
    · have h1 : ((a :: M).filter fun (i : Nat) => !decide ((i : Int) ≥ f)) = [] := by
        rw [List.filter_eq_nil_iff]
        intro b hb
        rcases List.mem_cons.1 hb with rfl | hb
        · simp [h]
        · have := hs.1 b hb
          have : (b : Int) ≥ f := by omega
          simp [this]
      have h2 : ((a :: M).filter fun (i : Nat) => decide ((i : Int) ≥ f)) = a :: M := by
        rw [List.filter_eq_self]
        intro b hb
        rcases List.mem_cons.1 hb with rfl | hb
        · simp [h]
        · have := hs.1 b hb
          have : (b : Int) ≥ f := by omega
          simp [this]
      rw [h1, h2]; rfl
    · have ih := filter_parts f hs.2
      rw [List.filter_cons, List.filter_cons]
      simp only [h, decide_false, Bool.not_false, if_true, Bool.false_eq_true, if_false]
      rw [List.cons_append, ← ih]
theorem missL_sorted (n b : Int) : (missL n b).Pairwise (· < ·) := by
  unfold missL missTo
  exact (List.pairwise_lt_range).filter _
theorem rot_length (M : List Nat) (f : Int) : (rot M f).length = M.length := by
  unfold rot
  rw [List.length_append]
  induction M with
  | nil => rfl
  | cons a M ih =>
    simp only [List.filter_cons]
    by_cases h : (a : Int) ≥ f
    · simp only [h, decide_true, if_true, Bool.not_true, Bool.false_eq_true, if_false, List.length_cons]; omega
    · simp only [h, decide_false, if_true, Bool.not_false, Bool.false_eq_true, if_false, List.length_cons]; omega
/-- The k-th that is told: the place s + k, taken round. -/
theorem rot_get {M : List Nat} (hs : M.Pairwise (· < ·)) (f : Int) {k : Nat} (hk : k < M.length) :
    (rot M f).getD k 0 = if (M.filter fun (i : Nat) => !decide ((i : Int) ≥ f)).length + k < M.length then M.getD ((M.filter fun (i : Nat) => !decide ((i : Int) ≥ f)).length + k) 0 else M.getD ((M.filter fun (i : Nat) => !decide ((i : Int) ≥ f)).length + k - M.length) 0 := by
  have hp := filter_parts f hs
  unfold rot
  generalize (M.filter fun (i : Nat) => !decide ((i : Int) ≥ f)) = B at *
  generalize (M.filter fun (i : Nat) => decide ((i : Int) ≥ f)) = A at *
  subst hp
  simp only [List.length_append, List.getD_eq_getElem?_getD] at *
  split
  · rw [List.getElem?_append_left (by omega), List.getElem?_append_right (by omega)]
    congr 2; omega
  · rw [List.getElem?_append_right (by omega), List.getElem?_append_left (by omega)]
    congr 2; omega
theorem sorted_lt {M : List Nat} (hs : M.Pairwise (· < ·)) {i j : Nat} (hij : i < j) (hj : j < M.length) : M.getD i 0 < M.getD j 0 := by
  have := List.pairwise_iff_getElem.1 hs i j (by omega) hj hij
  simpa [List.getD_eq_getElem?_getD, List.getElem?_eq_getElem, hj, show i < M.length by omega] using this
/-- What comes behind the chunk at place j. -/
theorem next_behind {M : List Nat} (hs : M.Pairwise (· < ·)) {j : Nat} (hj : j < M.length) : nextOf M (((M.getD j 0 : Nat) : Int) + 1) = if j + 1 < M.length then ((M.getD (j + 1) 0 : Nat) : Int) else ((M.getD 0 0 : Nat) : Int) := by
  split
  · rename_i h
    refine nextOf_found h (fun i hi => ?_) ?_
    · by_cases e : i = j
      · subst e; omega
      · have := sorted_lt hs (show i < j by omega) hj; omega
    · have := sorted_lt hs (show j < j + 1 by omega) h; omega
  · refine nextOf_none (fun i hi => ?_)
    by_cases e : i = j
    · subst e; omega
    · have := sorted_lt hs (show i < j by omega) hj; omega
theorem nextOf_mem {M : List Nat} (hne : M ≠ []) (p : Int) : ∃ i ∈ M, nextOf M p = (i : Int) := by
  unfold nextOf
  cases hf : M.find? fun (i : Nat) => decide ((i : Int) ≥ p) with
  | some i => exact ⟨i, List.mem_of_find?_eq_some hf, rfl⟩
  | none =>
    cases M with
    | nil => exact absurd rfl hne
    | cons a M => exact ⟨a, by simp, rfl⟩
theorem rot_first {M : List Nat} (hs : M.Pairwise (· < ·)) (hne : M ≠ []) (p : Int) : (((rot M (nextOf M p)).getD 0 0 : Nat) : Int) = nextOf M p := by
  obtain ⟨a, ha, he⟩ := nextOf_mem hne p
  rw [he]
  unfold rot
  have hsA : (M.filter fun (i : Nat) => decide ((i : Int) ≥ (a : Int))).Pairwise (· < ·) := hs.filter _
  have hm : a ∈ M.filter fun (i : Nat) => decide ((i : Int) ≥ (a : Int)) := by simp [ha]
  have hge : ∀ b ∈ M.filter fun (i : Nat) => decide ((i : Int) ≥ (a : Int)), a ≤ b := fun b hb => by simp at hb; exact hb.2
  generalize (M.filter fun (i : Nat) => decide ((i : Int) ≥ (a : Int))) = A at *
  cases A with
  | nil => simp at hm
  | cons c A =>
    simp only [List.cons_append, List.getD_eq_getElem?_getD, List.getElem?_cons_zero, Option.getD_some]
    rcases List.mem_cons.1 hm with h | h
    · rw [h]
    · have h1 := (List.pairwise_cons.1 hsA).1 a h
      have h2 := hge c (by simp)
      omega
theorem rot_step {M : List Nat} (hs : M.Pairwise (· < ·)) (f : Int) {k : Nat} (hk : k + 1 < M.length) : nextOf M ((((rot M f).getD k 0 : Nat) : Int) + 1) = (((rot M f).getD (k + 1) 0 : Nat) : Int) := by
  rw [rot_get hs f (show k < M.length by omega), rot_get hs f hk]
  have hle : (M.filter fun (i : Nat) => !decide ((i : Int) ≥ f)).length ≤ M.length := List.length_filter_le _ _
  generalize (M.filter fun (i : Nat) => !decide ((i : Int) ≥ f)).length = s at *
  by_cases h1 : s + k < M.length
  · rw [if_pos h1, next_behind hs h1]
    by_cases h2 : s + (k + 1) < M.length
    · rw [if_pos h2, if_pos (by omega)]; rfl
    · rw [if_neg h2, if_neg (by omega)]
      congr 2; omega
  · rw [if_neg h1, next_behind hs (by omega), if_pos (by omega), if_neg (by omega)]
    congr 2; omega
end Go.Proofs.Ytmeimjpjelmchaa
