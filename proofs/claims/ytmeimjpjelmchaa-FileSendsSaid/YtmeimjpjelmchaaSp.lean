/- Plain law of a store's files: what is written is there; a byte that is damaged is seen. No conditions but those in the theorems' heads. -/
import Derived.Test.YtmeimjpjelmchaaSs
namespace Go.Proofs.Ytmeimjpjelmchaa
open Go Go.RowKit Go.Sx

/-! ### Sums tell bytes apart -/
theorem crcT_tops : ((List.range 256).map fun i => crcT i / 2 ^ 24).Nodup := by decide +kernel
theorem crcT_inj {i j : Nat} (hi : i < 256) (hj : j < 256) (h : crcT i / 2 ^ 24 = crcT j / 2 ^ 24) : i = j := by
  have hn := crcT_tops
  have h1 : ((List.range 256).map fun i => crcT i / 2 ^ 24)[i]? = some (crcT i / 2 ^ 24) := by simp [hi]
  have h2 : ((List.range 256).map fun i => crcT i / 2 ^ 24)[j]? = some (crcT i / 2 ^ 24) := by simp [hj, h]
  exact (List.getElem?_inj (by simpa using hi) hn).1 (h1.trans h2.symm)
theorem crcOn_idx {v c v' c' : Nat} (hv : v < 4294967296) (hv' : v' < 4294967296) (hc : c < 256) (hc' : c' < 256) (h : crcOn v c = crcOn v' c') : (v % 256) ^^^ c = (v' % 256) ^^^ c' ∧ v / 2 ^ 8 = v' / 2 ^ 8 := by
  have top : ∀ v c, v < 4294967296 → crcOn v c / 2 ^ 24 = crcT ((v % 256) ^^^ c) / 2 ^ 24 := fun v c hv => by
    unfold crcOn
    rw [← Nat.shiftRight_eq_div_pow, Nat.shiftRight_xor_distrib, Nat.shiftRight_eq_div_pow, Nat.shiftRight_eq_div_pow, show v / 2 ^ 8 / 2 ^ 24 = 0 by omega, Nat.zero_xor]
  have hx : ∀ v c : Nat, c < 256 → (v % 256) ^^^ c < 256 := fun v c hc => Nat.xor_lt_two_pow (n := 8) (by omega) (by omega)
  have h1 : (v % 256) ^^^ c = (v' % 256) ^^^ c' := crcT_inj (hx v c hc) (hx v' c' hc') (by rw [← top v c hv, ← top v' c' hv', h])
  refine ⟨h1, ?_⟩
  unfold crcOn at h
  rw [h1] at h
  have := congrArg (· ^^^ crcT ((v' % 256) ^^^ c')) h
  simpa [Nat.xor_assoc] using this
theorem crcOn_inj_v {v v' c : Nat} (hv : v < 4294967296) (hv' : v' < 4294967296) (hc : c < 256) (h : crcOn v c = crcOn v' c) : v = v' := by
  obtain ⟨h1, h2⟩ := crcOn_idx hv hv' hc hc h
  have := congrArg (· ^^^ c) h1
  simp only [Nat.xor_assoc, Nat.xor_self, Nat.xor_zero] at this
  omega
theorem crcOn_inj_c {v c c' : Nat} (hv : v < 4294967296) (hc : c < 256) (hc' : c' < 256) (h : crcOn v c = crcOn v c') : c = c' := by
  obtain ⟨h1, _⟩ := crcOn_idx hv hv hc hc' h
  have := congrArg ((v % 256) ^^^ ·) h1
  simpa [← Nat.xor_assoc] using this
theorem crcL_inj : ∀ {l : List Int} {v v' : Nat}, IsB l → v < 4294967296 → v' < 4294967296 → crcL v l = crcL v' l → v = v'
  | [], _, _, _, _, _, h => h
  | c :: l, v, v', hb, hv, hv', h => by
    have hc := hb c (by simp)
    exact crcOn_inj_v hv hv' (by omega) (crcL_inj (l := l) (fun x hx => hb x (List.mem_cons_of_mem _ hx)) (crcOn_lt hv (by omega)) (crcOn_lt hv' (by omega)) h)
theorem crcL_set : ∀ {l : List Int} {v j : Nat} {x : Int}, IsB l → v < 4294967296 → j < l.length → 0 ≤ x → x < 256 → crcL v (l.set j x) = crcL v l → x = l.getD j 0
  | c :: l, v, 0, x, hb, hv, _, h0, h1, h => by
    have hc := hb c (by simp)
    have := crcL_inj (l := l) (fun y hy => hb y (List.mem_cons_of_mem _ hy)) (crcOn_lt hv (by omega)) (crcOn_lt hv (by omega)) h
    have := crcOn_inj_c hv (by omega) (by omega) this
    simp only [List.getD_eq_getElem?_getD, List.getElem?_cons_zero, Option.getD_some]; omega
  | c :: l, v, j + 1, x, hb, hv, hj, h0, h1, h => by
    have hc := hb c (by simp)
    have := crcL_set (l := l) (fun y hy => hb y (List.mem_cons_of_mem _ hy)) (crcOn_lt hv (by omega)) (by simpa using hj) h0 h1 h
    simpa [List.getD_eq_getElem?_getD] using this
theorem crcOf_set {l : List Int} {j : Nat} {x : Int} (hb : IsB l) (hj : j < l.length) (h0 : 0 ≤ x) (h1 : x < 256) (hne : x ≠ l.getD j 0) : crcOf (l.set j x) ≠ crcOf l := fun h => by
  unfold crcOf at h
  have := congrArg (4294967295 ^^^ ·) h
  simp only [← Nat.xor_assoc, Nat.xor_self, Nat.zero_xor] at this
  exact hne (crcL_set hb (by decide) hj h0 h1 this)

/-! ### Looks at chunks -/
theorem chPut_find : ∀ (hs : List Ch) (c : Ch) (j : Int), (chPut hs c).find? (fun d => decide (d.k = j)) = if j = c.k then some c else hs.find? (fun d => decide (d.k = j))
  | [], c, j => by
    by_cases h : j = c.k
    · simp [chPut, h]
    · simp [chPut, h, Ne.symm h]
  | d :: hs, c, j => by
    by_cases h : d.k = c.k
    · rw [chPut, if_pos h, List.find?_cons, List.find?_cons]
      by_cases h2 : j = c.k
      · simp [h2]
      · have h3 : ¬ c.k = j := fun q => h2 q.symm
        have h4 : ¬ d.k = j := fun q => h3 (by rw [← h]; exact q)
        simp [h2, h3, h4]
    · rw [chPut, if_neg h, List.find?_cons, List.find?_cons, chPut_find hs c j]
      by_cases h2 : d.k = j
      · have h3 : ¬ j = c.k := fun q => h (by rw [h2]; exact q)
        simp [h2, h3]
      · simp [h2]
theorem look_put (F : FileM) (i : Int) (l : List Int) (j : Int) : (F.put i l).look j = if j = i then some ⟨i, l, crcOf l⟩ else F.look j := by
  unfold FileM.look FileM.put
  exact chPut_find F.ch ⟨i, l, crcOf l⟩ j
theorem look_k {F : FileM} {j : Int} {c : Ch} (h : F.look j = some c) : c.k = j := by
  have := List.find?_some h
  simpa using this
theorem look_dmg {F : FileM} {i : Int} {j b : Nat} {c : Ch} (h : F.look i = some c) (q : Int) : (F.dmg i j b).look q = if q = i then some { c with b := c.b.set j (((c.b.getD j 0).toNat ^^^ b : Nat) : Int) } else F.look q := by
  unfold FileM.dmg
  rw [h]
  have hk := look_k h
  show (chPut F.ch { c with b := _ }).find? _ = _
  rw [chPut_find]
  simp only [hk]; rfl

/-! ### A file whose chunks are a list's -/
def chunkB (b : List Int) (i : Int) : List Int := (b.drop (64 * i).toNat).take (lengthAt b.length i).toNat
theorem chunkB_len {b : List Int} {i : Int} (h0 : 0 ≤ i) (h1 : i < chunks b.length) : (chunkB b i).length = (lengthAt b.length i).toNat := by
  have := lengthAt_bd h0 h1
  unfold chunkB
  rw [List.length_take, List.length_drop]; omega
theorem chunkB_isB {b : List Int} (h : IsB b) (i : Int) : IsB (chunkB b i) := (h.drop _).take _
/-- All that is there is right. -/
structure Good (F : FileM) (b : List Int) : Prop where
  size : F.size = b.length
  right : ∀ (i : Nat) c, F.look (i : Int) = some c → c.b = chunkB b i ∧ c.s = crcOf c.b
theorem Good.put {F : FileM} {b : List Int} (h : Good F b) (i : Int) : Good (F.put i (chunkB b i)) b := by
  refine ⟨h.size, fun j c hc => ?_⟩
  rw [look_put] at hc
  split at hc
  · rename_i e
    simp only [Option.some.injEq] at hc
    subst hc
    exact ⟨by rw [e], rfl⟩
  · exact h.right j c hc
theorem Good.snd {F : FileM} {b : List Int} (h : Good F b) (i : Nat) : F.snd (i : Int) = (F.look (i : Int)).isSome := by
  unfold FileM.snd
  cases hl : F.look (i : Int) with
  | none => rfl
  | some c => have := (h.right i c hl).2; simp [this]
theorem chunkB_cat {b : List Int} (hb : b.length ≤ 4096) : ∀ k : Nat, (k : Int) ≤ chunks b.length → (List.range k).flatMap (fun (i : Nat) => chunkB b (i : Int)) = b.take (64 * k)
  | 0, _ => by simp
  | k + 1, hk => by
    have ih := chunkB_cat hb k (by omega)
    have hla := lengthAt_bd (n := (b.length : Int)) (i := (k : Int)) (by omega) (by omega)
    rw [List.range_succ, List.flatMap_append, ih]
    simp only [List.flatMap_cons, List.flatMap_nil, List.append_nil]
    unfold chunkB
    have e1 : (64 * (k : Int)).toNat = 64 * k := by omega
    rw [e1]
    have e2 : (b.drop (64 * k)).take (lengthAt b.length k).toNat = (b.drop (64 * k)).take 64 := by
      by_cases hq : lengthAt b.length (k : Int) = 64
      · rw [hq]; rfl
      · have : (b.drop (64 * k)).length ≤ (lengthAt b.length (k : Int)).toNat := by
          rw [List.length_drop]
          unfold lengthAt at hq hla ⊢
          split at hq
          · rename_i hh
            rw [if_pos hh] at hla ⊢
            omega
          · omega
        rw [List.take_of_length_le this, List.take_of_length_le (by rw [List.length_drop] at this ⊢; omega)]
    rw [e2, ← List.take_add]
    congr 1
theorem Good.cat {F : FileM} {b : List Int} (h : Good F b) (hb : b.length ≤ 4096) (hall : ∀ i : Nat, (i : Int) < chunks b.length → F.snd (i : Int) = true) : F.cat = b ∧ F.all = true := by
  have hch := chunks_bd (b.length : Int)
  have hsz := h.size
  constructor
  · unfold FileM.cat FileM.catN
    rw [hsz]
    have hk := chunkB_cat hb (chunks b.length).toNat (by omega)
    have e : (List.range (chunks (b.length : Int)).toNat).flatMap (fun (i : Nat) => ((F.look (i : Int)).map Ch.b).getD []) = (List.range (chunks (b.length : Int)).toNat).flatMap (fun (i : Nat) => chunkB b (i : Int)) := by
      rw [List.flatMap_def, List.flatMap_def]
      congr 1
      refine List.map_congr_left (fun i hi => ?_)
      have hi2 : i < (chunks (b.length : Int)).toNat := by simpa using hi
      have h1 := hall i (by omega)
      rw [h.snd i] at h1
      obtain ⟨c, hc⟩ := Option.isSome_iff_exists.1 h1
      rw [hc]
      exact (h.right i c hc).1
    rw [e, hk]
    refine List.take_of_length_le ?_
    have : chunks (b.length : Int) = (b.length + 63) / 64 := by unfold chunks; rw [if_pos ⟨by omega, by omega⟩]
    omega
  · unfold FileM.all
    rw [hsz]
    exact List.all_eq_true.2 (fun i hi => hall i (by simp at hi; omega))
theorem sumEq_self (f : Nat → Int) : sumEq f f = true := cellsEq_self (ks := List.replicate 32 (.i .u8)) rfl
theorem Good.whole {F : FileM} {b : List Int} (h : Good F b) (hb : b.length ≤ 4096) (hsum : F.sum = sumF b) (hall : ∀ i : Nat, (i : Int) < chunks b.length → F.snd (i : Int) = true) : F.wholeE = 0 ∧ F.cat = b := by
  obtain ⟨h1, h2⟩ := h.cat hb hall
  refine ⟨?_, h1⟩
  unfold FileM.wholeE
  rw [h2, h1, hsum, sumEq_self]; rfl
theorem not_all {F : FileM} {i : Nat} (hi : (i : Int) < chunks F.size) (h : F.snd (i : Int) = false) : F.wholeE = 10 := by
  have : F.all = false := by
    cases hq : F.all with
    | false => rfl
    | true =>
      have := List.all_eq_true.1 hq i (by simp; omega)
      rw [h] at this; cases this
  unfold FileM.wholeE; rw [this]; rfl
/-- A chunk of which one byte was damaged. -/
theorem dmg_snd {F : FileM} {i : Int} {j b : Nat} {c : Ch} (h : F.look i = some c) (hs : c.s = crcOf c.b) (hB : IsB c.b) (hj : j < c.b.length) (hb0 : 0 < b) (hb : b < 256) : (F.dmg i j b).snd i = false := by
  unfold FileM.snd
  rw [look_dmg h, if_pos rfl]
  have hbj : 0 ≤ c.b.getD j 0 ∧ c.b.getD j 0 < 256 := hB _ (by rw [List.getD_eq_getElem?_getD, List.getElem?_eq_getElem hj]; exact List.getElem_mem _)
  have hx : (c.b.getD j 0).toNat ^^^ b < 2 ^ 8 := Nat.xor_lt_two_pow (by omega) (by omega)
  have hne : (((c.b.getD j 0).toNat ^^^ b : Nat) : Int) ≠ c.b.getD j 0 := fun q => by
    have q2 : (c.b.getD j 0).toNat ^^^ b = (c.b.getD j 0).toNat := by omega
    have := congrArg ((c.b.getD j 0).toNat ^^^ ·) q2
    simp only [← Nat.xor_assoc, Nat.xor_self, Nat.zero_xor] at this
    omega
  have := crcOf_set hB hj (by omega) (by omega) hne
  simp only [hs]
  exact decide_eq_false this

/-! ### How many are there -/
theorem pc_mask (p : Nat → Bool) (n : Nat) : ∀ k, k ≤ n → pc k (maskN p n) = ((List.range k).filter p).length
  | 0, _ => by simp [pc]
  | k + 1, hk => by
    rw [pc_succ, pc_mask p n k (by omega), List.range_succ, List.filter_append]
    have := maskN_bit p n k (by omega)
    rw [Nat.testBit_eq_decide_div_mod_eq] at this
    cases hp : p k with
    | true => rw [hp] at this; simp at this; simp [hp, this]
    | false => rw [hp] at this; simp at this; simp [hp]; omega
theorem pc_mask64 (p : Nat → Bool) {n : Nat} (h : n ≤ 64) : pc 64 (maskN p n) = ((List.range n).filter p).length := by
  have h1 := pc_big n (maskN p n) (maskN_lt p n) (64 - n)
  rw [show n + (64 - n) = 64 by omega] at h1
  rw [h1, pc_mask p n n (Nat.le_refl _)]
theorem filter_one (n i : Nat) (hi : i < n) (p : Nat → Bool) (h : ∀ k, k < n → p k = decide (k ≠ i)) : ((List.range n).filter p).length = n - 1 := by
  have e : (List.range n).filter p = (List.range n).filter (fun k => decide (k ≠ i)) := List.filter_congr (fun k hk => h k (by simpa using hk))
  rw [e]
  clear e h
  induction n with
  | zero => omega
  | succ n ih =>
    rw [List.range_succ, List.filter_append, List.length_append]
    by_cases e : i = n
    · subst e
      have : (List.range i).filter (fun k => decide (k ≠ i)) = List.range i := List.filter_eq_self.2 (fun k hk => by simp at hk; simp; omega)
      rw [this]; simp
    · have := ih (by omega)
      rw [this]
      have h2 : decide (n ≠ i) = true := decide_eq_true (by omega)
      rw [List.filter_cons, if_pos h2]
      simp only [List.filter_nil, List.length_cons, List.length_nil]
      omega
theorem fFind_one {F : FileM} {id : Int} (h : F.id = id) : fFind [F] id = some F := by simp [fFind, h]
theorem fSet_one {F G : FileM} (h : F.id = G.id) : fSet [F] G = [G] := by simp [fSet, h]
end Go.Proofs.Ytmeimjpjelmchaa
