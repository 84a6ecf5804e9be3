/- Maps from numbers to pointers, each thing in a segment of its own; sorting by insertion, as a law of lists. No conditions. -/
import Derived.Test.YtjdkohfgbekheaaSxMap
namespace Go.Sx
open Go Go.RowKit

section
variable {α : Type} {key : α → Int} {R : α → Nat → Hp → Prop}
/-- The things of a map, and its entries; each thing lies in a segment of its own. -/
def PsR (key : α → Int) (R : α → Nat → Hp → Prop) : List α → List Ent → Hp → Prop
  | [], [], ds => ds = []
  | F :: Fs, e :: es, ds => e.key = key F ∧ ∃ fb sg d2, e.val = .pointer (some ⟨fb, 0, none⟩) ∧ R F fb sg ∧ ds = sg ++ d2 ∧ PsR key R Fs es d2
  | _, _, _ => False
theorem PsR.nil {es : List Ent} {ds : Hp} (h : PsR key R [] es ds) : es = [] ∧ ds = [] := by
  cases es with
  | nil => exact ⟨rfl, h⟩
  | cons e es => exact h.elim
theorem PsR.cons {F : α} {Fs : List α} {es : List Ent} {ds : Hp} (h : PsR key R (F :: Fs) es ds) : ∃ e es' fb sg d2, es = e :: es' ∧ e.key = key F ∧ e.val = .pointer (some ⟨fb, 0, none⟩) ∧ R F fb sg ∧ ds = sg ++ d2 ∧ PsR key R Fs es' d2 := by
  cases es with
  | nil => exact h.elim
  | cons e es =>
    obtain ⟨h1, fb, sg, d2, h5, h6, h7, h8⟩ := h
    exact ⟨e, es, fb, sg, d2, rfl, h1, h5, h6, h7, h8⟩
def pFind (key : α → Int) (M : List α) (id : Int) : Option α := M.find? fun F => decide (key F = id)
def pSet (key : α → Int) : List α → α → List α
  | [], _ => []
  | F :: Fs, G => if key F = key G then G :: Fs else F :: pSet key Fs G
theorem PsR.keys : ∀ {Fs : List α} {es : List Ent} {ds : Hp}, PsR key R Fs es ds → es.map Ent.key = Fs.map key
  | [], es, ds, h => by obtain ⟨rfl, _⟩ := h.nil; rfl
  | F :: Fs, es, ds, h => by
    obtain ⟨e, es', fb, sg, d2, rfl, hk, hv, hr0, rfl, hr⟩ := h.cons
    simp [hk, hr.keys]
theorem PsR.len {Fs : List α} {es : List Ent} {ds : Hp} (h : PsR key R Fs es ds) : es.length = Fs.length := by
  have := congrArg List.length h.keys
  simpa using this
theorem PsR.look0 : ∀ {Fs : List α} {es : List Ent} {ds : Hp}, PsR key R Fs es ds → ∀ id, pFind key Fs id = none → mlook es id = none
  | [], es, ds, h, j, _ => by obtain ⟨rfl, _⟩ := h.nil; rfl
  | F :: Fs, es, ds, h, j, hf => by
    obtain ⟨e, es', fb, sg, d2, rfl, hk, hv, hr0, rfl, hr⟩ := h.cons
    unfold pFind at hf
    rw [List.find?_cons] at hf
    by_cases hq : key F = j
    · simp [hq] at hf
    · simp only [hq, decide_false] at hf
      simp only [mlook]
      rw [if_neg (by rw [hk]; exact hq)]
      exact hr.look0 j hf
theorem PsR.look1 : ∀ {Fs : List α} {es : List Ent} {ds : Hp}, PsR key R Fs es ds → ∀ id F, pFind key Fs id = some F →
    ∃ fb d1 sg d2, key F = id ∧ mlook es id = some (.pointer (some ⟨fb, 0, none⟩)) ∧ R F fb sg ∧ ds = d1 ++ (sg ++ d2) ∧ ∀ (G : α) sg', key G = id → R G fb sg' → PsR key R (pSet key Fs G) es (d1 ++ (sg' ++ d2))
  | [], es, ds, h, j, F, hf => by simp [pFind] at hf
  | E :: Fs, es, ds, h, j, F, hf => by
    obtain ⟨e, es', fb, sg, d2, rfl, hk, hv, hr0, rfl, hr⟩ := h.cons
    unfold pFind at hf
    rw [List.find?_cons] at hf
    by_cases hq : key E = j
    · simp only [hq, decide_true, Option.some.injEq] at hf
      subst hf
      refine ⟨fb, [], sg, d2, hq, by simp only [mlook]; rw [if_pos (by rw [hk]; exact hq), hv], hr0, rfl, fun G sg' h1 h2 => ?_⟩
      simp only [pSet, if_pos (show key E = key G by rw [h1]; exact hq)]
      exact ⟨by rw [hk, hq, h1], fb, sg', d2, hv, h2, rfl, hr⟩
    · simp only [hq, decide_false] at hf
      obtain ⟨fb2, e1, sg2, e2, q1, q2, q3, rfl, q5⟩ := hr.look1 j F hf
      refine ⟨fb2, sg ++ e1, sg2, e2, q1, by simp only [mlook]; rw [if_neg (by rw [hk]; exact hq)]; exact q2, q3, by simp [List.append_assoc], fun G sg' h1 h2 => ?_⟩
      simp only [pSet, if_neg (show ¬ key E = key G by rw [h1]; exact hq)]
      exact ⟨hk, fb, sg, e1 ++ (sg' ++ e2), hv, hr0, by simp [List.append_assoc], q5 G sg' h1 h2⟩
/-- One that was not there. -/
theorem PsR.new : ∀ {Fs : List α} {es : List Ent} {ds : Hp}, PsR key R Fs es ds → ∀ (F : α) fb sg cc, pFind key Fs (key F) = none → R F fb sg → PsR key R (Fs ++ [F]) (mput es cc (key F) (.pointer (some ⟨fb, 0, none⟩))) (ds ++ sg)
  | [], es, ds, h, F, fb, sg, cc, _, h1 => by
    obtain ⟨rfl, rfl⟩ := h.nil
    exact ⟨rfl, fb, sg, [], rfl, h1, by simp, rfl⟩
  | E :: Fs, es, ds, h, F, fb, sg, cc, hf, h1 => by
    obtain ⟨e, es', fb2, sg2, d2, rfl, hk, hv, hr0, rfl, hr⟩ := h.cons
    unfold pFind at hf
    rw [List.find?_cons] at hf
    by_cases hq : key E = key F
    · simp [hq] at hf
    · simp only [hq, decide_false] at hf
      simp only [mput, if_neg (show ¬ e.key = key F by rw [hk]; exact hq)]
      exact ⟨hk, fb2, sg2, d2 ++ sg, hv, hr0, by simp [List.append_assoc], hr.new F fb sg cc hf h1⟩
/-- What is left of them. -/
theorem PsR.filter (p : Int → Bool) : ∀ {Fs : List α} {es : List Ent} {ds : Hp}, PsR key R Fs es ds → ∃ ds', PsR key R (Fs.filter fun F => p (key F)) (es.filter fun e => p e.key) ds' ∧ ds'.Sublist ds
  | [], es, ds, h => by obtain ⟨rfl, rfl⟩ := h.nil; exact ⟨[], rfl, List.Sublist.refl _⟩
  | F :: Fs, es, ds, h => by
    obtain ⟨e, es', fb, sg, d2, rfl, hk, hv, hr0, rfl, hr⟩ := h.cons
    obtain ⟨d3, h1, h2⟩ := hr.filter p
    simp only [List.filter_cons, hk]
    by_cases hp : p (key F) = true
    · simp only [hp, if_true]
      exact ⟨sg ++ d3, ⟨hk, fb, sg, d3, hv, hr0, rfl, h1⟩, List.Sublist.append_left h2 sg⟩
    · simp only [hp, Bool.false_eq_true, if_false]
      exact ⟨d3, h1, h2.trans (List.sublist_append_right _ _)⟩
end

/-! ### Sorting by insertion -/
/-- The list with two neighbours turned. -/
def turn (l : List Int) (j : Nat) : List Int := (l.set j (l.getD (j - 1) 0)).set (j - 1) (l.getD j 0)
theorem turn_length (l : List Int) (j : Nat) : (turn l j).length = l.length := by simp [turn]
theorem turn_perm {l : List Int} {j : Nat} (h0 : 0 < j) (h : j < l.length) : (turn l j).Perm l := by
  have h1 : j - 1 < l.length := by omega
  have := List.set_set_perm (as := l) (i := j) (j := j - 1) h h1
  unfold turn
  simpa [List.getD_eq_getElem?_getD, h, h1] using this
theorem turn_get {l : List Int} {j : Nat} (h0 : 0 < j) (h : j < l.length) (q : Nat) : (turn l j).getD q 0 = if q = j - 1 then l.getD j 0 else if q = j then l.getD (j - 1) 0 else l.getD q 0 := by
  have h1 : j - 1 < l.length := by omega
  unfold turn
  simp only [List.getD_eq_getElem?_getD, List.getElem?_set, List.length_set]
  by_cases e : q = j - 1
  · subst e; simp [h1]
  · rw [if_neg (fun hh => e hh.symm), if_neg e]
    by_cases e2 : q = j
    · subst e2; simp [h]
    · rw [if_neg (fun hh => e2 hh.symm), if_neg e2]
/-- All but the one at j stand in order up to i, and it is not above those behind it. -/
structure Ins (l0 l : List Int) (i j : Nat) : Prop where
  perm : l.Perm l0
  le : j ≤ i
  lt : i < l.length
  rest : ∀ p q, p < q → q ≤ i → p ≠ j → q ≠ j → l.getD p 0 ≤ l.getD q 0
  up : ∀ q, j < q → q ≤ i → l.getD j 0 ≤ l.getD q 0
def Sorted (l : List Int) (i : Nat) : Prop := ∀ p q, p < q → q < i → l.getD p 0 ≤ l.getD q 0
theorem Ins.start {l0 l : List Int} {i : Nat} (hp : l.Perm l0) (hi : i < l.length) (h : Sorted l i) : Ins l0 l i i :=
  ⟨hp, Nat.le_refl _, hi, fun p q h1 h2 _ h4 => h p q h1 (by omega), fun q h1 h2 => by omega⟩
theorem Ins.turn {l0 l : List Int} {i j : Nat} (h : Ins l0 l i j) (h0 : 0 < j) (hlt : l.getD j 0 < l.getD (j - 1) 0) : Ins l0 (turn l j) i (j - 1) := by
  have hl := h.lt
  have hle := h.le
  have g := turn_get (l := l) h0 (by omega)
  refine ⟨(turn_perm h0 (by omega)).trans h.perm, by omega, by rw [turn_length]; exact hl, fun p q h1 h2 h3 h4 => ?_, fun q h1 h2 => ?_⟩
  · rw [g p, g q, if_neg h3, if_neg h4]
    by_cases e : q = j
    · rw [if_pos e, if_neg (by omega)]
      exact h.rest p (j - 1) (by omega) (by omega) (by omega) (by omega)
    · rw [if_neg e]
      by_cases e2 : p = j
      · rw [if_pos e2]
        exact h.rest (j - 1) q (by omega) h2 (by omega) e
      · rw [if_neg e2]
        exact h.rest p q h1 h2 e2 e
  · rw [g (j - 1), g q, if_pos rfl, if_neg (by omega)]
    by_cases e : q = j
    · rw [if_pos e]; omega
    · rw [if_neg e]; exact h.up q (by omega) h2
theorem Ins.done {l0 l : List Int} {i j : Nat} (h : Ins l0 l i j) (hd : j = 0 ∨ l.getD (j - 1) 0 ≤ l.getD j 0) : Sorted l (i + 1) := fun p q h1 h2 => by
  by_cases e : q = j
  · subst e
    rcases hd with h0 | h0
    · omega
    · by_cases e2 : p = q - 1
      · rw [e2]; exact h0
      · have := h.rest p (q - 1) (by omega) (by have := h.le; omega) (by omega) (by omega); omega
  · by_cases e2 : p = j
    · rw [e2]; exact h.up q (by omega) (by omega)
    · exact h.rest p q h1 (by omega) e2 e
theorem Sorted.pairwise {l : List Int} (h : Sorted l l.length) : l.Pairwise (· ≤ ·) := by
  rw [List.pairwise_iff_getElem]
  intro i j hi hj hij
  have := h i j hij hj
  simpa [List.getD_eq_getElem?_getD, hi, hj] using this

/-! ### Rounds over a map -/
/-- What a step over a map hands out. -/
def nxT (q : IntKind) (b : Bool) (e : Ent) : Array Value := if b then #[.bool true, .int q e.key, e.val] else #[.bool false]
theorem nxT_0 (q : IntKind) (b : Bool) (e : Ent) : (nxT q b e)[0]? = some (.bool b) := by cases b <;> rfl
section
variable {P : Program} {W0 : World} {n : Nat} {ops : Array Oper} {Q : Exit → Act → World → Prop} {kn : Kn} {H : Hp}
theorem WL.next1 {d ty pos aft} {x : Operand} {r b c i s l : Nat} {tt : TypeId} {q : IntKind} {es : List Ent} {seen : List Nat} {rest : List Oper} (hx : kop kn x = some (.pointer (some ⟨r, 0, none⟩))) (hi : H[i]? = some (r, iobj b s seen l)) (hm : (b, mobj q es c) ∈ H)
    (hd : dok n d = true) (hold : ∀ e ∈ es, e.born < s) (hsl : s ≤ l)
    (k : ∀ go e H', (go = false → H' = H ∧ ∀ e ∈ es, e.born ∈ seen) → (go = true → e ∈ es ∧ e.born ∉ seen ∧ H' = H.set i (r, iobj b s (seen ++ [e.born]) c)) → WL P W0 n ops Q (kset kn d (.tuple (nxT q go e))) H' rest) :
    WL P W0 n ops Q kn H (⟨d, .next x false, ty, pos, aft, none⟩ :: rest) :=
  WL.next (tt := tt) hx hi hm hd hold hsl (fun h => k false ⟨0, undef, 0⟩ H (fun _ => ⟨rfl, h⟩) (fun h => by cases h)) (fun e h1 h2 => k true e _ (fun h => by cases h) (fun _ => ⟨h1, h2, rfl⟩))
end
theorem cnt_lt {α : Type} {p q : α → Bool} : ∀ {l : List α}, (∀ x ∈ l, q x = true → p x = true) → (∃ x ∈ l, p x = true ∧ q x = false) → l.countP q < l.countP p
  | [], _, ⟨x, hx, _⟩ => by simp at hx
  | a :: l, h, ⟨x, hx, h1, h2⟩ => by
    have hle : l.countP q ≤ l.countP p := List.countP_mono_left (fun y hy => h y (List.mem_cons_of_mem _ hy))
    simp only [List.countP_cons]
    by_cases e : x = a
    · subst e
      simp only [h1, h2, if_true, Bool.false_eq_true, if_false]
      omega
    · have hxl : x ∈ l := by
        rcases List.mem_cons.1 hx with rfl | h'
        · exact absurd rfl e
        · exact h'
      have ih := cnt_lt (fun y hy => h y (List.mem_cons_of_mem _ hy)) ⟨x, hxl, h1, h2⟩
      have := h a (by simp)
      by_cases hq : q a = true
      · simp only [hq, this hq, if_true]; omega
      · simp only [hq, Bool.false_eq_true, if_false]
        split <;> omega
theorem map_inj {α : Type} {f : α → Nat} : ∀ {l : List α}, (l.map f).Nodup → ∀ x ∈ l, ∀ y ∈ l, f x = f y → x = y
  | [], _, x, hx, _, _, _ => by simp at hx
  | a :: l, h, x, hx, y, hy, e => by
    simp only [List.map_cons, List.nodup_cons] at h
    rcases List.mem_cons.1 hx with e1 | h1
    · rcases List.mem_cons.1 hy with e2 | h2
      · rw [e1, e2]
      · exact absurd (List.mem_map.2 ⟨y, h2, by rw [← e, e1]⟩) h.1
    · rcases List.mem_cons.1 hy with e2 | h2
      · exact absurd (List.mem_map.2 ⟨x, h1, by rw [e, e2]⟩) h.1
      · exact map_inj h.2 x h1 y h2 e
theorem nodup_of_map {α : Type} {f : α → Nat} {l : List α} (h : (l.map f).Nodup) : l.Nodup := by
  unfold List.Nodup at *
  rw [List.pairwise_map] at h
  exact h.imp (fun hh e => hh (congrArg f e))
theorem nodup_len : ∀ {l m : List Nat}, l.Nodup → (∀ x ∈ l, x ∈ m) → l.length ≤ m.length
  | [], _, _, _ => Nat.zero_le _
  | a :: l, m, h, hs => by
    simp only [List.nodup_cons] at h
    have ha := hs a (by simp)
    have ih := nodup_len (l := l) (m := m.erase a) h.2 (fun x hx => (List.mem_erase_of_ne (fun e => h.1 (by rw [← e]; exact hx))).2 (hs x (List.mem_cons_of_mem _ hx)))
    have hl := List.length_erase_of_mem ha
    have hp := List.length_pos_of_mem ha
    simp only [List.length_cons]
    omega
/-- The entries that were visited are all of them. -/
theorem vis_perm {es vis : List Ent} (hb : (es.map Ent.born).Nodup) (hv : (vis.map Ent.born).Nodup) (hsub : ∀ e ∈ vis, e ∈ es) (hall : ∀ e ∈ es, e.born ∈ vis.map Ent.born) : vis.Perm es :=
  (List.perm_ext_iff_of_nodup (nodup_of_map hv) (nodup_of_map hb)).2 (fun e => ⟨hsub e, fun he => by
    obtain ⟨v, hv1, hv2⟩ := List.mem_map.1 (hall e he)
    exact map_inj hb v (hsub v hv1) e he hv2 ▸ hv1⟩)
end Go.Sx
