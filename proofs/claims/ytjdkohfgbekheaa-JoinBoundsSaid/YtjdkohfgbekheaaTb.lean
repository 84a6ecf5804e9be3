/- Tb: walks of functions of the program, each over the rules of Sx. No conditions but those in the theorems' heads. -/
import Derived.Test.YtjdkohfgbekheaaSxOwn
import Derived.Test.YtjdkohfgbekheaaSxArg
import Derived.Test.YtjdkohfgbekheaaProg
set_option linter.unusedVariables false
set_option linter.unusedSimpArgs false
namespace Go.Proofs.Ytjdkohfgbekheaa
open Go.RowKit Go.Sx
namespace Tb

end Tb
open Tb

/-- A frame that is not whole: its number, how many parts it has, and those that came. -/
structure Opn where
  id : Int
  n : Int
  g : List (Option (List Int))
def Opn.cnt (F : Opn) : Nat := F.g.countP Option.isSome
abbrev ptL (id ix n : Int) (a : Option Addr) (len c : Nat) : List Value := [.int .u64 id, .int .i64 ix, .int .i64 n, .slice a len c]
abbrev pt0 : List Value := ptL 0 0 0 none 0 0
abbrev ptV (id ix n : Int) (a : Option Addr) (len c : Nat) : Value := .agg ⟨ptL id ix n a len c⟩
abbrev bv (l : List Bool) : List Value := l.map Value.bool
/-- May a part be? -/
def ptOk (id ix n : Int) (len : Nat) : Bool := decide ((1 ≤ id ∧ id ≤ 4611686018427387903) ∧ (1 ≤ n ∧ n ≤ 64) ∧ (0 ≤ ix ∧ ix < n) ∧ len ≤ 480 ∧ (len = 0 → n = 1) ∧ (len ≠ 0 → len = 480 ∨ ix = n - 1))
def opnL (F : Opn) (C : List (List Value)) : List Value := .int .i64 F.n :: (bv (F.g.map Option.isSome) ++ (C.flatten ++ [.int .i64 (F.n - (F.cnt : Int))]))
/-- What stands in the cells of the parts, and where their bytes lie. -/
structure CR (F : Opn) (C : List (List Value)) (S : List Hp) : Prop where
  lg : F.g.length = 64
  lc : C.length = 64
  ls : S.length = 64
  off : ∀ i, i < 64 → F.g.getD i none = none → C.getD i [] = pt0 ∧ S.getD i [] = []
  on : ∀ i d, i < 64 → F.g.getD i none = some d → ∃ a k, C.getD i [] = ptL F.id i F.n a d.length k ∧ d.length ≤ 480 ∧ ∀ W R, Sl W (S.getD i [] ++ R) a (iv .u8 d)
def OR (F : Opn) (ob : Nat) (sg : Hp) : Prop := ∃ C S, sg = (ob, cl (opnL F C) 61) :: S.flatten ∧ CR F C S
structure Tab where
  floor : Int
  fs : List Opn
abbrev tabO (fl : Int) (mb : Nat) : Obj := cl [.int .u64 fl, .map (some mb)] 52
def TR (T : Tab) (g : Nat) (ds : Hp) : Prop := ∃ mb es c d2, ds = (g, tabO T.floor mb) :: (mb, mobj .u64 es c) :: d2 ∧ Mok es c ∧ PsR Opn.id OR T.fs es d2

/-! ### Lists of lists -/
theorem splF {sz : Nat} : ∀ {C : List (List Value)} {i : Nat} {v : List Value}, (∀ c ∈ C, c.length = sz) → v.length = sz → i < C.length → spl C.flatten (sz * i) v = (C.set i v).flatten
  | [], i, v, _, _, hi => by simp at hi
  | c :: C, 0, v, hc, hv, _ => by
    simp only [List.flatten_cons, Nat.mul_zero, List.set_cons_zero]
    exact spl_pre c C.flatten v (by rw [hv, hc c (by simp)])
  | c :: C, i + 1, v, hc, hv, hi => by
    have hcl := hc c (by simp)
    have hfl : C.flatten.length = C.length * sz := len_flat (fun x hx => hc x (by simp [hx]))
    have hb : sz * i + sz ≤ C.flatten.length := by
      rw [hfl, ← Nat.mul_succ, Nat.mul_comm]
      exact Nat.mul_le_mul_right _ (by simp at hi; omega)
    rw [List.flatten_cons, List.set_cons_succ, List.flatten_cons, show sz * (i + 1) = sz + sz * i by rw [Nat.mul_succ, Nat.add_comm]]
    rw [spl_post c C.flatten sz (sz * i) v hcl (by omega), splF (fun x hx => hc x (by simp [hx])) hv (by simpa using hi)]
theorem setF_perm : ∀ {S : List Hp} {i : Nat} (s : Hp), S.getD i [] = [] → i < S.length → (S.set i s).flatten.Perm (s ++ S.flatten)
  | [], i, s, _, hi => by simp at hi
  | t :: S, 0, s, h, _ => by
    simp only [List.getD_cons_zero] at h
    subst h
    simp
  | t :: S, i + 1, s, h, hi => by
    have := setF_perm (S := S) (i := i) s (by simpa using h) (by simpa using hi)
    simp only [List.set_cons_succ, List.flatten_cons]
    exact (List.Perm.append_left t this).trans (List.perm_append_comm_assoc t s _)
theorem getD_set {α : Type} (l : List α) (i j : Nat) (v d : α) (hi : i < l.length) : (l.set i v).getD j d = if j = i then v else l.getD j d := by
  simp only [List.getD_eq_getElem?_getD, List.getElem?_set]
  by_cases e : i = j
  · subst e; simp [hi]
  · rw [if_neg e, if_neg (fun h => e h.symm)]
theorem CR.cells {F : Opn} {C : List (List Value)} {S : List Hp} (h : CR F C S) : ∀ c ∈ C, c.length = 4 := fun c hc => by
  obtain ⟨i, hi, rfl⟩ := List.mem_iff_getElem.1 hc
  have h64 : i < 64 := by rw [← h.lc]; exact hi
  have e : C.getD i [] = C[i] := by rw [List.getD_eq_getElem?_getD, List.getElem?_eq_getElem hi]; rfl
  cases hg : F.g.getD i none with
  | none => rw [← e, (h.off i h64 hg).1]; rfl
  | some d =>
    obtain ⟨a, k, hh, _⟩ := h.on i d h64 hg
    rw [← e, hh]; rfl
def Opn.set (F : Opn) (i : Nat) (d : List Int) : Opn := { F with g := F.g.set i (some d) }
theorem CR.set {F : Opn} {C : List (List Value)} {S : List Hp} (h : CR F C S) {i : Nat} (hi : i < 64) {d : List Int} {a : Option Addr} {k : Nat} {s : Hp} (hd : d.length ≤ 480) (hs : ∀ W R, Sl W (s ++ R) a (iv .u8 d)) :
    CR (F.set i d) (C.set i (ptL F.id i F.n a d.length k)) (S.set i s) := by
  refine ⟨by simp [Opn.set, h.lg], by simp [h.lc], by simp [h.ls], fun j hj hn => ?_, fun j e hj hn => ?_⟩
  · simp only [Opn.set] at hn
    rw [getD_set _ _ _ _ _ (by rw [h.lg]; exact hi)] at hn
    rw [getD_set _ _ _ _ _ (by rw [h.lc]; exact hi), getD_set _ _ _ _ _ (by rw [h.ls]; exact hi)]
    by_cases e : j = i
    · rw [if_pos e] at hn; cases hn
    · rw [if_neg e] at hn
      rw [if_neg e, if_neg e]
      exact h.off j hj hn
  · simp only [Opn.set] at hn
    rw [getD_set _ _ _ _ _ (by rw [h.lg]; exact hi)] at hn
    rw [getD_set _ _ _ _ _ (by rw [h.lc]; exact hi), getD_set _ _ _ _ _ (by rw [h.ls]; exact hi)]
    by_cases q : j = i
    · rw [if_pos q] at hn
      cases hn
      rw [if_pos q, if_pos q, q]
      exact ⟨a, k, rfl, hd, hs⟩
    · rw [if_neg q] at hn
      rw [if_neg q, if_neg q]
      exact h.on j e hj hn
theorem countP_set {l : List (Option (List Int))} {i : Nat} {d : List Int} (hi : i < l.length) (hn : l.getD i none = none) : (l.set i (some d)).countP Option.isSome = l.countP Option.isSome + 1 := by
  induction l generalizing i with
  | nil => simp at hi
  | cons x l ih =>
    cases i with
    | zero =>
      simp only [List.getD_cons_zero] at hn
      subst hn
      simp
    | succ i =>
      have := ih (i := i) (by simpa using hi) (by simpa using hn)
      simp only [List.set_cons_succ, List.countP_cons, this]
      omega
theorem Opn.cnt_set {F : Opn} {i : Nat} {d : List Int} (hi : i < F.g.length) (hn : F.g.getD i none = none) : (F.set i d).cnt = F.cnt + 1 := countP_set hi hn
theorem map_set_some (l : List (Option (List Int))) (i : Nat) (d : List Int) : (l.set i (some d)).map Option.isSome = (l.map Option.isSome).set i true := by
  simp [List.map_set]
/-! ### The three stores of a part that is put -/
theorem opn_came {F : Opn} {C : List (List Value)} {i : Nat} (hg : F.g.length = 64) (hi : i < 64) : spl (opnL F C) (1 + i) [.bool true] = .int .i64 F.n :: (bv ((F.g.map Option.isSome).set i true) ++ (C.flatten ++ [.int .i64 (F.n - (F.cnt : Int))])) := by
  unfold opnL
  show (_ :: _).set (1 + i) _ = _
  rw [Nat.add_comm, List.set_cons_succ, List.set_append_left _ _ (by simp [hg]; exact hi)]
  simp [bv, List.map_set]
end Go.Proofs.Ytjdkohfgbekheaa
