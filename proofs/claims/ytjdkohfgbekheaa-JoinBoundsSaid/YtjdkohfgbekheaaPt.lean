/- Pt: walks of functions of the program, each over the rules of Sx. No conditions but those in the theorems' heads. -/
import Derived.Test.YtjdkohfgbekheaaPu
import Derived.Test.YtjdkohfgbekheaaProg
set_option linter.unusedVariables false
set_option linter.unusedSimpArgs false
namespace Go.Proofs.Ytjdkohfgbekheaa
open Go.RowKit Go.Sx
namespace Pt

end Pt
open Pt

def opnX (n : Int) (came : List Bool) (C : List (List Value)) (left : Int) : List Value := .int .i64 n :: (bv came ++ (C.flatten ++ [.int .i64 left]))
section
variable {n left x : Int} {came : List Bool} {C : List (List Value)} {i : Nat} {v : List Value}
theorem flat_len (h4 : ∀ c ∈ C, c.length = 4) (hC : C.length = 64) : C.flatten.length = 256 := by
  rw [len_flat h4, hC]
theorem opnX_len (hc : came.length = 64) (hC : C.length = 64) (h4 : ∀ c ∈ C, c.length = 4) : (opnX n came C left).length = 322 := by
  have := flat_len h4 hC
  simp only [opnX, bv, List.length_cons, List.length_append, List.length_map, List.length_nil]
  omega
theorem opnX_came (hc : came.length = 64) (hi : i < 64) : spl (opnX n came C left) (0 + 1 + ((i : Nat) : Int).toNat * 1) [.bool true] = opnX n (came.set i true) C left := by
  rw [show 0 + 1 + ((i : Nat) : Int).toNat * 1 = i + 1 by omega]
  show (_ :: _).set (i + 1) _ = _
  unfold opnX
  rw [List.set_cons_succ, List.set_append_left _ _ (by simp; omega)]
  simp [bv, List.map_set]
theorem opnX_part (hC : C.length = 64) (h4 : ∀ c ∈ C, c.length = 4) (hi : i < 64) (hv : v.length = 4) (hc : came.length = 64) : spl (opnX n came C left) (0 + 65 + ((i : Nat) : Int).toNat * 4) v = opnX n came (C.set i v) left := by
  have hf := flat_len h4 hC
  rw [show 0 + 65 + ((i : Nat) : Int).toNat * 4 = 65 + 4 * i by omega]
  have h1 : opnX n came C left = (.int .i64 n :: bv came) ++ (C.flatten ++ [.int .i64 left]) := rfl
  rw [h1, spl_post _ _ 65 (4 * i) v (by simp [hc]) (by simp only [List.length_append, List.length_cons, List.length_nil]; omega)]
  have h2 : spl (C.flatten ++ [Value.int .i64 left]) (4 * i) v = spl C.flatten (4 * i) v ++ [.int .i64 left] := by
    rw [spl_eq _ _ _ (by simp only [List.length_append, List.length_cons, List.length_nil]; omega), spl_eq _ _ _ (by omega)]
    rw [List.take_append_of_le_length (by omega), List.drop_append_of_le_length (by omega)]
    simp
  rw [h2, splF h4 hv (by omega)]
  rfl
theorem opnX_end (hc : came.length = 64) (hC : C.length = 64) (h4 : ∀ c ∈ C, c.length = 4) : spl (opnX n came C left) (0 + 321) [.int .i64 x] = opnX n came C x := by
  have hf := flat_len h4 hC
  have h1 : ∀ y, opnX n came C y = (.int .i64 n :: (bv came ++ C.flatten)) ++ [.int .i64 y] := fun y => by simp [opnX]
  rw [h1, h1, show 0 + 321 = 321 + 0 by omega, spl_post _ _ 321 0 _ (by simp [hc, hf]) (by simp)]
  rfl
theorem opnX_left (hc : came.length = 64) (hC : C.length = 64) (h4 : ∀ c ∈ C, c.length = 4) : (opnX n came C left)[0 + 321]? = some (.int .i64 left) := by
  have hf := flat_len h4 hC
  have h1 : opnX n came C left = (.int .i64 n :: (bv came ++ C.flatten)) ++ [.int .i64 left] := by simp [opnX]
  rw [h1, List.getElem?_append_right (by simp [hc, hf])]
  simp [hc, hf]
theorem opnX_is (hc : came.length = 64) (hi : i < 64) : (opnX n came C left)[0 + 1 + ((i : Nat) : Int).toNat * 1]? = some (.bool (came.getD i false)) := by
  rw [show 0 + 1 + ((i : Nat) : Int).toNat * 1 = i + 1 by omega]
  unfold opnX
  rw [List.getElem?_cons_succ, List.getElem?_append_left (by simp; omega)]
  simp [bv, List.getD_eq_getElem?_getD, hc, hi]
theorem opnX_take (hc : came.length = 64) (k : Nat) : ∀ j y, (C.take k).flatten[j]? = some y → (opnX n came C left)[65 + j]? = some y := fun j y h => by
  have h1 : opnX n came C left = (.int .i64 n :: bv came) ++ ((C.take k).flatten ++ ((C.drop k).flatten ++ [.int .i64 left])) := by
    rw [← List.append_assoc (C.take k).flatten, ← List.flatten_append, List.take_append_drop]
    rfl
  rw [h1, List.getElem?_append_right (by simp [hc]), show 65 + j - (Value.int .i64 n :: bv came).length = j by simp [hc]]
  have hj : j < (C.take k).flatten.length := by
    rcases Nat.lt_or_ge j (C.take k).flatten.length with q | q
    · exact q
    · rw [List.getElem?_eq_none q] at h; cases h
  rw [List.getElem?_append_left hj]; exact h
end
theorem opnL_X (F : Opn) (C : List (List Value)) : opnL F C = opnX F.n (F.g.map Option.isSome) C (F.n - (F.cnt : Int)) := rfl
theorem opn_set {F : Opn} {C : List (List Value)} {i : Nat} {d : List Int} (hi : i < F.g.length) (hn : F.g.getD i none = none) : opnX F.n ((F.g.map Option.isSome).set i true) C (F.n - (F.cnt : Int) - 1) = opnL (F.set i d) C := by
  rw [opnL_X]
  have h1 := Opn.cnt_set (d := d) hi hn
  rw [h1, show (F.set i d).g.map Option.isSome = (F.g.map Option.isSome).set i true from map_set_some _ _ _, show (F.set i d).n = F.n from rfl]
  congr 1
  omega
theorem new_opn (id n : Int) : opnL (Opn.new id n) (List.replicate 64 pt0) = opnX n (List.replicate 64 false) (List.replicate 64 pt0) n := by
  rw [opnL_X]
  have : (Opn.new id n).cnt = 0 := by simp [Opn.cnt, Opn.new, List.countP_replicate]
  rw [this]
  simp [Opn.new]
theorem rep_get {α : Type} {n i : Nat} {x d : α} (h : i < n) : (List.replicate n x).getD i d = x := by
  rw [List.getD_eq_getElem?_getD, List.getElem?_replicate, if_pos h]; rfl
theorem new_cr (id n : Int) : CR (Opn.new id n) (List.replicate 64 pt0) (List.replicate 64 []) := by
  refine ⟨by simp [Opn.new], by simp, by simp, fun i hi _ => ?_, fun i d hi h => ?_⟩
  · exact ⟨rep_get hi, rep_get hi⟩
  · simp only [Opn.new] at h
    rw [rep_get hi] at h
    cases h
theorem rep_flat : (List.replicate 64 ([] : Hp)).flatten = [] := by simp
/-- What a look at a frame's number finds. -/
theorem look_ptr {Fs : List Opn} {es : List Ent} {ds : Hp} (h : PsR Opn.id OR Fs es ds) (id : Int) : ∃ p : Option Addr, (mlook es id).getD (.pointer none) = .pointer p ∧ (p = none → pFind Opn.id Fs id = none) ∧
    (∀ q, p = some q → ∃ ob F d1 C S d2, q = ⟨ob, 0, none⟩ ∧ pFind Opn.id Fs id = some F ∧ F.id = id ∧ CR F C S ∧ ds = d1 ++ (((ob, cl (opnL F C) 61) :: S.flatten) ++ d2) ∧ ∀ G sg', G.id = id → OR G ob sg' → PsR Opn.id OR (pSet Opn.id Fs G) es (d1 ++ (sg' ++ d2))) := by
  cases hf : pFind Opn.id Fs id with
  | none => exact ⟨none, by rw [h.look0 id hf]; rfl, fun _ => rfl, (fun q hq => by cases hq)⟩
  | some F =>
    obtain ⟨ob, d1, sg, d2, h1, h2, ⟨C, S, rfl, hcr⟩, rfl, h5⟩ := h.look1 id F hf
    refine ⟨some ⟨ob, 0, none⟩, by rw [h2]; rfl, (fun hh => by cases hh), fun q hq => ?_⟩
    cases hq
    exact ⟨ob, F, d1, C, S, d2, rfl, rfl, h1, hcr, rfl, h5⟩
/-- Whose part it is: a frame that is there, or a new one. -/
inductive Base (T : Tab) (id n : Int) : Tab → Opn → Prop
  | old (F : Opn) : T.find id = some F → F.n = n → Base T id n T F
  | new (T1 : Tab) : T.find id = none → RoomR T id 0 T1 → Base T id n { T1 with fs := T1.fs ++ [Opn.new id n] } (Opn.new id n)
/-- The bytes of all parts. -/
def Opn.cat (F : Opn) : List Int := (List.range F.n.toNat).flatMap fun j => (F.g.getD j none).getD []
/-- What comes of a part that is put. -/
inductive PutR (T : Tab) (id ix n : Int) (d : List Int) : List Int → Bool → Int → Tab → Prop
  | form : ptOk id ix n d.length = false → PutR T id ix n d [] false 3 T
  | old : ptOk id ix n d.length = true → id < T.floor → PutR T id ix n d [] false 23 T
  | arg (F : Opn) : ptOk id ix n d.length = true → T.floor ≤ id → T.find id = some F → F.n ≠ n → PutR T id ix n d [] false 1 T
  | state (F : Opn) : ptOk id ix n d.length = true → T.floor ≤ id → T.find id = some F → F.n = n → (F.g.getD ix.toNat none).isSome = true → PutR T id ix n d [] false 7 T
  | full (m : Int) : ptOk id ix n d.length = true → T.floor ≤ id → T.find id = none → 4 ≤ T.fs.length → Least T m → id < m → PutR T id ix n d [] false 5 T
  | more (T1 : Tab) (F : Opn) : ptOk id ix n d.length = true → T.floor ≤ id → Base T id n T1 F → F.g.getD ix.toNat none = none → (F.cnt : Int) + 1 < n → PutR T id ix n d [] false 0 (T1.upd (F.set ix.toNat d))
  | last (T1 : Tab) (F : Opn) : ptOk id ix n d.length = true → T.floor ≤ id → Base T id n T1 F → F.g.getD ix.toNat none = none → (F.cnt : Int) + 1 = n → PutR T id ix n d (F.set ix.toNat d).cat true 0 ((T1.upd (F.set ix.toNat d)).raise (id + 1))
/-- A table as calls leave it. -/
structure Wf (T : Tab) : Prop where
  nodup : (T.fs.map Opn.id).Nodup
  num : ∀ F ∈ T.fs, 1 ≤ F.id ∧ F.id ≤ 4611686018427387903 ∧ T.floor ≤ F.id
  part : ∀ F ∈ T.fs, ∀ i d, i < 64 → F.g.getD i none = some d → ptOk F.id i F.n d.length = true
  len : T.fs.length ≤ 4
  lg : ∀ F ∈ T.fs, F.g.length = 64 ∧ (F.cnt : Int) < F.n ∧ F.n ≤ 64

end Go.Proofs.Ytjdkohfgbekheaa
