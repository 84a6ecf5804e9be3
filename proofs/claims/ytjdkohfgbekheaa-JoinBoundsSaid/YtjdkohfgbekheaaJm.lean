/- Jm: walks of functions of the program, each over the rules of Sx. No conditions but those in the theorems' heads. -/
import Derived.Test.YtjdkohfgbekheaaJb
import Derived.Test.YtjdkohfgbekheaaProg
set_option linter.unusedVariables false
set_option linter.unusedSimpArgs false
namespace Go.Proofs.Ytjdkohfgbekheaa
open Go.RowKit Go.Sx
namespace Jm

end Jm
open Jm

/-- A table while one frame comes. -/
def mkT (id n : Int) (g : List (Option (List Int))) : Tab := ⟨1, if g.countP Option.isSome = 0 then [] else [⟨id, n, g⟩]⟩
theorem mkT_find {id n : Int} {g : List (Option (List Int))} {F : Opn} (h : (mkT id n g).find id = some F) : F = ⟨id, n, g⟩ ∧ (mkT id n g).fs = [F] := by
  unfold Tab.find pFind mkT at h
  unfold mkT
  by_cases hc : g.countP Option.isSome = 0
  · simp [hc] at h
  · simp only [hc, if_false] at h ⊢
    simp at h
    rw [← h]
    exact ⟨rfl, rfl⟩
theorem mkT_none {id n : Int} {g : List (Option (List Int))} (h : (mkT id n g).find id = none) : g.countP Option.isSome = 0 ∧ (mkT id n g).fs = [] := by
  unfold Tab.find pFind mkT at h
  unfold mkT
  by_cases hc : g.countP Option.isSome = 0
  · simp [hc]
  · simp [hc] at h
theorem mkT_len (id n : Int) (g : List (Option (List Int))) : (mkT id n g).fs.length < 4 := by
  unfold mkT
  by_cases hc : g.countP Option.isSome = 0 <;> simp [hc]
theorem base_mk {id n : Int} {g : List (Option (List Int))} {T1 : Tab} {F : Opn} (he : g.countP Option.isSome = 0 → g = List.replicate 64 none) (h : Base (mkT id n g) id n T1 F) : T1 = ⟨1, [F]⟩ ∧ F = ⟨id, n, g⟩ := by
  cases h with
  | old _ hf hn =>
    obtain ⟨h1, h2⟩ := mkT_find hf
    refine ⟨?_, h1⟩
    have : mkT id n g = ⟨(mkT id n g).floor, (mkT id n g).fs⟩ := rfl
    rw [this, h2]; rfl
  | new T1 hf hr =>
    obtain ⟨h1, h2⟩ := mkT_none hf
    have hl := mkT_len id n g
    have hT : T1 = mkT id n g := by
      cases hr with
      | ok _ => rfl
      | up m h1 _ _ => omega
    rw [hT, h2]
    exact ⟨rfl, by rw [he h1]; rfl⟩
theorem put_mk {id n e : Int} {g : List (Option (List Int))} {i : Nat} {d out : List Int} {is : Bool} {T' : Tab} (hg : g.length = 64) (hk : ptOk id i n d.length = true) (he : g.countP Option.isSome = 0 → g = List.replicate 64 none) (h : PutR (mkT id n g) id i n d out is e T') :
    ((g.getD i none).isSome = true → out = [] ∧ is = false ∧ e = 7 ∧ T' = mkT id n g) ∧
    (g.getD i none = none → ((g.countP Option.isSome : Int) + 1 < n → out = [] ∧ is = false ∧ e = 0 ∧ T' = mkT id n (g.set i (some d))) ∧ ((g.countP Option.isSome : Int) + 1 ≥ n → is = true ∧ e = 0 ∧ out = (Opn.mk id n (g.set i (some d))).cat ∧ T'.floor = id + 1 ∧ T'.fs = [])) := by
  have hk2 := hk
  unfold ptOk at hk2
  simp only [decide_eq_true_eq] at hk2
  have hfl : (mkT id n g).floor = 1 := rfl
  have hl := mkT_len id n g
  have hi : i < g.length := by omega
  cases h with
  | form h => rw [hk] at h; cases h
  | old _ h => omega
  | arg F _ _ hf hn =>
    obtain ⟨h1, _⟩ := mkT_find hf
    subst h1
    exact absurd rfl hn
  | full m _ _ _ h1 _ _ => omega
  | state F _ _ hf hn hs =>
    obtain ⟨h1, _⟩ := mkT_find hf
    subst h1
    rw [Int.toNat_natCast] at hs
    simp only at hs
    exact ⟨fun _ => ⟨rfl, rfl, rfl, rfl⟩, fun h => by rw [h] at hs; cases hs⟩
  | more T1 F _ _ hb hgi hc =>
    obtain ⟨h1, h2⟩ := base_mk he hb
    subst h1 h2
    rw [Int.toNat_natCast] at hgi ⊢
    simp only at hgi
    refine ⟨(fun h => by rw [hgi] at h; cases h), fun _ => ⟨fun _ => ⟨rfl, rfl, rfl, ?_⟩, fun hh => ?_⟩⟩
    · have := countP_set (d := d) hi hgi
      unfold mkT
      rw [this]
      simp [Tab.upd, pSet, Opn.set]
    · have : (Opn.mk id n g).cnt = g.countP Option.isSome := rfl
      omega
  | last T1 F _ _ hb hgi hc =>
    obtain ⟨h1, h2⟩ := base_mk he hb
    subst h1 h2
    rw [Int.toNat_natCast] at hgi ⊢
    simp only at hgi
    have : (Opn.mk id n g).cnt = g.countP Option.isSome := rfl
    refine ⟨(fun h => by rw [hgi] at h; cases h), fun _ => ⟨fun hh => by omega, fun _ => ⟨rfl, rfl, rfl, rfl, ?_⟩⟩⟩
    simp [Tab.raise, Tab.upd, pSet, Opn.set]
    omega
theorem mkT_new (id n : Int) : mkT id n (List.replicate 64 none) = ⟨1, []⟩ := by
  unfold mkT
  simp [List.countP_replicate]
theorem put_old {T T' : Tab} {id ix n e : Int} {d out : List Int} {is : Bool} (h : PutR T id ix n d out is e T') (hk : ptOk id ix n d.length = true) (hlt : id < T.floor) : out = [] ∧ is = false ∧ e = 23 ∧ T' = T := by
  cases h with
  | form h => rw [hk] at h; cases h
  | old _ h => exact ⟨rfl, rfl, rfl, rfl⟩
  | arg _ _ h _ _ => omega
  | state _ _ h _ _ _ => omega
  | full _ _ h _ _ _ _ => omega
  | more _ _ _ h _ _ _ => omega
  | last _ _ _ h _ _ _ => omega

end Go.Proofs.Ytjdkohfgbekheaa
