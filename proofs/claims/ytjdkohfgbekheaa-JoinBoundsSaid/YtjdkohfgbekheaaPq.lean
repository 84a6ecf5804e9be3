/- Pq: walks of functions of the program, each over the rules of Sx. No conditions but those in the theorems' heads. -/
import Derived.Test.YtjdkohfgbekheaaPw
import Derived.Test.YtjdkohfgbekheaaProg
set_option linter.unusedVariables false
set_option linter.unusedSimpArgs false
namespace Go.Proofs.Ytjdkohfgbekheaa
open Go.RowKit Go.Sx
namespace Pq

end Pq
open Pq

theorem find_mem {T : Tab} {id : Int} {F : Opn} (h : T.find id = some F) : F ∈ T.fs ∧ F.id = id := by
  unfold Tab.find pFind at h
  exact ⟨List.mem_of_find?_eq_some h, by simpa using List.find?_some h⟩
theorem find_no {T : Tab} {id : Int} (h : T.find id = none) : ∀ F ∈ T.fs, F.id ≠ id := by
  unfold Tab.find pFind at h
  rw [List.find?_eq_none] at h
  intro F hF
  simpa using h F hF
theorem pSet_ids : ∀ {Fs : List Opn} {G : Opn}, (pSet Opn.id Fs G).map Opn.id = Fs.map Opn.id
  | [], _ => rfl
  | F :: Fs, G => by
    simp only [pSet]
    split
    · rename_i h; simp [h]
    · simp [pSet_ids (Fs := Fs) (G := G)]
theorem pSet_mem : ∀ {Fs : List Opn} {G x : Opn}, x ∈ pSet Opn.id Fs G → x = G ∨ (x ∈ Fs)
  | [], _, x, h => by simp [pSet] at h
  | F :: Fs, G, x, h => by
    simp only [pSet] at h
    split at h
    · rcases List.mem_cons.1 h with h | h
      · exact .inl h
      · exact .inr (List.mem_cons_of_mem _ h)
    · rcases List.mem_cons.1 h with h | h
      · exact .inr (by rw [h]; simp)
      · rcases pSet_mem h with h | h
        · exact .inl h
        · exact .inr (List.mem_cons_of_mem _ h)
theorem Wf.raise {T : Tab} (h : Wf T) (fl : Int) : Wf (T.raise fl) := by
  have hs : (T.raise fl).fs.Sublist T.fs := List.filter_sublist
  refine ⟨h.nodup.sublist (hs.map _), fun F hF => ?_, fun F hF => h.part F (hs.mem hF), Nat.le_trans hs.length_le h.len, fun F hF => h.lg F (hs.mem hF)⟩
  have h1 := h.num F (hs.mem hF)
  have h2 : fl ≤ F.id := by simpa using (List.mem_filter.1 hF).2
  exact ⟨h1.1, h1.2.1, h2⟩
theorem room_wf {T T1 : Tab} {id e : Int} (h : RoomR T id e T1) (hw : Wf T) : Wf T1 ∧ T.floor ≤ T1.floor ∧ (e = 0 → T1.fs.length < 4) ∧ (e = 0 → T.floor ≤ id → (∀ F ∈ T.fs, F.id ≠ id) → T1.floor ≤ id) ∧ ∀ F ∈ T1.fs, F ∈ T.fs := by
  cases h with
  | ok h => exact ⟨hw, Int.le_refl _, fun _ => h, fun _ h2 _ => h2, fun F hF => hF⟩
  | full m h1 h2 h3 => exact ⟨hw, Int.le_refl _, (fun h => by cases h), (fun h => by cases h), fun F hF => hF⟩
  | up m h1 h2 h3 =>
    obtain ⟨G, hG, hGe⟩ := List.mem_map.1 h2.1
    have hf := (hw.num G hG).2.2
    refine ⟨hw.raise _, by show T.floor ≤ m + 1; omega, fun _ => ?_, fun _ _ hne => ?_, fun F hF => (List.mem_filter.1 hF).1⟩
    · have hlt := cnt_lt (l := T.fs) (p := fun _ => true) (q := fun F => decide (m + 1 ≤ F.id)) (fun _ _ _ => rfl) ⟨G, hG, rfl, by simp; omega⟩
      have hl := hw.len
      have e1 : T.fs.countP (fun _ => true) = T.fs.length := List.countP_eq_length.2 (fun _ _ => rfl)
      rw [e1, List.countP_eq_length_filter] at hlt
      show (T.fs.filter fun F => decide (m + 1 ≤ F.id)).length < 4
      omega
    · have := hne G hG
      show m + 1 ≤ id
      omega
theorem base_wf {T T1 : Tab} {id n : Int} {F : Opn} (h : Base T id n T1 F) (hw : Wf T) (hfl : T.floor ≤ id) (h1 : 1 ≤ id) (h2 : id ≤ 4611686018427387903) (h3 : 1 ≤ n) (h4 : n ≤ 64) :
    Wf T1 ∧ T.floor ≤ T1.floor ∧ F ∈ T1.fs ∧ F.id = id ∧ F.n = n ∧ F.g.length = 64 := by
  cases h with
  | old _ hf hn =>
    obtain ⟨hm, hi⟩ := find_mem hf
    exact ⟨hw, Int.le_refl _, hm, hi, hn, (hw.lg F hm).1⟩
  | new T1 hf hr =>
    obtain ⟨r1, r2, r3, r4, r5⟩ := room_wf hr hw
    have hno := find_no hf
    have hno1 := find_no (room_find hr hf)
    refine ⟨⟨?_, fun F hF => ?_, fun F hF i d hi hd => ?_, ?_, fun F hF => ?_⟩, r2, by simp, rfl, rfl, by simp [Opn.new]⟩
    · simp only [List.map_append, List.map_cons, List.map_nil]
      refine List.nodup_append.2 ⟨r1.nodup, by simp, fun x hx y hy => ?_⟩
      simp only [List.mem_singleton] at hy
      obtain ⟨G, hG, rfl⟩ := List.mem_map.1 hx
      subst hy
      exact hno1 G hG
    · rcases List.mem_append.1 hF with hF | hF
      · exact r1.num F hF
      · simp only [List.mem_singleton] at hF
        subst hF
        exact ⟨h1, h2, r4 rfl hfl hno⟩
    · rcases List.mem_append.1 hF with hF | hF
      · exact r1.part F hF i d hi hd
      · simp only [List.mem_singleton] at hF
        subst hF
        simp only [Opn.new] at hd
        rw [rep_get hi] at hd
        cases hd
    · have := r3 rfl
      simp only [List.length_append, List.length_cons, List.length_nil]
      omega
    · rcases List.mem_append.1 hF with hF | hF
      · exact r1.lg F hF
      · simp only [List.mem_singleton] at hF
        subst hF
        have : (Opn.new id n).cnt = 0 := by simp [Opn.cnt, Opn.new, List.countP_replicate]
        refine ⟨by simp [Opn.new], by rw [this]; show ((0 : Nat) : Int) < n; omega, h4⟩
/-- What a part that is put leaves. -/
theorem PutR.wf {T T' : Tab} {id ix n e : Int} {d out : List Int} {is : Bool} (h : PutR T id ix n d out is e T') (hw : Wf T) : Wf T' ∧ T.floor ≤ T'.floor ∧ (is = true → e = 0 ∧ T.floor ≤ id ∧ T'.floor = id + 1) := by
  cases h with
  | form _ => exact ⟨hw, Int.le_refl _, fun h => by cases h⟩
  | old _ _ => exact ⟨hw, Int.le_refl _, fun h => by cases h⟩
  | arg F _ _ _ _ => exact ⟨hw, Int.le_refl _, fun h => by cases h⟩
  | state F _ _ _ _ _ => exact ⟨hw, Int.le_refl _, fun h => by cases h⟩
  | full m _ _ _ _ _ _ => exact ⟨hw, Int.le_refl _, fun h => by cases h⟩
  | more T1 F hk hfl hb hg hc =>
    have hk2 := hk
    unfold ptOk at hk2
    simp only [decide_eq_true_eq] at hk2
    obtain ⟨b1, b2, b3, b4, b5, b6⟩ := base_wf hb hw hfl (by omega) (by omega) (by omega) (by omega)
    have hi : ix.toNat < F.g.length := by omega
    refine ⟨⟨by show (pSet Opn.id T1.fs _).map Opn.id |>.Nodup; rw [pSet_ids]; exact b1.nodup, fun G hG => ?_, fun G hG i d' hi2 hd => ?_, ?_, fun G hG => ?_⟩, b2, fun h => by cases h⟩
    · rcases pSet_mem hG with rfl | hG
      · exact b1.num F b3
      · exact b1.num G hG
    · rcases pSet_mem hG with rfl | hG
      · simp only [Opn.set] at hd ⊢
        rw [getD_set _ _ _ _ _ hi] at hd
        split at hd
        · rename_i hei
          cases hd
          rw [b4, b5, hei, Int.toNat_of_nonneg (by omega)]
          exact hk
        · exact b1.part F b3 i d' hi2 hd
      · exact b1.part G hG i d' hi2 hd
    · have := congrArg List.length (pSet_ids (Fs := T1.fs) (G := F.set ix.toNat d))
      simp only [List.length_map] at this
      show (pSet Opn.id T1.fs _).length ≤ 4
      rw [this]; exact b1.len
    · rcases pSet_mem hG with rfl | hG
      · have := b1.lg F b3
        refine ⟨by simp [Opn.set, b6], ?_, this.2.2⟩
        rw [Opn.cnt_set hi hg, show (F.set ix.toNat d).n = F.n from rfl, b5]
        omega
      · exact b1.lg G hG
  | last T1 F hk hfl hb hg hc =>
    have hk2 := hk
    unfold ptOk at hk2
    simp only [decide_eq_true_eq] at hk2
    obtain ⟨b1, b2, b3, b4, b5, b6⟩ := base_wf hb hw hfl (by omega) (by omega) (by omega) (by omega)
    have hs : ((T1.upd (F.set ix.toNat d)).raise (id + 1)).fs.Sublist (pSet Opn.id T1.fs (F.set ix.toNat d)) := List.filter_sublist
    have hm : ∀ G ∈ ((T1.upd (F.set ix.toNat d)).raise (id + 1)).fs, G ∈ T1.fs ∧ id + 1 ≤ G.id := fun G hG => by
      have h2 : id + 1 ≤ G.id := by simpa using (List.mem_filter.1 hG).2
      rcases pSet_mem (hs.mem hG) with rfl | h
      · have : (F.set ix.toNat d).id = F.id := rfl
        omega
      · exact ⟨h, h2⟩
    refine ⟨⟨(show ((pSet Opn.id T1.fs (F.set ix.toNat d)).map Opn.id).Nodup by rw [pSet_ids]; exact b1.nodup).sublist (hs.map _), fun G hG => ?_, fun G hG => b1.part G (hm G hG).1, ?_, fun G hG => b1.lg G (hm G hG).1⟩, by show T.floor ≤ id + 1; omega, fun _ => ⟨rfl, hfl, rfl⟩⟩
    · have h1 := b1.num G (hm G hG).1
      exact ⟨h1.1, h1.2.1, (hm G hG).2⟩
    · have := congrArg List.length (pSet_ids (Fs := T1.fs) (G := F.set ix.toNat d))
      simp only [List.length_map] at this
      have h2 := hs.length_le
      have := b1.len
      omega
theorem wf_new : Wf ⟨1, []⟩ := ⟨by simp, by simp, by simp, by simp, by simp⟩

end Go.Proofs.Ytjdkohfgbekheaa
