/- What arguments are, as lists of cells; and that they read behind a call as before. No conditions. -/
import Derived.Test.YtjdkohfgbekheaaSxStr
import Derived.ProofKit
import Derived.Carry
import Derived.OpenShut
import Derived.Deep.Slices
import Derived.ChangeCalls
namespace Go.Sx
open Go Go.RowKit Go.ChangeShapes Go.WideShapes Go.ChangeMaps

/-- The cells of a value of a type, as far as the claims of this place ask. -/
def WT (P : Program) (W : World) : Nat → TypeId → List Value → Prop
  | 0, _, _ => True
  | d + 1, t, cs => match P.underlying t with
    | some (.int k) => ∃ x, cs = [.int k x] ∧ (Lit.int k x).wf = true
    | some .bool => ∃ b, cs = [.bool b]
    | some .string => ∃ s : ByteArray, cs = [.string s] ∧ s.size ≤ maxLen
    | some (.slice e) => ∃ a len cap, cs = [.slice a len cap] ∧ len ≤ cap ∧ cap ≤ maxLen ∧ (a = none → len = 0 ∧ cap = 0) ∧
        ∀ i, i < len → ∃ vs, vs.length = P.cellsOf e ∧ WT P W d e vs ∧ ∀ j v, vs[j]? = some v → W.cell? ((a.getD ⟨0, 0, none⟩).add (i * P.cellsOf e + j)) = some v
    | some (.struct fs) => cs.length = P.cellsOf t ∧ ∀ (j : Nat) (f : Field), fs[j]? = some f → WT P W d f.type ((cs.drop f.offset).take (P.cellsOf f.type))
    | some (.array n e) => cs.length = P.cellsOf t ∧ ∀ i, i < n → WT P W d e ((cs.drop (i * P.cellsOf e)).take (P.cellsOf e))
    | _ => True

theorem trod_WT {H : Type} {enc : TypeId × Value → H} {P : Program} {W : World} {base : Nat} {spare : Nat → Bool} {held : Bool} : ∀ (d : Nat) {t : TypeId} {fuel : Nat} {cs : List Value} {x : DataW H × List MemPlace},
    DataW.trod enc P W base spare held fuel t cs = some x → WT P W d t cs
  | 0, _, _, _, _, _ => trivial
  | d + 1, t, fuel, cs, x, h => by
    unfold WT
    split
    · rename_i k hu
      obtain ⟨n, h1, _, h2⟩ := DataW.trod_int hu h
      exact ⟨n, h1, h2⟩
    · rename_i hu
      obtain ⟨b, h1, _⟩ := DataW.trod_bool hu h
      exact ⟨b, h1⟩
    · rename_i hu
      obtain ⟨s, h1, _, h2⟩ := DataW.trod_string hu h
      exact ⟨s, h1, h2⟩
    · rename_i e hu
      rcases Go.Deep.open_slice hu h with ⟨rfl, _⟩ | ⟨a, len, cap, m, n, D, Pl, rfl, _, hl, hm, hmm, _, hi⟩
      · exact ⟨none, 0, 0, rfl, Nat.le_refl _, by simp [maxLen], fun _ => ⟨rfl, rfl⟩, fun i hi => by omega⟩
      · refine ⟨some a, len, cap, rfl, hl, hm, (fun h => by cases h), fun i hil => ?_⟩
        have him : i < m := by rw [hmm]; split <;> omega
        obtain ⟨cs', hc, ht⟩ := hi i him
        obtain ⟨_, hlen, hcell⟩ := World.cells?_some hc
        refine ⟨cs', hlen, trod_WT d ht, fun j v hj => ?_⟩
        have hjl : j < P.cellsOf e := by
          rcases Nat.lt_or_ge j cs'.length with q | q
          · omega
          · rw [List.getElem?_eq_none q] at hj; cases hj
        show W.cell? (a.add (i * P.cellsOf e + j)) = _
        rw [← Go.Deep.add_add, hcell j hjl]
        exact hj
    · rename_i fs hu
      obtain ⟨xs, n, _, _, hlen, hxl, hf⟩ := DataW.trod_struct hu h
      refine ⟨hlen, fun j f hj => ?_⟩
      have hjl : j < fs.size := (Array.getElem?_eq_some_iff.1 hj).1
      have := hf j f hj
      rw [List.getElem?_eq_getElem (show j < xs.length by omega)] at this
      exact trod_WT d this
    · rename_i n e hu
      obtain ⟨xs, m, _, _, hlen, hxl, hf⟩ := DataW.trod_array hu h
      refine ⟨hlen, fun i hi => ?_⟩
      have := hf i hi
      rw [List.getElem?_eq_getElem (show i < xs.length by omega)] at this
      exact trod_WT d this
    · trivial

/-- An argument. -/
def WV (P : Program) (W : World) (t : TypeId) (v : Value) : Prop := WT P W 9 t v.cells.toList ∧ ∃ r b, Value.okWide P W r b t v
def WVs (P : Program) (W : World) : List TypeId → List Value → Prop
  | [], [] => True
  | t :: ts, v :: vs => WV P W t v ∧ WVs P W ts vs
  | _, _ => False

section
variable {H : Type} {enc : TypeId × Value → H} {P : Program} {W : World}
theorem wvs_of {base : Nat} {spare : Nat → Bool} {held : Bool} {r : Reach} {b : Nat} : ∀ {ts : List TypeId} {vs : List Value} {ds : List (DataW H)} {p : List MemPlace}, DataW.TrodAll enc P W base spare held ts vs ds p →
    (∀ (j : Nat) t v, ts[j]? = some t → vs[j]? = some v → Value.okWide P W r b t v) → WVs P W ts vs
  | [], [], _, _, _, _ => trivial
  | t :: ts, v :: vs, d :: ds, _, ⟨p, q, ⟨fuel, h1⟩, h2, _⟩, hv => ⟨⟨trod_WT 9 h1, r, b, hv 0 t v rfl rfl⟩, wvs_of h2 (fun j t v a c => hv (j + 1) t v (by simpa using a) (by simpa using c))⟩
  | [], _ :: _, _, _, h, _ => by simp [DataW.TrodAll] at h
  | _ :: _, [], _, _, h, _ => by simp [DataW.TrodAll] at h
  | _ :: _, _ :: _, [], _, h, _ => by simp [DataW.TrodAll] at h
theorem trodAll_below (hl : laidOutB P = true) {W' : World} (hb : Below W.heap.size W W') : ∀ {ts : List TypeId} {vs : List Value} {ds : List (DataW H)} {p : List MemPlace}, (ts.all fun t => P.readableRec t && decide (t < P.types.size)) = true → DataW.TrodAll enc P W 0 (fun _ => true) true ts vs ds p →
    (∀ x ∈ p, x.block < W.heap.size) → DataW.TrodAll enc P W' 0 (fun b => decide (b < W.heap.size)) true ts vs ds p
  | [], [], [], _, _, h, _ => h
  | t :: ts, v :: vs, d :: ds, _, hr, ⟨p, q, h1, h2, rfl⟩, hlt => by
    simp only [List.all_cons, Bool.and_eq_true, decide_eq_true_eq] at hr
    exact ⟨p, q, Below.trod hl hr.1.1 hr.1.2 h1 hb (fun x hx => hlt x (List.mem_append.2 (.inl hx))), trodAll_below hl hb (by simpa using hr.2) h2 (fun x hx => hlt x (List.mem_append.2 (.inr hx))), rfl⟩
  | [], _ :: _, _, _, _, h, _ => by simp [DataW.TrodAll] at h
  | _ :: _, [], _, _, _, h, _ => by simp [DataW.TrodAll] at h
  | _ :: _, _ :: _, [], _, _, h, _ => by simp [DataW.TrodAll] at h
  | [], [], _ :: _, _, _, h, _ => by simp [DataW.TrodAll] at h

/-! ### Arguments by kind -/
theorem WV.int {t : TypeId} {k : IntKind} {v : Value} (ht : P.underlying t = some (.int k)) (h : WV P W t v) : ∃ x, v = .int k x ∧ (Lit.int k x).wf = true := by
  obtain ⟨h1, r, b, h2⟩ := h
  obtain ⟨x, rfl⟩ := okWide_int ht h2
  unfold WT at h1
  rw [ht] at h1
  obtain ⟨y, e, hw⟩ := h1
  simp [Value.cells] at e
  subst e
  exact ⟨x, rfl, hw⟩
theorem WV.str {t : TypeId} {v : Value} (ht : P.underlying t = some .string) (h : WV P W t v) : ∃ s : ByteArray, v = .string s ∧ s.size ≤ maxLen := by
  obtain ⟨h1, r, b, h2⟩ := h
  obtain ⟨x, rfl⟩ := okWide_string ht h2
  unfold WT at h1
  rw [ht] at h1
  obtain ⟨y, e, hw⟩ := h1
  simp [Value.cells] at e
  subst e
  exact ⟨x, rfl, hw⟩
theorem WV.bool {t : TypeId} {v : Value} (ht : P.underlying t = some .bool) (h : WV P W t v) : ∃ x, v = .bool x := by
  obtain ⟨h1, r, b, h2⟩ := h
  exact okWide_bool ht h2
theorem WV.slice {t e : TypeId} {v : Value} (ht : P.underlying t = some (.slice e)) (h : WV P W t v) : ∃ a len cap, v = .slice a len cap ∧ WT P W 9 t [.slice a len cap] := by
  obtain ⟨h1, r, b, h2⟩ := h
  obtain ⟨a, len, cap, rfl⟩ := okWide_slice ht h2
  exact ⟨a, len, cap, rfl, h1⟩
theorem WV.agg {t : TypeId} {fs : Array Field} {v : Value} (ht : P.underlying t = some (.struct fs)) (h : WV P W t v) : ∃ cs, v = .agg ⟨cs⟩ ∧ WT P W 9 t cs := by
  obtain ⟨h1, r, b, h2⟩ := h
  obtain ⟨cs, rfl, _⟩ := okWide_struct ht h2
  exact ⟨cs.toList, rfl, h1⟩

/-! ### Slices as lists of elements -/
theorem choice_list {α : Type} {n : Nat} {Q : Nat → α → Prop} (h : ∀ i, i < n → ∃ x, Q i x) : ∃ l : List α, l.length = n ∧ ∀ i x, l[i]? = some x → Q i x := by
  induction n with
  | zero => exact ⟨[], rfl, fun i x h => by simp at h⟩
  | succ n ih =>
    obtain ⟨l, h1, h2⟩ := ih (fun i hi => h i (by omega))
    obtain ⟨x, hx⟩ := h n (by omega)
    refine ⟨l ++ [x], by simp [h1], fun i y hy => ?_⟩
    rcases Nat.lt_or_ge i n with hi | hi
    · rw [List.getElem?_append_left (by omega)] at hy; exact h2 i y hy
    · rw [List.getElem?_append_right (by omega)] at hy
      have hi0 : i = n := by
        rcases Nat.lt_or_ge n i with q | q
        · rw [List.getElem?_eq_none (by simp; omega)] at hy; cases hy
        · omega
      subst hi0
      simp [h1] at hy
      subst hy; exact hx
theorem flat_get {sz : Nat} : ∀ {ls : List (List Value)}, (∀ vs ∈ ls, vs.length = sz) → ∀ (i : Nat) (vs : List Value), ls[i]? = some vs → ∀ j v, vs[j]? = some v → ls.flatten[i * sz + j]? = some v
  | [], _, i, vs, h, _, _, _ => by simp at h
  | us :: ls, hl, 0, vs, h, j, v, hv => by
    simp only [List.getElem?_cons_zero, Option.some.injEq] at h
    subst h
    have hj : j < us.length := by
      rcases Nat.lt_or_ge j us.length with q | q
      · exact q
      · rw [List.getElem?_eq_none q] at hv; cases hv
    rw [List.flatten_cons, Nat.zero_mul, Nat.zero_add, List.getElem?_append_left hj]; exact hv
  | us :: ls, hl, i + 1, vs, h, j, v, hv => by
    have ih := flat_get (fun vs hv => hl vs (List.mem_cons_of_mem _ hv)) i vs (by simpa using h) j v hv
    have hu := hl us (by simp)
    rw [List.flatten_cons, List.getElem?_append_right (by rw [hu, Nat.add_mul]; omega), hu, show (i + 1) * sz + j - sz = i * sz + j by rw [Nat.add_mul]; omega]
    exact ih
theorem get_flat {sz : Nat} (h0 : 0 < sz) : ∀ {ls : List (List Value)}, (∀ vs ∈ ls, vs.length = sz) → ∀ (k : Nat) (v : Value), ls.flatten[k]? = some v → ∃ vs, ls[k / sz]? = some vs ∧ vs[k % sz]? = some v
  | [], _, k, v, h => by simp at h
  | us :: ls, hl, k, v, h => by
    have hu := hl us (by simp)
    rw [List.flatten_cons] at h
    rcases Nat.lt_or_ge k sz with q | q
    · rw [List.getElem?_append_left (by omega)] at h
      exact ⟨us, by rw [Nat.div_eq_of_lt q]; rfl, by rw [Nat.mod_eq_of_lt q]; exact h⟩
    · rw [List.getElem?_append_right (by omega), hu] at h
      obtain ⟨vs, h1, h2⟩ := get_flat h0 (fun vs hv => hl vs (List.mem_cons_of_mem _ hv)) (k - sz) v h
      refine ⟨vs, ?_, ?_⟩
      · rw [show k / sz = (k - sz) / sz + 1 from by rw [Nat.div_eq_sub_div h0 q]]
        simpa using h1
      · rw [Nat.mod_eq_sub_mod q]; exact h2
theorem len_flat {sz : Nat} : ∀ {ls : List (List Value)}, (∀ vs ∈ ls, vs.length = sz) → ls.flatten.length = ls.length * sz
  | [], _ => by simp
  | us :: ls, hl => by
    rw [List.flatten_cons, List.length_append, hl us (by simp), len_flat (fun vs hv => hl vs (List.mem_cons_of_mem _ hv)), List.length_cons, Nat.add_mul, Nat.one_mul, Nat.add_comm]

/-- What a slice of a type reads as: its elements' cells, one behind another. -/
theorem WT.elems {d : Nat} {t e : TypeId} {a : Option Addr} {len cap : Nat} (ht : P.underlying t = some (.slice e)) (h : WT P W (d + 1) t [.slice a len cap]) (h0 : 0 < P.cellsOf e) :
    len ≤ cap ∧ cap ≤ maxLen ∧ ∃ ls : List (List Value), ls.length = len ∧ (∀ vs ∈ ls, vs.length = P.cellsOf e ∧ WT P W d e vs) ∧ ∀ R, Sl W R a ls.flatten := by
  unfold WT at h
  rw [ht] at h
  obtain ⟨a', len', cap', he, hl, hm, hn, hi⟩ := h
  simp only [List.cons.injEq, Value.slice.injEq, and_true] at he
  obtain ⟨rfl, rfl, rfl⟩ := he
  obtain ⟨ls, h1, h2⟩ := choice_list hi
  have h3 : ∀ vs ∈ ls, vs.length = P.cellsOf e := fun vs hv => by
    obtain ⟨i, hi⟩ := List.mem_iff_getElem?.1 hv
    exact (h2 i vs hi).1
  refine ⟨hl, hm, ls, h1, fun vs hv => ?_, fun R => ⟨fun hq => ?_, fun hne p hp => ?_, fun k v hk => ?_⟩⟩
  · obtain ⟨i, hi⟩ := List.mem_iff_getElem?.1 hv
    exact ⟨(h2 i vs hi).1, (h2 i vs hi).2.1⟩
  · have := (hn hq).1
    have : ls = [] := List.eq_nil_of_length_eq_zero (by omega)
    rw [this]; rfl
  · subst hp
    cases ls with
    | nil => simp at hne
    | cons us ls =>
      have hus := h3 us (by simp)
      cases us with
      | nil => simp at hus; omega
      | cons u us =>
        have := (h2 0 (u :: us) rfl).2.2 0 u rfl
        simp only [Option.getD_some, Nat.zero_mul, Nat.zero_add] at this
        have e : p.add 0 = p := by simp [Addr.add]
        rw [e] at this
        unfold World.cell? at this
        split at this
        · by_cases hs : p.spot.isSome = true
          · rw [if_pos hs] at this; cases this
          · simpa using hs
        · cases this
  · obtain ⟨vs, hv1, hv2⟩ := get_flat h0 h3 k v hk
    have := (h2 _ vs hv1).2.2 _ v hv2
    rw [show k / P.cellsOf e * P.cellsOf e + k % P.cellsOf e = k by rw [Nat.mul_comm]; exact Nat.div_add_mod k _] at this
    exact Rd.ro this

theorem map_list {α : Type} {F : α → List Value} {R : α → Prop} : ∀ {ls : List (List Value)}, (∀ vs ∈ ls, ∃ o, vs = F o ∧ R o) → ∃ ol : List α, ls = ol.map F ∧ ∀ o ∈ ol, R o
  | [], _ => ⟨[], rfl, by simp⟩
  | vs :: ls, h => by
    obtain ⟨o, h1, h2⟩ := h vs (by simp)
    obtain ⟨ol, h3, h4⟩ := map_list (fun v hv => h v (List.mem_cons_of_mem _ hv))
    refine ⟨o :: ol, by rw [h1, h3]; rfl, fun x hx => ?_⟩
    rcases List.mem_cons.1 hx with rfl | hx
    · exact h2
    · exact h4 x hx

/-- A slice of numbers. -/
theorem WT.ints {d : Nat} {t e : TypeId} {k : IntKind} {a : Option Addr} {len cap : Nat} (ht : P.underlying t = some (.slice e)) (he : P.underlying e = some (.int k)) (hc : P.cellsOf e = 1) (h : WT P W (d + 2) t [.slice a len cap]) :
    len ≤ cap ∧ cap ≤ maxLen ∧ ∃ l : List Int, l.length = len ∧ (∀ x ∈ l, (Lit.int k x).wf = true) ∧ ∀ R, Sl W R a (iv k l) := by
  obtain ⟨h1, h2, ls, h3, h4, h5⟩ := h.elems ht (by omega)
  obtain ⟨l, rfl, hl⟩ := map_list (F := fun x => [Value.int k x]) (R := fun x => (Lit.int k x).wf = true) (fun vs hv => by
    have := (h4 vs hv).2
    unfold WT at this
    rw [he] at this
    exact this)
  refine ⟨h1, h2, l, by simpa using h3, hl, fun R => ?_⟩
  have e : (l.map fun x => [Value.int k x]).flatten = iv k l := by
    clear h3 h4 h5 hl
    induction l with
    | nil => rfl
    | cons x l ih => simp only [List.map_cons, List.flatten_cons, ih]; rfl
  rw [← e]; exact h5 R
end
/-! ### Flat types -/
def lkOk : Lk → Value → Bool
  | .i k, .int k' x => k == k' && (Lit.int k x).wf
  | .b, .bool _ => true
  | .s, .string s => decide (s.size ≤ maxLen)
  | _, _ => false
def okB : List Lk → List Value → Bool
  | [], [] => true
  | k :: ks, v :: vs => lkOk k v && okB ks vs
  | _, _ => false
theorem okB_append : ∀ {ks1 ks2 : List Lk} {vs us : List Value}, okB ks1 vs = true → okB ks2 us = true → okB (ks1 ++ ks2) (vs ++ us) = true
  | [], _, [], _, _, h => h
  | k :: ks, ks2, v :: vs, us, h, h2 => by
    simp only [okB, Bool.and_eq_true] at h
    simp only [List.cons_append, okB, Bool.and_eq_true]
    exact ⟨h.1, okB_append h.2 h2⟩
  | [], _, _ :: _, _, h, _ => by simp [okB] at h
  | _ :: _, _, [], _, h, _ => by simp [okB] at h
theorem okB_fit : ∀ {ks : List Lk} {vs : List Value}, okB ks vs = true → fitB ks vs = true
  | [], [], _ => rfl
  | k :: ks, v :: vs, h => by
    simp only [okB, Bool.and_eq_true] at h
    simp only [fitB, Bool.and_eq_true]
    refine ⟨?_, okB_fit h.2⟩
    have := h.1
    cases k <;> cases v <;> simp_all [lkOk, lkB]
  | [], _ :: _, h => by simp [okB] at h
  | _ :: _, [], h => by simp [okB] at h
theorem flatT_cells {P : Program} {d : Nat} {t : TypeId} {ks : List Lk} (h : flatT P d t = some ks) : P.cellsOf t = ks.length := by
  obtain ⟨g, hg, _⟩ := flatT_ty h
  obtain ⟨d', i, _, hi, _, hs⟩ := tyI_spec hg
  simp [Program.cellsOf, hi, hs]
theorem WT.flat {P : Program} {W : World} : ∀ {d : Nat} {t : TypeId} {ks : List Lk}, flatT P d t = some ks → ∀ {D : Nat} {cs : List Value}, d ≤ D → WT P W D t cs → okB ks cs = true
  | 0, t, ks, h, _, _, _, _ => by simp [flatT] at h
  | d + 1, t, ks, h, 0, cs, hD, _ => by omega
  | d + 1, t, ks, h, D + 1, cs, hD, hw => by
    have hcl := flatT_cells h
    simp only [flatT] at h
    unfold WT at hw
    split at h
    · rename_i k hu
      obtain ⟨rfl, _⟩ := sized_spec h
      rw [hu] at hw
      obtain ⟨x, rfl, hx⟩ := hw
      simp [okB, lkOk, hx]
    · rename_i hu
      obtain ⟨rfl, _⟩ := sized_spec h
      rw [hu] at hw
      obtain ⟨x, rfl⟩ := hw
      simp [okB, lkOk]
    · rename_i hu
      obtain ⟨rfl, _⟩ := sized_spec h
      rw [hu] at hw
      obtain ⟨x, rfl, hx⟩ := hw
      simp [okB, lkOk, hx]
    · rename_i fs hu
      split at h
      · cases h
      simp only [Option.bind_eq_some_iff] at h
      obtain ⟨l, hl, hl2⟩ := h
      obtain ⟨rfl, _⟩ := sized_spec hl2
      rw [hu] at hw
      obtain ⟨hlen, hf⟩ := hw
      have key : ∀ (fl : List Field) (o : Nat) (l : List Lk), flatFs (flatT P d) o fl = some l → (∀ (j : Nat) (f : Field), fl[j]? = some f → WT P W D f.type ((cs.drop f.offset).take (P.cellsOf f.type))) → o + l.length = cs.length → okB l (cs.drop o) = true := by
        intro fl
        induction fl with
        | nil =>
          intro o l h0 _ hlen
          simp only [flatFs, Option.some.injEq] at h0
          subst h0
          rw [List.drop_of_length_le (by simp at hlen; omega)]; rfl
        | cons f fl ih =>
          intro o l h0 hf hlen
          simp only [flatFs] at h0
          split at h0
          · cases h0
          rename_i hno
          have hof : f.offset = o := Classical.byContradiction fun hq => hno (.inr hq)
          split at h0
          · rename_i ks hks
            simp only [Option.map_eq_some_iff] at h0
            obtain ⟨rr, hr, rfl⟩ := h0
            have h1 := WT.flat hks (by omega) (hf 0 f rfl)
            rw [hof, flatT_cells hks] at h1
            rw [List.length_append] at hlen
            have h2 := ih (o + ks.length) rr hr (fun j g hg => hf (j + 1) g (by simpa using hg)) (by omega)
            have e : cs.drop o = (cs.drop o).take ks.length ++ cs.drop (o + ks.length) := by
              rw [← List.drop_drop, List.take_append_drop]
            rw [e]
            exact okB_append h1 h2
          · cases h0
      have := key fs.toList 0 _ hl (fun j f hj => hf j f (by simpa using hj)) (by omega)
      simpa using this
    · rename_i n e hu
      simp only [Option.bind_eq_some_iff, Option.map_eq_some_iff] at h
      obtain ⟨l, ⟨ks', hks, rfl⟩, hl2⟩ := h
      obtain ⟨rfl, _⟩ := sized_spec hl2
      rw [hu] at hw
      obtain ⟨hlen, hf⟩ := hw
      have hce := flatT_cells hks
      have key : ∀ (m i : Nat), i + m = n → i * ks'.length + m * ks'.length = cs.length → okB (List.replicate m ks').flatten (cs.drop (i * ks'.length)) = true := by
        intro m
        induction m with
        | zero =>
          intro i _ hlen
          rw [List.drop_of_length_le (by omega)]; rfl
        | succ m ih =>
          intro i hi hlen
          have h1 := WT.flat hks (by omega) (hf i (by omega))
          rw [hce] at h1
          have hmul : (i + 1) * ks'.length = i * ks'.length + ks'.length := by rw [Nat.add_mul, Nat.one_mul]
          have hmul2 : (m + 1) * ks'.length = m * ks'.length + ks'.length := by rw [Nat.add_mul, Nat.one_mul]
          have h2 := ih (i + 1) (by omega) (by omega)
          have e : cs.drop (i * ks'.length) = (cs.drop (i * ks'.length)).take ks'.length ++ cs.drop ((i + 1) * ks'.length) := by
            rw [hmul, ← List.drop_drop, List.take_append_drop]
          rw [e, List.replicate_succ, List.flatten_cons]
          exact okB_append h1 h2
      have hfl : (List.replicate n ks').flatten.length = n * ks'.length := by
        rw [List.length_flatten]; simp
      have := key n 0 (by omega) (by omega)
      simpa using this
    · cases h
/-- One cell of a kind. -/
theorem okB_i {k : IntKind} {ks : List Lk} {cs : List Value} (h : okB (.i k :: ks) cs = true) : ∃ x r, cs = .int k x :: r ∧ (Lit.int k x).wf = true ∧ okB ks r = true := by
  cases cs with
  | nil => simp [okB] at h
  | cons v r =>
    simp only [okB, Bool.and_eq_true] at h
    cases v <;> simp [lkOk] at h
    obtain ⟨⟨rfl, h1⟩, h2⟩ := h
    exact ⟨_, r, rfl, h1, h2⟩
theorem okB_b {ks : List Lk} {cs : List Value} (h : okB (.b :: ks) cs = true) : ∃ x r, cs = .bool x :: r ∧ okB ks r = true := by
  cases cs with
  | nil => simp [okB] at h
  | cons v r =>
    simp only [okB, Bool.and_eq_true] at h
    cases v <;> simp [lkOk] at h
    exact ⟨_, r, rfl, h⟩
theorem okB_s {ks : List Lk} {cs : List Value} (h : okB (.s :: ks) cs = true) : ∃ x r, cs = .string x :: r ∧ x.size ≤ maxLen ∧ okB ks r = true := by
  cases cs with
  | nil => simp [okB] at h
  | cons v r =>
    simp only [okB, Bool.and_eq_true] at h
    cases v <;> simp [lkOk] at h
    exact ⟨_, r, rfl, h.1, h.2⟩
theorem okB_nil {cs : List Value} (h : okB [] cs = true) : cs = [] := by
  cases cs with
  | nil => rfl
  | cons v r => simp [okB] at h
theorem okB_split {ks1 ks2 : List Lk} : ∀ {cs : List Value}, okB (ks1 ++ ks2) cs = true → okB ks1 (cs.take ks1.length) = true ∧ okB ks2 (cs.drop ks1.length) = true := by
  induction ks1 with
  | nil => intro cs h; exact ⟨by simp [okB], by simpa using h⟩
  | cons k ks ih =>
    intro cs h
    cases cs with
    | nil => simp [okB] at h
    | cons v r =>
      simp only [List.cons_append, okB, Bool.and_eq_true] at h
      have := ih h.2
      exact ⟨by simp [okB, h.1, this.1], by simpa using this.2⟩
/-- Many cells of a kind. -/
theorem okB_rep {k : IntKind} : ∀ {n : Nat} {cs : List Value}, okB (List.replicate n (.i k)) cs = true → ∃ l : List Int, cs = iv k l ∧ l.length = n ∧ ∀ x ∈ l, (Lit.int k x).wf = true
  | 0, cs, h => ⟨[], okB_nil h, rfl, by simp⟩
  | n + 1, cs, h => by
    rw [List.replicate_succ] at h
    obtain ⟨x, r, rfl, hx, hr⟩ := okB_i h
    obtain ⟨l, rfl, hl, hw⟩ := okB_rep hr
    exact ⟨x :: l, rfl, by simp [hl], fun y hy => by
      rcases List.mem_cons.1 hy with rfl | hy
      · exact hx
      · exact hw y hy⟩

theorem wf_u8 {x : Int} (h : (Lit.int .u8 x).wf = true) : 0 ≤ x ∧ x < 256 := by
  simp only [Lit.wf, Bool.and_eq_true, decide_eq_true_eq] at h
  have e1 : IntKind.u8.min = 0 := by decide +kernel
  have e2 : IntKind.u8.max = 255 := by decide +kernel
  rw [e1, e2] at h; omega
theorem wf_u64 {x : Int} (h : (Lit.int .u64 x).wf = true) : 0 ≤ x ∧ x < 18446744073709551616 := by
  simp only [Lit.wf, Bool.and_eq_true, decide_eq_true_eq] at h
  have e1 : IntKind.u64.min = 0 := by decide +kernel
  have e2 : IntKind.u64.max = 18446744073709551615 := by decide +kernel
  rw [e1, e2] at h; omega
theorem wf_u32 {x : Int} (h : (Lit.int .u32 x).wf = true) : 0 ≤ x ∧ x < 4294967296 := by
  simp only [Lit.wf, Bool.and_eq_true, decide_eq_true_eq] at h
  have e1 : IntKind.u32.min = 0 := by decide +kernel
  have e2 : IntKind.u32.max = 4294967295 := by decide +kernel
  rw [e1, e2] at h; omega
theorem wf_i64 {x : Int} (h : (Lit.int .i64 x).wf = true) : -9223372036854775808 ≤ x ∧ x ≤ 9223372036854775807 := by
  simp only [Lit.wf, Bool.and_eq_true, decide_eq_true_eq] at h
  have e1 : IntKind.i64.min = -9223372036854775808 := by decide +kernel
  have e2 : IntKind.i64.max = 9223372036854775807 := by decide +kernel
  rw [e1, e2] at h; omega
theorem isB_of {l : List Int} (h : ∀ x ∈ l, (Lit.int .u8 x).wf = true) : IsB l := fun x hx => wf_u8 (h x hx)
theorem WVs.cons {P : Program} {W : World} {t : TypeId} {ts : List TypeId} {vs : List Value} (h : WVs P W (t :: ts) vs) : ∃ v us, vs = v :: us ∧ WV P W t v ∧ WVs P W ts us := by
  cases vs with
  | nil => exact h.elim
  | cons v us => exact ⟨v, us, rfl, h.1, h.2⟩
theorem WVs.nil {P : Program} {W : World} {vs : List Value} (h : WVs P W [] vs) : vs = [] := by
  cases vs with
  | nil => rfl
  | cons v us => exact h.elim
theorem len_cons {α : Type} {l : List α} {n : Nat} (h : l.length = n + 1) : ∃ a m, l = a :: m ∧ m.length = n := by
  cases l with
  | nil => simp at h
  | cons a m => exact ⟨a, m, rfl, by simpa using h⟩
theorem len_nil {α : Type} {l : List α} (h : l.length = 0) : l = [] := List.eq_nil_of_length_eq_zero h
end Go.Sx
