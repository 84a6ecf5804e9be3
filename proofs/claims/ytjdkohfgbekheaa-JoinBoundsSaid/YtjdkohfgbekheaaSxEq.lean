/- Comparison of structs and arrays whose cells are numbers, bools and strings. No conditions. -/
import Derived.Test.YtjdkohfgbekheaaSxMap
namespace Go.Sx
open Go Go.RowKit

inductive Lk where
  | i (k : IntKind)
  | b
  | s
def lkB : Lk → Value → Bool
  | .i k, .int k' _ => k == k'
  | .b, .bool _ => true
  | .s, .string _ => true
  | _, _ => false
def fitB : List Lk → List Value → Bool
  | [], [] => true
  | k :: ks, v :: vs => lkB k v && fitB ks vs
  | _, _ => false
def leafEq : Value → Value → Bool
  | .int _ a, .int _ b => a == b
  | .bool a, .bool b => a == b
  | .string a, .string b => a.toList == b.toList
  | _, _ => false
def cellsEq : List Value → List Value → Bool
  | [], [] => true
  | v :: vs, u :: us => leafEq v u && cellsEq vs us
  | _, _ => false

def flatFs (F : TypeId → Option (List Lk)) : Nat → List Field → Option (List Lk)
  | _, [] => some []
  | o, f :: fs => if f.name = "_" ∨ f.offset ≠ o then none else match F f.type with
    | some ks => (flatFs F (o + ks.length) fs).map fun r => ks ++ r
    | none => none
def sized (P : Program) (t : TypeId) (ks : List Lk) : Option (List Lk) := match P.info? t with
  | some i => if i.size = ks.length then some ks else none
  | none => none
/-- The kinds of a type's cells; none: not such a type. -/
def flatT (P : Program) : Nat → TypeId → Option (List Lk)
  | 0, _ => none
  | d + 1, t => match P.underlying t with
    | some (.int k) => sized P t [.i k]
    | some .bool => sized P t [.b]
    | some .string => sized P t [.s]
    | some (.struct fs) => if P.stoodInHeld t then none else (flatFs (flatT P d) 0 fs.toList).bind (sized P t)
    | some (.array n e) => ((flatT P d e).map fun ks => (List.replicate n ks).flatten).bind (sized P t)
    | _ => none

def valOf (g : Bool) (l : List Value) : Value := if g then .agg ⟨l⟩ else l.headD undef

theorem sized_spec {P : Program} {t : TypeId} {ks r : List Lk} (h : sized P t ks = some r) : r = ks ∧ ∃ i, P.info? t = some i ∧ i.size = ks.length := by
  unfold sized at h
  split at h
  · rename_i i hi
    split at h
    · rename_i hs
      exact ⟨(Option.some.inj h).symm, i, hi, hs⟩
    · cases h
  · cases h
theorem fitB_length : ∀ {ks : List Lk} {vs : List Value}, fitB ks vs = true → vs.length = ks.length
  | [], [], _ => rfl
  | k :: ks, v :: vs, h => by
    simp only [fitB, Bool.and_eq_true] at h
    simp [fitB_length h.2]
  | [], _ :: _, h => by simp [fitB] at h
  | _ :: _, [], h => by simp [fitB] at h
theorem fitB_append : ∀ {ks1 ks2 : List Lk} {vs : List Value}, fitB (ks1 ++ ks2) vs = true → fitB ks1 (vs.take ks1.length) = true ∧ fitB ks2 (vs.drop ks1.length) = true
  | [], ks2, vs, h => ⟨by simp [fitB], by simpa using h⟩
  | k :: ks1, ks2, [], h => by simp [fitB] at h
  | k :: ks1, ks2, v :: vs, h => by
    simp only [List.cons_append, fitB, Bool.and_eq_true] at h
    have ih := fitB_append h.2
    exact ⟨by simp [fitB, h.1, ih.1], by simpa using ih.2⟩
theorem cellsEq_parts : ∀ (n : Nat) (xs ys : List Value), n ≤ xs.length → n ≤ ys.length → cellsEq xs ys = (cellsEq (xs.take n) (ys.take n) && cellsEq (xs.drop n) (ys.drop n))
  | 0, xs, ys, _, _ => by simp [cellsEq]
  | n + 1, [], _, h, _ => by simp at h
  | n + 1, _, [], _, h => by simp at h
  | n + 1, x :: xs, y :: ys, h1, h2 => by
    simp only [List.length_cons] at h1 h2
    simp only [cellsEq, List.take_succ_cons, List.drop_succ_cons]
    rw [cellsEq_parts n xs ys (by omega) (by omega), Bool.and_assoc]
theorem cellsEq_self : ∀ {ks : List Lk} {vs : List Value}, fitB ks vs = true → cellsEq vs vs = true
  | [], [], _ => rfl
  | k :: ks, v :: vs, h => by
    simp only [fitB, Bool.and_eq_true] at h
    have : leafEq v v = true := by
      cases k <;> cases v <;> simp_all [lkB, leafEq]
    simp [cellsEq, this, cellsEq_self h.2]
  | [], _ :: _, h => by simp [fitB] at h
  | _ :: _, [], h => by simp [fitB] at h

theorem flatT_ty {P : Program} : ∀ {d : Nat} {t : TypeId} {ks : List Lk}, flatT P d t = some ks → ∃ g, tyI P t = some (g, ks.length) ∧ (g = false → ks.length = 1)
  | 0, t, ks, h => by simp [flatT] at h
  | d + 1, t, ks, h => by
    simp only [flatT] at h
    have fin : ∀ {u : TypeDesc} {l : List Lk}, P.underlying t = some u → sized P t l = some ks → (isAggD u = false → l.length = 1) → ∃ g, tyI P t = some (g, ks.length) ∧ (g = false → ks.length = 1) := by
      intro u l hu hl h1
      obtain ⟨rfl, i, hi, hs⟩ := sized_spec hl
      exact ⟨isAggD u, by simp [tyI, hu, hi, hs], h1⟩
    split at h
    · rename_i k hu; exact fin hu h (fun _ => rfl)
    · rename_i hu; exact fin hu h (fun _ => rfl)
    · rename_i hu; exact fin hu h (fun _ => rfl)
    · rename_i fs hu
      split at h
      · cases h
      · simp only [Option.bind_eq_some_iff] at h
        obtain ⟨l, _, hl⟩ := h
        exact fin hu hl (fun h => by simp [isAggD] at h)
    · rename_i n e hu
      simp only [Option.bind_eq_some_iff] at h
      obtain ⟨l, _, hl⟩ := h
      exact fin hu hl (fun h => by simp [isAggD] at h)
    · cases h

theorem run_part_ty {P : Program} {t : TypeId} {g : Bool} {k : Nat} (h : tyI P t = some (g, k)) (hk : g = false → k = 1) (cs : List Value) (o : Nat) (ho : o + k ≤ cs.length) (w : World) :
    (part t ⟨cs⟩ o).run P w = .ok (valOf g ((cs.drop o).take k)) w := by
  cases g with
  | true =>
    simp only [part, Sem.run_bind, run_isAgg_ty h, Result.andThen_ok, if_true, run_sizeOf_ty h, Sem.run_pure, valOf]
    congr 2
    simp [List.extract_toArray, List.extract_eq_take_drop]
  | false =>
    have : k = 1 := hk rfl
    subst this
    have hg : (⟨cs⟩ : Array Value)[o]? = some cs[o] := by simp [List.getElem?_eq_getElem (show o < cs.length by omega)]
    simp only [part, Sem.run_bind, run_isAgg_ty h, Result.andThen_ok, Bool.false_eq_true, if_false, hg, Sem.run_pure, valOf]
    congr 1
    rw [List.drop_eq_getElem_cons (by omega)]
    rfl

theorem flat_equal {P : Program} : ∀ {d : Nat} {t : TypeId} {ks : List Lk}, flatT P d t = some ks → ∀ {g : Bool}, tyI P t = some (g, ks.length) → ∀ (r : Nat) (w : World) (xs ys : List Value), fitB ks xs = true → fitB ks ys = true →
    (Op.equalIn (d + r) t (valOf g xs) (valOf g ys)).run P w = .ok (cellsEq xs ys) w
  | 0, t, ks, h, _, _, _, _, _, _, _, _ => by simp [flatT] at h
  | d + 1, t, ks, h, g, hg, r, w, xs, ys, hx, hy => by
    have hx1 := fitB_length hx
    have hy1 := fitB_length hy
    have hgu : ∀ {u : TypeDesc}, P.underlying t = some u → g = isAggD u := by
      intro u hu
      obtain ⟨d', i, h1, h2, h3, h4⟩ := tyI_spec hg
      rw [hu] at h1; cases h1; exact h3.symm
    rw [show d + 1 + r = (d + r) + 1 by omega]
    simp only [flatT] at h
    split at h
    · rename_i k hu
      obtain ⟨rfl, _⟩ := sized_spec h
      rw [hgu hu]
      match xs, ys, hx, hy with
      | [x], [y], hx, hy =>
        simp only [fitB, Bool.and_true] at hx hy
        cases x <;> simp [lkB] at hx
        cases y <;> simp [lkB] at hy
        subst hx hy
        show (Op.equalIn (d + r + 1) t (.int k _) (.int k _)).run P w = _
        rw [run_equalIn_int w (d + r) t k k _ _ hu]
        simp [cellsEq, leafEq]
    · rename_i hu
      obtain ⟨rfl, _⟩ := sized_spec h
      rw [hgu hu]
      match xs, ys, hx, hy with
      | [x], [y], hx, hy =>
        simp only [fitB, Bool.and_true] at hx hy
        cases x <;> simp [lkB] at hx
        cases y <;> simp [lkB] at hy
        show (Op.equalIn (d + r + 1) t (.bool _) (.bool _)).run P w = _
        rw [run_equalIn_bool' w (d + r) t _ _ hu]
        simp [cellsEq, leafEq]
    · rename_i hu
      obtain ⟨rfl, _⟩ := sized_spec h
      rw [hgu hu]
      match xs, ys, hx, hy with
      | [x], [y], hx, hy =>
        simp only [fitB, Bool.and_true] at hx hy
        cases x <;> simp [lkB] at hx
        cases y <;> simp [lkB] at hy
        show (Op.equalIn (d + r + 1) t (.string _) (.string _)).run P w = _
        rw [run_equalIn_string w (d + r) t _ _ hu]
        simp [cellsEq, leafEq]
    · rename_i fs hu
      split at h
      · cases h
      rename_i hst
      simp only [Option.bind_eq_some_iff] at h
      obtain ⟨l, hl, hl2⟩ := h
      obtain ⟨rfl, _⟩ := sized_spec hl2
      rw [hgu hu]
      have hfo : P.fieldsOf t = fs := by simp [Program.fieldsOf, hu]
      show (Op.equalIn (d + r + 1) t (.agg ⟨xs⟩) (.agg ⟨ys⟩)).run P w = _
      rw [run_equalIn_struct w (d + r) t _ _ (by rw [hfo]; exact hu) (by simpa using hst), hfo]
      have key : ∀ (fl : List Field) (o : Nat) (l : List Lk), flatFs (flatT P d) o fl = some l → o ≤ xs.length → o ≤ ys.length → fitB l (xs.drop o) = true → fitB l (ys.drop o) = true → (Op.eqFields (d + r) ⟨xs⟩ ⟨ys⟩ fl).run P w = .ok (cellsEq (xs.drop o) (ys.drop o)) w := by
        intro fl
        induction fl with
        | nil =>
          intro o l h0 _ _ hx hy
          simp only [flatFs, Option.some.injEq] at h0
          subst h0
          have e1 : xs.drop o = [] := List.eq_nil_of_length_eq_zero (fitB_length hx)
          have e2 : ys.drop o = [] := List.eq_nil_of_length_eq_zero (fitB_length hy)
          rw [e1, e2]
          simp [Op.eqFields, cellsEq]
        | cons f fl ih =>
          intro o l h0 ho1 ho2 hx hy
          simp only [flatFs] at h0
          split at h0
          · cases h0
          rename_i hno
          have hnm : f.name ≠ "_" := fun hq => hno (.inl hq)
          have hof : f.offset = o := Classical.byContradiction fun hq => hno (.inr hq)
          split at h0
          · rename_i ks hks
            simp only [Option.map_eq_some_iff] at h0
            obtain ⟨rr, hr, rfl⟩ := h0
            obtain ⟨gf, hgf, hgf1⟩ := flatT_ty hks
            have hx2 := fitB_append hx
            have hy2 := fitB_append hy
            have hxl := fitB_length hx
            have hyl := fitB_length hy
            rw [List.length_append, List.length_drop] at hxl hyl
            have px := run_part_ty hgf hgf1 xs o (by omega) w
            have py := run_part_ty hgf hgf1 ys o (by omega) w
            have pe := flat_equal hks hgf r w _ _ hx2.1 hy2.1
            rw [Op.eqFields.eq_2, if_pos hnm, hof]
            simp only [Sem.run_bind, px, py, pe, Result.andThen_ok]
            have hi := ih (o + ks.length) rr hr (by omega) (by omega) (by simpa [List.drop_drop, Nat.add_comm] using hx2.2) (by simpa [List.drop_drop, Nat.add_comm] using hy2.2)
            rw [cellsEq_parts ks.length (xs.drop o) (ys.drop o) (by rw [List.length_drop]; omega) (by rw [List.length_drop]; omega), List.drop_drop, List.drop_drop]
            cases cellsEq ((xs.drop o).take ks.length) ((ys.drop o).take ks.length) with
            | false => simp
            | true => simp [hi]
          · cases h0
      exact key fs.toList 0 _ hl (Nat.zero_le _) (Nat.zero_le _) (by simpa using hx) (by simpa using hy)
    · rename_i n e hu
      simp only [Option.bind_eq_some_iff, Option.map_eq_some_iff] at h
      obtain ⟨l, ⟨ks', hks, rfl⟩, hl2⟩ := h
      obtain ⟨rfl, _⟩ := sized_spec hl2
      rw [hgu hu]
      obtain ⟨gf, hgf, hgf1⟩ := flatT_ty hks
      show (Op.equalIn (d + r + 1) t (.agg ⟨xs⟩) (.agg ⟨ys⟩)).run P w = _
      unfold Op.equalIn
      simp only [Sem.run_bind, run_underlying hu, Result.andThen_ok, run_sizeOf_ty hgf, Std.Legacy.Range.forIn_eq_forIn_range', Std.Legacy.Range.size, Nat.sub_zero, Nat.add_sub_cancel, Nat.div_one]
      have key : ∀ (m i : Nat), i + m = n → fitB (List.replicate m ks').flatten (xs.drop (i * ks'.length)) = true → fitB (List.replicate m ks').flatten (ys.drop (i * ks'.length)) = true → i * ks'.length ≤ xs.length → i * ks'.length ≤ ys.length →
          ((forIn (List.range' i m 1) ((none, ()) : Option Bool × Unit) fun i _ => do
            let a ← part e ⟨xs⟩ (i * ks'.length)
            let b ← part e ⟨ys⟩ (i * ks'.length)
            let q ← Op.equalIn (d + r) e a b
            if (!q) = true then pure (ForInStep.done (some false, ())) else pure (ForInStep.yield (none, ())) : Sem _).run P w).andThen (fun x w' => (match x.1 with | some a => pure a | none => (pure true : Sem Bool)).run P w') = .ok (cellsEq (xs.drop (i * ks'.length)) (ys.drop (i * ks'.length))) w := by
        intro m
        induction m with
        | zero =>
          intro i _ hx hy _ _
          have e1 : xs.drop (i * ks'.length) = [] := List.eq_nil_of_length_eq_zero (fitB_length hx)
          have e2 : ys.drop (i * ks'.length) = [] := List.eq_nil_of_length_eq_zero (fitB_length hy)
          rw [e1, e2]
          simp [cellsEq]
        | succ m ih =>
          intro i hi hx hy ho1 ho2
          rw [List.replicate_succ, List.flatten_cons] at hx hy
          have hx2 := fitB_append hx
          have hy2 := fitB_append hy
          have hxl := fitB_length hx
          have hyl := fitB_length hy
          rw [List.length_append, List.length_drop] at hxl hyl
          have px := run_part_ty hgf hgf1 xs (i * ks'.length) (by omega) w
          have py := run_part_ty hgf hgf1 ys (i * ks'.length) (by omega) w
          have pe := flat_equal hks hgf r w _ _ hx2.1 hy2.1
          rw [List.range'_succ, List.forIn_cons]
          simp only [Sem.run_bind, px, py, pe, Result.andThen_ok]
          have hmul : (i + 1) * ks'.length = i * ks'.length + ks'.length := by rw [Nat.add_mul, Nat.one_mul]
          have hi := ih (i + 1) (by omega) (by rw [hmul]; simpa [List.drop_drop, Nat.add_comm] using hx2.2) (by rw [hmul]; simpa [List.drop_drop, Nat.add_comm] using hy2.2) (by rw [hmul]; omega) (by rw [hmul]; omega)
          rw [cellsEq_parts ks'.length (xs.drop _) (ys.drop _) (by rw [List.length_drop]; omega) (by rw [List.length_drop]; omega), List.drop_drop, List.drop_drop, ← hmul]
          cases cellsEq ((xs.drop (i * ks'.length)).take ks'.length) ((ys.drop (i * ks'.length)).take ks'.length) with
          | false => simp
          | true =>
            simp only [Bool.not_true, Bool.false_eq_true, if_false, Sem.run_pure, Sem.run_bind, Result.andThen_ok, Bool.true_and]
            exact hi
      have := key n 0 (by omega) (by simpa using hx) (by simpa using hy) (by omega) (by omega)
      simp only [Nat.zero_mul, List.drop_zero] at this
      refine Eq.trans ?_ this
      congr 1
      funext a w'
      obtain ⟨a1, a2⟩ := a
      cases a1 <;> rfl
    · cases h

theorem run_flat {P : Program} {d : Nat} {t : TypeId} {ks : List Lk} (h : flatT P d t = some ks) (hd : Nat.ble d 10000 = true) {k : Nat} (hg : tyI P t = some (true, k)) (w : World) {xs ys : List Value} (hx : fitB ks xs = true) (hy : fitB ks ys = true) :
    (Op.equalIn 10000 t (.agg ⟨xs⟩) (.agg ⟨ys⟩)).run P w = .ok (cellsEq xs ys) w := by
  obtain ⟨g, hg2, _⟩ := flatT_ty h
  have : g = true := by
    rw [hg] at hg2
    simp only [Option.some.injEq, Prod.mk.injEq] at hg2
    exact hg2.1.symm
  subst this
  have hd' := Nat.le_of_ble_eq_true hd
  have := flat_equal h hg2 (10000 - d) w xs ys hx hy
  rw [show d + (10000 - d) = 10000 by omega] at this
  exact this

section
variable {P : Program} {W0 : World} {n : Nat} {kn : Kn} {H : Hp}
theorem OpP.eqlF {d ty pos aft g} {t t' : TypeId} {x y : Operand} {xs ys : List Value} {D k : Nat} {ks : List Lk} (hx : kop kn x = some (.agg ⟨xs⟩)) (hy : kop kn y = some (.agg ⟨ys⟩)) (h : flatT P D t = some ks) (hg : tyI P t = some (true, k))
    (he : P.eqGuardType P.depth t = false) (hd : Nat.ble D 10000 = true) (fx : fitB ks xs = true) (fy : fitB ks ys = true) : OpP P W0 n kn H ⟨d, .binOp .eql t x y t', ty, pos, aft, g⟩ (.bool (cellsEq xs ys)) :=
  OpP.binR hx hy (eqGuard_agg _ _ _ _ _ _ he) (fun w => by rw [run_eql_struct, run_flat h hd hg w fx fy]; rfl)
theorem OpP.eqlSelf {d ty pos aft g} {t t' : TypeId} {x y : Operand} {xs : List Value} {D k : Nat} {ks : List Lk} (hx : kop kn x = some (.agg ⟨xs⟩)) (hy : kop kn y = some (.agg ⟨xs⟩)) (h : flatT P D t = some ks) (hg : tyI P t = some (true, k))
    (he : P.eqGuardType P.depth t = false) (hd : Nat.ble D 10000 = true) (fx : fitB ks xs = true) : OpP P W0 n kn H ⟨d, .binOp .eql t x y t', ty, pos, aft, g⟩ (.bool true) := by
  have := OpP.eqlF (P := P) (W0 := W0) (n := n) (H := H) (d := d) (ty := ty) (pos := pos) (aft := aft) (g := g) (t' := t') hx hy h hg he hd fx fx
  rwa [cellsEq_self fx] at this
theorem OpP.neqF {d ty pos aft g} {t t' : TypeId} {x y : Operand} {xs ys : List Value} {D k : Nat} {ks : List Lk} (hx : kop kn x = some (.agg ⟨xs⟩)) (hy : kop kn y = some (.agg ⟨ys⟩)) (h : flatT P D t = some ks) (hg : tyI P t = some (true, k))
    (he : P.eqGuardType P.depth t = false) (hd : Nat.ble D 10000 = true) (fx : fitB ks xs = true) (fy : fitB ks ys = true) : OpP P W0 n kn H ⟨d, .binOp .neq t x y t', ty, pos, aft, g⟩ (.bool (!cellsEq xs ys)) :=
  OpP.binR hx hy (eqGuard_agg _ _ _ _ _ _ he) (fun w => by rw [run_neq_struct, run_flat h hd hg w fx fy]; rfl)
end
end Go.Sx
