/- The rules of maps whose keys are whole numbers, blocks of the call's own. No conditions. -/
import Derived.Test.YtjdkohfgbekheaaSxAny
import Derived.MapKept
import Derived.Laws.IdiomRangeMap
import Derived.WalkSpells
namespace Go.Sx
open Go Go.RowKit

/-- An entry of a map: its key, its value, its stamp. -/
structure Ent where
  key : Int
  val : Value
  born : Nat

def Ent.e (k : IntKind) (x : Ent) : MapEntry := { key := .int k x.key, val := x.val, born := x.born }
abbrev mobj (k : IntKind) (es : List Ent) (c : Nat) : Obj := .map ⟨es.map (Ent.e k)⟩ c

def midx : List Ent → Int → Option (Nat × Value)
  | [], _ => none
  | e :: es, j => if e.key = j then some (0, e.val) else (midx es j).map fun p => (p.1 + 1, p.2)
/-- The value of a key. -/
def mlook : List Ent → Int → Option Value
  | [], _ => none
  | e :: es, j => if e.key = j then some e.val else mlook es j
def mput : List Ent → Nat → Int → Value → List Ent
  | [], c, j, v => [⟨j, v, c⟩]
  | e :: es, c, j, v => if e.key = j then { e with val := v } :: es else e :: mput es c j v
def mclk : List Ent → Nat → Int → Nat
  | [], c, _ => c + 1
  | e :: es, c, j => if e.key = j then c else mclk es c j
def mdel : List Ent → Int → List Ent
  | [], _ => []
  | e :: es, j => if e.key = j then es else e :: mdel es j

/-- Keys and stamps stand once, stamps below the clock. -/
structure Mok (es : List Ent) (c : Nat) : Prop where
  low : ∀ e ∈ es, e.born < c
  born : (es.map Ent.born).Nodup
  keys : (es.map Ent.key).Nodup

theorem Mok.nil (c : Nat) : Mok [] c := ⟨by simp, by simp, by simp⟩
theorem mlook_none : ∀ {es : List Ent} {j : Int}, mlook es j = none ↔ ∀ e ∈ es, e.key ≠ j
  | [], _ => by simp [mlook]
  | e :: es, j => by
    simp only [mlook]
    by_cases h : e.key = j
    · simp [h]
    · simp [h, mlook_none (es := es)]
theorem mlook_some : ∀ {es : List Ent} {j : Int} {v : Value}, mlook es j = some v → ∃ e ∈ es, e.key = j ∧ e.val = v
  | e :: es, j, v, h => by
    simp only [mlook] at h
    by_cases h' : e.key = j
    · rw [if_pos h'] at h; exact ⟨e, by simp, h', Option.some.inj h⟩
    · rw [if_neg h'] at h
      obtain ⟨x, hx, h1, h2⟩ := mlook_some h
      exact ⟨x, List.mem_cons_of_mem _ hx, h1, h2⟩
theorem mlook_mem : ∀ {es : List Ent}, (es.map Ent.key).Nodup → ∀ e ∈ es, mlook es e.key = some e.val
  | x :: es, hn, e, he => by
    simp only [List.map_cons, List.nodup_cons] at hn
    simp only [mlook]
    rcases List.mem_cons.1 he with rfl | h
    · simp
    · rw [if_neg (fun hq => hn.1 (by rw [hq]; exact List.mem_map.2 ⟨e, h, rfl⟩))]
      exact mlook_mem hn.2 e h
theorem midx_look : ∀ (es : List Ent) (j : Int), (midx es j).map (·.2) = mlook es j
  | [], _ => rfl
  | e :: es, j => by
    simp only [midx, mlook]
    split
    · rfl
    · rw [← midx_look es j, Option.map_map]; rfl
theorem mlook_put : ∀ (es : List Ent) (c : Nat) (j : Int) (v : Value) (i : Int), mlook (mput es c j v) i = if i = j then some v else mlook es i
  | [], c, j, v, i => by
    simp only [mput, mlook]
    by_cases h : i = j
    · simp [h]
    · simp [h, Ne.symm h]
  | e :: es, c, j, v, i => by
    simp only [mput]
    by_cases h : e.key = j
    · rw [if_pos h]
      simp only [mlook]
      by_cases h2 : i = j
      · subst h2; simp [h]
      · rw [if_neg h2, if_neg (show ¬ ({ e with val := v } : Ent).key = i from fun hq => h2 (by rw [← hq]; exact h)), if_neg (fun hq => h2 (by rw [← hq]; exact h))]
    · rw [if_neg h]
      simp only [mlook]
      rw [mlook_put es c j v i]
      by_cases h2 : i = j
      · subst h2; simp [h]
      · rw [if_neg h2, if_neg h2]
theorem mem_put : ∀ {es : List Ent} {c : Nat} {j : Int} {v : Value} {x : Ent}, x ∈ mput es c j v → (∃ e ∈ es, x.key = e.key ∧ x.born = e.born) ∨ (x = ⟨j, v, c⟩ ∧ mlook es j = none)
  | [], c, j, v, x, h => by simp [mput] at h; exact .inr ⟨h, rfl⟩
  | e :: es, c, j, v, x, h => by
    simp only [mput] at h
    by_cases h' : e.key = j
    · rw [if_pos h'] at h
      rcases List.mem_cons.1 h with rfl | h2
      · exact .inl ⟨e, by simp, rfl, rfl⟩
      · exact .inl ⟨x, List.mem_cons_of_mem _ h2, rfl, rfl⟩
    · rw [if_neg h'] at h
      rcases List.mem_cons.1 h with rfl | h2
      · exact .inl ⟨_, by simp, rfl, rfl⟩
      · rcases mem_put h2 with ⟨e', he', h3⟩ | ⟨h3, h4⟩
        · exact .inl ⟨e', List.mem_cons_of_mem _ he', h3⟩
        · exact .inr ⟨h3, by simp only [mlook, if_neg h', h4]⟩
theorem put_keys : ∀ (es : List Ent) (c : Nat) (j : Int) (v : Value), (mput es c j v).map Ent.key = if (mlook es j).isSome then es.map Ent.key else es.map Ent.key ++ [j]
  | [], c, j, v => by simp [mput, mlook]
  | e :: es, c, j, v => by
    simp only [mput, mlook]
    by_cases h : e.key = j
    · simp [h]
    · simp only [if_neg h, List.map_cons, put_keys es c j v]
      split <;> simp
theorem put_born : ∀ (es : List Ent) (c : Nat) (j : Int) (v : Value), (mput es c j v).map Ent.born = if (mlook es j).isSome then es.map Ent.born else es.map Ent.born ++ [c]
  | [], c, j, v => by simp [mput, mlook]
  | e :: es, c, j, v => by
    simp only [mput, mlook]
    by_cases h : e.key = j
    · simp [h]
    · simp only [if_neg h, List.map_cons, put_born es c j v]
      split <;> simp
theorem clk_eq : ∀ (es : List Ent) (c : Nat) (j : Int), mclk es c j = if (mlook es j).isSome then c else c + 1
  | [], _, _ => by simp [mclk, mlook]
  | e :: es, c, j => by
    simp only [mclk, mlook]
    by_cases h : e.key = j
    · simp [h]
    · simp [h, clk_eq es c j]
theorem Mok.put {es : List Ent} {c : Nat} (h : Mok es c) (j : Int) (v : Value) : Mok (mput es c j v) (mclk es c j) := by
  have hc : c ≤ mclk es c j := by rw [clk_eq]; split <;> omega
  refine ⟨fun x hx => ?_, ?_, ?_⟩
  · rcases mem_put hx with ⟨e, he, _, h2⟩ | ⟨h2, h3⟩
    · rw [h2]; exact Nat.lt_of_lt_of_le (h.low e he) hc
    · subst h2; rw [clk_eq, h3]; simp
  · rw [put_born]
    split
    · exact h.born
    · refine List.nodup_append.2 ⟨h.born, by simp, fun a ha b hb => ?_⟩
      simp only [List.mem_singleton] at hb
      subst hb
      obtain ⟨x, hx, rfl⟩ := List.mem_map.1 ha
      exact Nat.ne_of_lt (h.low x hx)
  · rw [put_keys]
    split
    · exact h.keys
    · rename_i hno
      refine List.nodup_append.2 ⟨h.keys, by simp, fun a ha b hb => ?_⟩
      simp only [List.mem_singleton] at hb
      subst hb
      obtain ⟨x, hx, rfl⟩ := List.mem_map.1 ha
      have : mlook es b = none := by cases hq : mlook es b with
        | none => rfl
        | some u => rw [hq] at hno; simp at hno
      exact mlook_none.1 this x hx
theorem del_filter : ∀ {es : List Ent} (j : Int), (es.map Ent.key).Nodup → mdel es j = es.filter (fun e => !decide (e.key = j))
  | [], _, _ => rfl
  | e :: es, j, hn => by
    simp only [List.map_cons, List.nodup_cons] at hn
    simp only [mdel]
    by_cases h : e.key = j
    · rw [if_pos h, List.filter_cons]
      simp only [h, decide_true, Bool.not_true, Bool.false_eq_true, if_false]
      rw [List.filter_eq_self.2]
      intro x hx
      have : x.key ≠ j := fun hq => hn.1 (by rw [h, ← hq]; exact List.mem_map.2 ⟨x, hx, rfl⟩)
      simp [this]
    · rw [if_neg h, List.filter_cons, del_filter j hn.2]
      simp [h]
theorem Mok.sub {es es' : List Ent} {c : Nat} (h : Mok es c) (hs : es'.Sublist es) : Mok es' c :=
  ⟨fun e he => h.low e (hs.subset he), (hs.map _).nodup h.born, (hs.map _).nodup h.keys⟩
theorem del_sub : ∀ (es : List Ent) (j : Int), (mdel es j).Sublist es
  | [], _ => List.Sublist.refl _
  | e :: es, j => by
    simp only [mdel]
    split
    · exact List.sublist_cons_self _ _
    · exact (del_sub es j).cons_cons e
theorem Mok.del {es : List Ent} {c : Nat} (h : Mok es c) (j : Int) : Mok (mdel es j) c := h.sub (del_sub es j)
theorem mlook_filter : ∀ {es : List Ent} (p : Int → Bool) (i : Int), mlook (es.filter fun e => p e.key) i = if p i then mlook es i else none
  | [], p, i => by simp [mlook]
  | e :: es, p, i => by
    rw [List.filter_cons]
    by_cases h : p e.key = true
    · rw [if_pos h]
      simp only [mlook, mlook_filter (es := es) p i]
      by_cases h2 : e.key = i
      · subst h2; simp [h]
      · simp [h2]
    · rw [if_neg h]
      simp only [mlook, mlook_filter (es := es) p i]
      by_cases h2 : e.key = i
      · subst h2; simp [h]
      · simp [h2]
theorem mlook_del {es : List Ent} (hn : (es.map Ent.key).Nodup) (j i : Int) : mlook (mdel es j) i = if i = j then none else mlook es i := by
  have := mlook_filter (es := es) (fun x => !decide (x = j)) i
  rw [del_filter j hn, this]
  by_cases h : i = j <;> simp [h]

/-! ### What the machine finds -/
theorem findNow_ents (q k : IntKind) (j : Int) : ∀ (es : List Ent) (i : Nat), Instr.findNow (.int q) (.int k j) (es.map (Ent.e k)) i = some ((midx es j).map fun p => (i + p.1, p.2))
  | [], i => by simp [Instr.findNow, midx]
  | e :: es, i => by
    simp only [List.map_cons, Instr.findNow, Ent.e, Instr.sameNow, if_true, midx]
    by_cases h : e.key = j
    · have : (j == e.key) = true := by simp [h]
      rw [this]
      simp [h]
    · have : (j == e.key) = false := by simp [Ne.symm h]
      rw [this]
      have ih := findNow_ents q k j es (i + 1)
      simp only [if_neg h]
      show Instr.findNow (.int q) (.int k j) (es.map (Ent.e k)) (i + 1) = _
      rw [ih, Option.map_map]
      congr 2
      funext p
      simp only [Function.comp, Prod.mk.injEq, and_true]
      omega

/-- A map type: the kind of its keys, and the zero value of its elements. -/
def mapI (P : Program) (t : TypeId) : Option (TypeId × IntKind × Value) := match P.underlying t with
  | some (.map k e) => match P.underlying k, P.info? e with
    | some (.int q), some i => match i.zero with
      | some z => some (k, q, z)
      | none => none
    | _, _ => none
  | _ => none

theorem mapI_spec {P : Program} {t kt : TypeId} {q : IntKind} {z : Value} (h : mapI P t = some (kt, q, z)) :
    ∃ e i, P.underlying t = some (.map kt e) ∧ P.underlying kt = some (.int q) ∧ P.info? e = some i ∧ i.zero = some z := by
  unfold mapI at h
  split at h
  · rename_i k e hu
    split at h
    · rename_i q' i hk hi
      split at h
      · rename_i z' hz
        simp only [Option.some.injEq, Prod.mk.injEq] at h
        obtain ⟨rfl, rfl, rfl⟩ := h
        exact ⟨e, i, hu, hk, hi, hz⟩
      · cases h
    · cases h
  · cases h

section
variable {P : Program} {W0 : World} {n : Nat} {kn : Kn} {H : Hp} {ops : Array Oper} {Q : Exit → Act → World → Prop}

theorem own_heap {w : World} (hS : St W0 w H) {b : Nat} {o : Obj} (hm : (b, o) ∈ H) : w.heap[b]? = some o := (hS.own _ hm).2

theorem run_zero {e : TypeId} {i : TypeInfo} {z : Value} (hi : P.info? e = some i) (hz : i.zero = some z) (w : World) : (zeroValue e).run P w = .ok z w := by
  simp [zeroValue, typeInfo, hi, hz]

/-- m[k], with ok or without. -/
theorem run_lookup {t kt : TypeId} {q : IntKind} {z : Value} (ht : mapI P t = some (kt, q, z)) {w : World} {b c : Nat} {es : List Ent} (hb : w.heap[b]? = some (mobj q es c)) (j : Int) (ok : Bool) :
    (Instr.lookup t (.map (some b)) (.int q j) ok).run P w = .ok (if ok then .tuple #[(mlook es j).getD z, .bool (mlook es j).isSome] else (mlook es j).getD z) w := by
  obtain ⟨e, i, hu, hk, hi, hz⟩ := mapI_spec ht
  have hf := MapKept.run_findKey (P := P) (w := w) hk (findNow_ents q q j es 0)
  have hc := MapKept.run_checkKey (P := P) (w := w) (k := .int q j) hk rfl (⟨es.map (Ent.e q)⟩ : Array MapEntry).isEmpty 9999
  rw [← midx_look]
  have hg := MapKept.run_getObj_map (P := P) hb
  simp only [Instr.lookup, Sem.run_bind, run_underlying hu, Result.andThen_ok, hg, Sem.run_pure, hc, hf]
  cases hm : midx es j with
  | none => cases ok <;> simp [run_zero hi hz]
  | some p => cases ok <;> simp

theorem OpP.lookup {d ty pos aft gd} {t kt : TypeId} {x y : Operand} {b c : Nat} {q : IntKind} {j : Int} {es : List Ent} {z : Value} (hx : kop kn x = some (.map (some b))) (hy : kop kn y = some (.int q j))
    (ht : mapI P t = some (kt, q, z)) (hm : (b, mobj q es c) ∈ H) : OpP P W0 n kn H ⟨d, .lookup t x y false, ty, pos, aft, gd⟩ ((mlook es j).getD z) := fun a w hF hS => by
  have := run_lookup (P := P) ht (own_heap hS hm) j false
  simp [execOp, hF.eval hx, hF.eval hy, this]
theorem OpP.lookup2 {d ty pos aft gd} {t kt : TypeId} {x y : Operand} {b c : Nat} {q : IntKind} {j : Int} {es : List Ent} {z : Value} (hx : kop kn x = some (.map (some b))) (hy : kop kn y = some (.int q j))
    (ht : mapI P t = some (kt, q, z)) (hm : (b, mobj q es c) ∈ H) : OpP P W0 n kn H ⟨d, .lookup t x y true, ty, pos, aft, gd⟩ (.tuple #[(mlook es j).getD z, .bool (mlook es j).isSome]) := fun a w hF hS => by
  have := run_lookup (P := P) ht (own_heap hS hm) j true
  simp [execOp, hF.eval hx, hF.eval hy, this]

theorem OpP.lookS {d ty pos aft gd} {t kt : TypeId} {x y : Operand} {b c : Nat} {q : IntKind} {j : Int} {es : List Ent} {z v : Value} (hx : kop kn x = some (.map (some b))) (hy : kop kn y = some (.int q j))
    (ht : mapI P t = some (kt, q, z)) (hm : (b, mobj q es c) ∈ H) (hl : mlook es j = some v) : OpP P W0 n kn H ⟨d, .lookup t x y false, ty, pos, aft, gd⟩ v := by
  have := OpP.lookup (P := P) (W0 := W0) (n := n) (d := d) (ty := ty) (pos := pos) (aft := aft) (gd := gd) hx hy ht hm
  rwa [hl] at this
theorem OpP.lookN {d ty pos aft gd} {t kt : TypeId} {x y : Operand} {b c : Nat} {q : IntKind} {j : Int} {es : List Ent} {z : Value} (hx : kop kn x = some (.map (some b))) (hy : kop kn y = some (.int q j))
    (ht : mapI P t = some (kt, q, z)) (hm : (b, mobj q es c) ∈ H) (hl : mlook es j = none) : OpP P W0 n kn H ⟨d, .lookup t x y false, ty, pos, aft, gd⟩ z := by
  have := OpP.lookup (P := P) (W0 := W0) (n := n) (d := d) (ty := ty) (pos := pos) (aft := aft) (gd := gd) hx hy ht hm
  rwa [hl] at this
theorem OpP.look2S {d ty pos aft gd} {t kt : TypeId} {x y : Operand} {b c : Nat} {q : IntKind} {j : Int} {es : List Ent} {z v : Value} (hx : kop kn x = some (.map (some b))) (hy : kop kn y = some (.int q j))
    (ht : mapI P t = some (kt, q, z)) (hm : (b, mobj q es c) ∈ H) (hl : mlook es j = some v) : OpP P W0 n kn H ⟨d, .lookup t x y true, ty, pos, aft, gd⟩ (.tuple #[v, .bool true]) := by
  have := OpP.lookup2 (P := P) (W0 := W0) (n := n) (d := d) (ty := ty) (pos := pos) (aft := aft) (gd := gd) hx hy ht hm
  rwa [hl] at this
theorem OpP.look2N {d ty pos aft gd} {t kt : TypeId} {x y : Operand} {b c : Nat} {q : IntKind} {j : Int} {es : List Ent} {z : Value} (hx : kop kn x = some (.map (some b))) (hy : kop kn y = some (.int q j))
    (ht : mapI P t = some (kt, q, z)) (hm : (b, mobj q es c) ∈ H) (hl : mlook es j = none) : OpP P W0 n kn H ⟨d, .lookup t x y true, ty, pos, aft, gd⟩ (.tuple #[z, .bool false]) := by
  have := OpP.lookup2 (P := P) (W0 := W0) (n := n) (d := d) (ty := ty) (pos := pos) (aft := aft) (gd := gd) hx hy ht hm
  rwa [hl] at this
theorem OpP.lenMap {d ty pos aft gd} {x : Operand} {t kt e : TypeId} {b c : Nat} {q : IntKind} {es : List Ent} (hx : kop kn x = some (.map (some b))) (ht : P.underlying t = some (.map kt e)) (hm : (b, mobj q es c) ∈ H) :
    OpP P W0 n kn H ⟨d, .call ⟨.builtin .len, #[x], #[t]⟩, ty, pos, aft, gd⟩ (.int .i64 es.length) := fun act w hF hS => by
  have hg := MapKept.run_getObj_map (P := P) (own_heap hS hm)
  simp [execOp, resolve, invoke, builtin, Builtin.len_, underlying, ht, hF.eval hx, goInt, hg]
theorem run_eqMap {t kt e : TypeId} (ht : P.underlying t = some (.map kt e)) (p : Option Nat) (w : World) : (binOp .eql t (.map p) (.map none)).run P w = .ok (.bool p.isNone) w := by
  exact run_eql_map_nil w t kt e p ht
theorem run_neMap {t kt e : TypeId} (ht : P.underlying t = some (.map kt e)) (p : Option Nat) (w : World) : (binOp .neq t (.map p) (.map none)).run P w = .ok (.bool (!p.isNone)) w := by
  exact run_neq_map_nil w t kt e p ht
theorem eqGuard_map (o : BinOp) (t : TypeId) (x y : Operand) (p q : Option Nat) (w : World) : (eqGuard o t x y (.map p) (.map q)).run P w = .ok () w := by
  cases o <;> rfl
theorem OpP.eqlMap {d ty pos aft g} {t t' kt e : TypeId} {x y : Operand} {p : Option Nat} (hx : kop kn x = some (.map p)) (hy : kop kn y = some (.map none)) (ht : P.underlying t = some (.map kt e)) :
    OpP P W0 n kn H ⟨d, .binOp .eql t x y t', ty, pos, aft, g⟩ (.bool p.isNone) := OpP.binR hx hy (eqGuard_map _ _ _ _ _ _) (run_eqMap ht p)
theorem OpP.neqMap {d ty pos aft g} {t t' kt e : TypeId} {x y : Operand} {p : Option Nat} (hx : kop kn x = some (.map p)) (hy : kop kn y = some (.map none)) (ht : P.underlying t = some (.map kt e)) :
    OpP P W0 n kn H ⟨d, .binOp .neq t x y t', ty, pos, aft, g⟩ (.bool (!p.isNone)) := OpP.binR hx hy (eqGuard_map _ _ _ _ _ _) (run_neMap ht p)

theorem run_setBlk {w : World} {b : Nat} {o' : Obj} {es : Array MapEntry} {c : Nat} (hb : w.heap[b]? = some (.map es c)) : (setObj b o').run P w = .ok () (World.setBlk w b o') := by
  simp [setObj, Sem.run, hb, World.setBlk]
theorem run_setIt {w : World} {b : Nat} {o' : Obj} {m : Option Nat} {c l : Nat} {s : Array Nat} (hb : w.heap[b]? = some (.mapIter m c s l)) : (setObj b o').run P w = .ok () (World.setBlk w b o') := by
  simp [setObj, Sem.run, hb, World.setBlk]

theorem midx_get : ∀ {es : List Ent} {j : Int} {p : Nat × Value}, midx es j = some p → ∃ e, es[p.1]? = some e ∧ e.key = j ∧ e.val = p.2
  | e :: es, j, p, h => by
    simp only [midx] at h
    by_cases h' : e.key = j
    · rw [if_pos h'] at h
      simp only [Option.some.injEq] at h
      subst h
      exact ⟨e, rfl, h', rfl⟩
    · rw [if_neg h'] at h
      simp only [Option.map_eq_some_iff] at h
      obtain ⟨p', h1, rfl⟩ := h
      obtain ⟨e', h2, h3⟩ := midx_get h1
      exact ⟨e', by simpa using h2, h3⟩
theorem put_none : ∀ {es : List Ent} {c : Nat} {j : Int} (v : Value), midx es j = none → mput es c j v = es ++ [⟨j, v, c⟩] ∧ mclk es c j = c + 1
  | [], _, _, _, _ => ⟨rfl, rfl⟩
  | e :: es, c, j, v, h => by
    simp only [midx] at h
    by_cases h' : e.key = j
    · rw [if_pos h'] at h; cases h
    · rw [if_neg h'] at h
      simp only [Option.map_eq_none_iff] at h
      have := put_none (c := c) v h
      simp only [mput, mclk, if_neg h', this.1, this.2, List.cons_append, and_self]
theorem put_some : ∀ {es : List Ent} {c : Nat} {j : Int} (q : IntKind) (v : Value) {p : Nat × Value}, midx es j = some p → mclk es c j = c ∧ (mput es c j v).map (Ent.e q) = (es.map (Ent.e q)).modify p.1 (fun e => { e with key := .int q j, val := v })
  | e :: es, c, j, q, v, p, h => by
    simp only [midx] at h
    by_cases h' : e.key = j
    · rw [if_pos h'] at h
      simp only [Option.some.injEq] at h
      subst h
      simp [mclk, mput, h', Ent.e]
    · rw [if_neg h'] at h
      simp only [Option.map_eq_some_iff] at h
      obtain ⟨p', h1, rfl⟩ := h
      have := put_some (c := c) q v h1
      simp [mclk, mput, h', this.1, this.2]
theorem del_some : ∀ {es : List Ent} {j : Int} (q : IntKind) {p : Nat × Value}, midx es j = some p → p.1 < es.length ∧ (mdel es j).map (Ent.e q) = (es.map (Ent.e q)).eraseIdx p.1
  | e :: es, j, q, p, h => by
    simp only [midx] at h
    by_cases h' : e.key = j
    · rw [if_pos h'] at h
      simp only [Option.some.injEq] at h
      subst h
      simp [mdel, h']
    · rw [if_neg h'] at h
      simp only [Option.map_eq_some_iff] at h
      obtain ⟨p', h1, rfl⟩ := h
      have := del_some q h1
      simp [mdel, h', this.1, this.2]
theorem del_none : ∀ {es : List Ent} {j : Int}, midx es j = none → mdel es j = es
  | [], _, _ => rfl
  | e :: es, j, h => by
    simp only [midx] at h
    by_cases h' : e.key = j
    · rw [if_pos h'] at h; cases h
    · rw [if_neg h'] at h
      simp only [Option.map_eq_none_iff] at h
      simp [mdel, h', del_none h]

/-- m[k] = v. -/
theorem OpS.mapUpdate {d ty pos aft gd} {t kt : TypeId} {x y u : Operand} {b c i : Nat} {q : IntKind} {j : Int} {es : List Ent} {z v : Value} (hx : kop kn x = some (.map (some b))) (hy : kop kn y = some (.int q j)) (hu : kop kn u = some v)
    (ht : mapI P t = some (kt, q, z)) (hi : H[i]? = some (b, mobj q es c)) : OpS P W0 n kn H ⟨d, .mapUpdate t x y u, ty, pos, aft, gd⟩ (H.set i (b, mobj q (mput es c j v) (mclk es c j))) := fun a w hF hS => by
  obtain ⟨e, inf, hty, hk, _, _⟩ := mapI_spec ht
  have hb := own_heap hS (List.mem_of_getElem? hi)
  have hf := MapKept.run_findKey (P := P) (w := w) hk (findNow_ents q q j es 0)
  have hc := MapKept.run_checkKey (P := P) (w := w) (k := .int q j) hk rfl false 9999
  have hg := MapKept.run_getObj_map (P := P) hb
  refine ⟨World.setBlk w b (mobj q (mput es c j v) (mclk es c j)), ?_, hS.setBlk hi⟩
  have key : (Instr.mapUpdate t (.map (some b)) (.int q j) v).run P w = .ok () (World.setBlk w b (mobj q (mput es c j v) (mclk es c j))) := by
    simp only [Instr.mapUpdate, Sem.run_bind, run_underlying hty, Result.andThen_ok, hg, hc, hf]
    cases hm : midx es j with
    | none =>
      have hp := put_none (c := c) v hm
      simp only [Option.map_none, run_setBlk hb]
      rw [hp.1, hp.2]
      simp [Ent.e, mobj]
    | some p =>
      obtain ⟨e', he', hek, hev⟩ := midx_get hm
      have hp := put_some (c := c) q v hm
      have hge : ((⟨es.map (Ent.e q)⟩ : Array MapEntry)[p.1]?) = some (Ent.e q e') := by simp [he']
      have hks := MapKept.run_keyThatStays (P := P) (w := w) (d := .int q) (k := .int q j) rfl
      simp only [Option.map_some, Nat.zero_add, hge, Option.getD_some, Ent.e, hek, Sem.run_bind, hks, Result.andThen_ok, run_setBlk hb]
      rw [hp.1]
      congr 3
      apply Array.ext'
      simp only [Array.toList_modify]
      exact hp.2.symm
  simp [execOp, hF.eval hx, hF.eval hy, hF.eval hu, key]

/-- make(map). -/
theorem WL.makeMap {d ty pos aft} {t : TypeId} {rest : List Oper} (q : IntKind) (hd : dok n d = true)
    (k : ∀ b, WL P W0 n ops Q (kset kn d (.map (some b))) ((b, mobj q [] 0) :: H) rest) : WL P W0 n ops Q kn H (⟨d, .makeMap t none, ty, pos, aft, none⟩ :: rest) := by
  refine WL.x (R := fun v H' => ∃ b, v = .map (some b) ∧ H' = (b, mobj q [] 0) :: H) (.none rfl) hd (fun a w hF hS => ?_) (fun v H' ⟨b, e1, e2⟩ => by subst e1 e2; exact k b)
  refine ⟨_, _, _, ?_, ⟨w.heap.size, rfl, rfl⟩, hS.alloc _⟩
  simp [execOp, Instr.makeMap, newObj, Sem.run, mobj]

/-- delete(m, k). -/
theorem WL.delete {o : Oper} {rest : List Oper} {x y : Operand} {t t2 kt : TypeId} {b c i : Nat} {q : IntKind} {j : Int} {es : List Ent} {z : Value}
    (ho : o.op = .call ⟨.builtin .delete, #[x, y], #[t, t2]⟩) (hg : Wn n ops kn o true) (hd : dok n o.dst = true) (hx : kop kn x = some (.map (some b))) (hy : kop kn y = some (.int q j))
    (ht : mapI P t = some (kt, q, z)) (hi : H[i]? = some (b, mobj q es c))
    (k : WL P W0 n ops Q (kset kn o.dst (.tuple #[])) (H.set i (b, mobj q (mdel es j) c)) rest) : WL P W0 n ops Q kn H (o :: rest) := by
  refine WL.x (R := fun v H' => v = .tuple #[] ∧ H' = H.set i (b, mobj q (mdel es j) c)) hg hd (fun act w hF hS => ?_) (fun v H' ⟨e1, e2⟩ => by subst e1 e2; exact k)
  obtain ⟨qq, hq⟩ := run_builtin (P := P) ho act.eval w
  obtain ⟨e, inf, hty, hk, _, _⟩ := mapI_spec ht
  have hb := own_heap hS (List.mem_of_getElem? hi)
  have hf := MapKept.run_findKey (P := P) (w := w) hk (findNow_ents q q j es 0)
  have hc := MapKept.run_checkKey (P := P) (w := w) (k := .int q j) hk rfl (⟨es.map (Ent.e q)⟩ : Array MapEntry).isEmpty 9999
  have hgo := MapKept.run_getObj_map (P := P) hb
  refine ⟨_, World.setBlk w b (mobj q (mdel es j) c), _, ?_, ⟨rfl, rfl⟩, hS.setBlk hi⟩
  rw [hq]
  have key : (Builtin.delete_ #[t, t2] o.type #[.map (some b), .int q j]).run P w = .ok (.tuple #[]) (World.setBlk w b (mobj q (mdel es j) c)) := by
    simp only [Builtin.delete_, List.getElem?_toArray, List.getElem?_cons_zero, List.getElem?_cons_succ, Sem.run_bind, run_underlying hty, Result.andThen_ok, hgo, hc, hf]
    cases hm : midx es j with
    | none => simp [run_setBlk hb, del_none hm]
    | some p =>
      have hp := del_some q hm
      have e1 : (⟨es.map (Ent.e q)⟩ : Array MapEntry).eraseIdxIfInBounds p.1 = ⟨(mdel es j).map (Ent.e q)⟩ := by
        rw [hp.2]
        unfold Array.eraseIdxIfInBounds
        simp [hp.1]
      simp [run_setBlk hb, e1]
  simp [builtin, hF.eval hx, hF.eval hy, key]

theorem WC.hp {H' : Hp} {c : Code} (hh : ∀ w, St W0 w H → St W0 w H') (h : WC P W0 n Q kn H' c) : WC P W0 n Q kn H c := fun a w hF hS => h a w hF (hh w hS)
/-! ### Loops over a map -/
abbrev iobj (b since : Nat) (seen : List Nat) (last : Nat) : Obj := .mapIter (some b) since ⟨seen⟩ last

/-- range m. -/
theorem WL.range {d ty pos aft} {t kt : TypeId} {x : Operand} {b c : Nat} {q : IntKind} {es : List Ent} {z : Value} {rest : List Oper} (hx : kop kn x = some (.map (some b))) (ht : mapI P t = some (kt, q, z)) (hm : (b, mobj q es c) ∈ H) (hd : dok n d = true)
    (k : ∀ r, WL P W0 n ops Q (kset kn d (.pointer (some ⟨r, 0, none⟩))) ((r, iobj b c [] c) :: H) rest) : WL P W0 n ops Q kn H (⟨d, .range t x, ty, pos, aft, none⟩ :: rest) := by
  refine WL.x (R := fun v H' => ∃ r, v = .pointer (some ⟨r, 0, none⟩) ∧ H' = (r, iobj b c [] c) :: H) (.none rfl) hd (fun a w hF hS => ?_) (fun v H' ⟨r, e1, e2⟩ => by subst e1 e2; exact k r)
  obtain ⟨e, inf, hty, hk, _, _⟩ := mapI_spec ht
  have hg := MapKept.run_getObj_map (P := P) (own_heap hS hm)
  refine ⟨_, _, _, ?_, ⟨w.heap.size, rfl, rfl⟩, hS.alloc _⟩
  simp [execOp, hF.eval hx, Instr.range, run_underlying hty, hg, newObj, Sem.run]

/-- The next entry: none is left, or whichever is. -/
theorem WL.next {d ty pos aft} {x : Operand} {r b c i s l : Nat} {tt : TypeId} {q : IntKind} {es : List Ent} {seen : List Nat} {rest : List Oper} (hx : kop kn x = some (.pointer (some ⟨r, 0, none⟩))) (hi : H[i]? = some (r, iobj b s seen l)) (hm : (b, mobj q es c) ∈ H)
    (hd : dok n d = true) (hold : ∀ e ∈ es, e.born < s) (hsl : s ≤ l)
    (done : (∀ e ∈ es, e.born ∈ seen) → WL P W0 n ops Q (kset kn d (.tuple #[.bool false])) H rest)
    (more : ∀ e ∈ es, e.born ∉ seen → WL P W0 n ops Q (kset kn d (.tuple #[.bool true, .int q e.key, e.val])) (H.set i (r, iobj b s (seen ++ [e.born]) c)) rest) :
    WL P W0 n ops Q kn H (⟨d, .next x false, ty, pos, aft, none⟩ :: rest) := by
  refine WL.x (R := fun v H' => (v = .tuple #[.bool false] ∧ H' = H ∧ ∀ e ∈ es, e.born ∈ seen) ∨ ∃ e ∈ es, e.born ∉ seen ∧ v = .tuple #[.bool true, .int q e.key, e.val] ∧ H' = H.set i (r, iobj b s (seen ++ [e.born]) c)) (.none rfl) hd (fun a w hF hS => ?_)
    (fun v H' hR => by
      rcases hR with ⟨e1, e2, h3⟩ | ⟨e, he, hne, e1, e2⟩
      · subst e1 e2; exact done h3
      · subst e1 e2; exact more e he hne)
  have hb := own_heap hS hm
  have hr := own_heap hS (List.mem_of_getElem? hi)
  have hgm : (getObj b).run P w = .ok (mobj q es c) w := MapKept.run_getObj_map hb
  have hgi : (getObj r).run P w = .ok (iobj b s seen l) w := by simp [getObj, Sem.run, hr]
  have htest : (!(⟨seen⟩ : Array Nat).isEmpty && !(⟨es.map (Ent.e q)⟩ : Array MapEntry).isEmpty && (⟨es.map (Ent.e q)⟩ : Array MapEntry).all (fun x => decide (x.born ≥ l))) = false :=
    next_test_false _ _ s l (fun x hx => by
      obtain ⟨e, he, rfl⟩ := List.mem_map.1 hx
      exact hold e he) hsl
  have hmem : ∀ x ∈ (leftOf (⟨es.map (Ent.e q)⟩ : Array MapEntry) ⟨seen⟩).toList, ∃ e ∈ es, e.born ∉ seen ∧ x = Ent.e q e := fun x hx => by
    simp only [leftOf, Array.toList_filter, List.mem_filter, List.mem_map] at hx
    obtain ⟨⟨e, he, rfl⟩, h2⟩ := hx
    refine ⟨e, he, ?_, rfl⟩
    simpa [Ent.e] using h2
  have hnone : (leftOf (⟨es.map (Ent.e q)⟩ : Array MapEntry) ⟨seen⟩).size = 0 → ∀ e ∈ es, e.born ∈ seen := fun h0 e he => by
    have h1 := Array.eq_empty_of_size_eq_zero h0
    by_cases hc : e.born ∈ seen
    · exact hc
    · exfalso
      have : Ent.e q e ∈ (leftOf (⟨es.map (Ent.e q)⟩ : Array MapEntry) ⟨seen⟩).toList := by
        simp only [leftOf, Array.toList_filter, List.mem_filter, List.mem_map]
        exact ⟨⟨e, he, rfl⟩, by simpa [Ent.e] using hc⟩
      rw [h1] at this
      simp at this
  have key : ((leftOf (⟨es.map (Ent.e q)⟩ : Array MapEntry) ⟨seen⟩).size = 0 ∧ (Instr.next (.pointer (some ⟨r, 0, none⟩)) false ty).run P w = .ok (.tuple #[.bool false]) w) ∨
      ∃ y ∈ (leftOf (⟨es.map (Ent.e q)⟩ : Array MapEntry) ⟨seen⟩).toList, ∃ dr, (Instr.next (.pointer (some ⟨r, 0, none⟩)) false ty).run P w = .ok (.tuple #[.bool true, y.key, y.val]) (World.setBlk { w with drawn := dr } r (.mapIter (some b) s ((⟨seen⟩ : Array Nat).push y.born) c)) := by
    simp only [Instr.next, Sem.run_bind, hgi, Result.andThen_ok, hgm, htest, Bool.false_eq_true, if_false]
    show _ ∨ _
    have hlow : ∀ x ∈ (leftOf (⟨es.map (Ent.e q)⟩ : Array MapEntry) ⟨seen⟩).toList, x.born < s := fun x hx => by
      obtain ⟨e, he, _, rfl⟩ := hmem x hx
      exact hold e he
    unfold leftOf at hlow ⊢
    generalize Array.filter (fun e : MapEntry => !(⟨seen⟩ : Array Nat).contains e.born) (⟨es.map (Ent.e q)⟩ : Array MapEntry) = L at hlow ⊢
    have e1 : L.filter (fun x => decide (x.born < s)) = L := Array.filter_eq_self.2 (fun x hx => by simpa using hlow x (by simpa using hx))
    have e2 : L.filter (fun x => decide (x.born ≥ s)) = #[] := by
      rw [Array.filter_eq_empty_iff]
      intro x hx
      have := hlow x (by simpa using hx)
      simp
      omega
    simp only [e1, e2, Array.append_empty]
    by_cases h0 : L.size = 0
    · left
      have : L = #[] := Array.eq_empty_of_size_eq_zero h0
      subst this
      refine ⟨rfl, ?_⟩
      simp [choose, Sem.run, Question.forced]
    · right
      have hne : L.isEmpty = false := by simp [Array.isEmpty, h0]
      simp only [hne, Bool.false_eq_true, if_false, Array.empty_append, Array.size_map]
      have hch : ∃ (j : Nat) (dr : Nat), j < L.size ∧ (choose (Question.mapNext L.size)).run P w = .ok j { w with drawn := dr } := by
        by_cases hf : L.size ≤ 1
        · exact ⟨0, w.drawn, by omega, by simp [choose, Sem.run, Question.forced, hf]⟩
        · exact ⟨_, w.drawn + 1, Nat.mod_lt _ (by omega), by
            simp only [choose, Sem.run, Question.forced, decide_eq_true_eq, hf, if_false, Question.cut]
            rfl⟩
      obtain ⟨j, dr, hj, hrun⟩ := hch
      refine ⟨L[j], by simp, dr, ?_⟩
      have hr' : ({ w with drawn := dr } : World).heap[r]? = some (.mapIter (some b) s ⟨seen⟩ l) := hr
      simp only [hrun, Result.andThen_ok, Array.getElem?_map, Array.getElem?_eq_getElem hj, Option.map_some, Sem.run_bind, run_setIt hr']
      rfl
  rcases key with ⟨h0, hrun⟩ | ⟨y, hy, dr, hrun⟩
  · exact ⟨_, w, H, by simp [execOp, hF.eval hx, hrun], .inl ⟨rfl, rfl, hnone h0⟩, hS⟩
  · obtain ⟨e, he, hne, rfl⟩ := hmem y hy
    refine ⟨_, _, H.set i (r, iobj b s (seen ++ [e.born]) c), by simp only [execOp, hF.eval hx, hrun, Sem.run_bind, Result.andThen_ok]; rfl, .inr ⟨e, he, hne, rfl, rfl⟩, ?_⟩
    have e9 : (⟨seen⟩ : Array Nat).push (Ent.e q e).born = ⟨seen ++ [e.born]⟩ := by simp [Ent.e]
    rw [e9]
    exact (hS.drawn dr).setBlk hi

theorem find_ent (q : IntKind) (e : Ent) : ∀ (l : List Ent), (l.map Ent.born).Nodup → e ∈ l → (l.map (Ent.e q)).find? (fun x => x.born == e.born) = some (Ent.e q e)
  | x :: l, hn, he => by
    simp only [List.map_cons, List.nodup_cons] at hn
    simp only [List.map_cons, List.find?_cons]
    rcases List.mem_cons.1 he with rfl | h
    · simp [Ent.e]
    · have hx : ((Ent.e q x).born == e.born) = false := by
        simp only [Ent.e, beq_eq_false_iff_ne, ne_eq]
        intro hc
        exact hn.1 (by rw [hc]; exact List.mem_map.2 ⟨e, h, rfl⟩)
      rw [hx]
      exact find_ent q e l hn.2 h
/-- The key and the value of the entry that the step handed out. -/
theorem OpP.entry {d ty pos aft gd} {x : Operand} {r b c s : Nat} {q : IntKind} {es : List Ent} {seen : List Nat} {e : Ent} (hx : kop kn x = some (.pointer (some ⟨r, 0, none⟩))) (hm : (r, iobj b s (seen ++ [e.born]) c) ∈ H) (hmm : (b, mobj q es c) ∈ H)
    (he : e ∈ es) (hn : (es.map Ent.born).Nodup) : OpP P W0 n kn H ⟨d, .entry x, ty, pos, aft, gd⟩ (.tuple #[.int q e.key, e.val]) := fun a w hF hS => by
  have hr := own_heap hS hm
  have hgm : (getObj b).run P w = .ok (mobj q es c) w := MapKept.run_getObj_map (own_heap hS hmm)
  have hgi : (getObj r).run P w = .ok (iobj b s (seen ++ [e.born]) c) w := by simp [getObj, Sem.run, hr]
  have hbk : (⟨seen ++ [e.born]⟩ : Array Nat).back? = some e.born := by simp [Array.back?_eq_getElem?]
  have hf : (⟨es.map (Ent.e q)⟩ : Array MapEntry).find? (fun x => x.born == e.born) = some (Ent.e q e) := by
    rw [← Array.find?_toList]; exact find_ent q e es hn he
  have key : (Instr.entry (.pointer (some ⟨r, 0, none⟩))).run P w = .ok (.tuple #[.int q e.key, e.val]) w := by
    simp only [Instr.entry, Sem.run_bind, hgi, Result.andThen_ok, hbk, hgm, bne_self_eq_false, Bool.false_eq_true, if_false, hf]
    rfl
  simp [execOp, hF.eval hx, key]
end
end Go.Sx
