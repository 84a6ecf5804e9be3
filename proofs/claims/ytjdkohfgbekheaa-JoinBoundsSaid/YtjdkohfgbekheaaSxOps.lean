/- The rules of single operations, over what is known of temporaries and blocks. No conditions. -/
import Derived.Test.YtjdkohfgbekheaaSx
import Derived.IntWalk
import Derived.Laws.Cells
import Derived.Laws.Small
import Derived.Laws.Pointers
import Derived.Laws.StructEq
import Derived.WalkSpells
import Derived.WalkLawsBesides
namespace Go.Sx
open Go Go.RowKit

/-! ### Closed facts on types -/
def isAggD : TypeDesc → Bool
  | .struct _ | .array _ _ => true
  | _ => false
/-- Is a type a struct or an array, and how many cells has it. -/
def tyI (P : Program) (t : TypeId) : Option (Bool × Nat) := match P.underlying t, P.info? t with
  | some d, some i => some (isAggD d, i.size)
  | _, _ => none
/-- Where field f of a struct lies. -/
def fldI (P : Program) (s : TypeId) (f : Nat) : Option (Nat × Bool × Nat) := match P.underlying s with
  | some (.struct fs) => match fs[f]? with
    | some fd => match P.underlying fd.type, P.info? fd.type with
      | some d, some i => if i.size = 0 then none else some (fd.offset, isAggD d, i.size)
      | _, _ => none
    | none => none
  | _ => none
/-- An array's length (a slice: none), and its elements: whether they are structs or arrays, and their cells. -/
def elI (P : Program) (t : TypeId) : Option (Option Nat × TypeId × Bool × Nat) := match P.underlying t with
  | some (.array n e) => match P.underlying e, P.info? e with
    | some d, some i => some (some n, e, isAggD d, i.size)
    | _, _ => none
  | some (.slice e) => match P.underlying e, P.info? e with
    | some d, some i => some (none, e, isAggD d, i.size)
    | _, _ => none
  | _ => none

theorem tyI_spec {P : Program} {t : TypeId} {g : Bool} {k : Nat} (h : tyI P t = some (g, k)) :
    ∃ d i, P.underlying t = some d ∧ P.info? t = some i ∧ isAggD d = g ∧ i.size = k := by
  unfold tyI at h
  split at h
  · rename_i d i hd hi
    simp only [Option.some.injEq, Prod.mk.injEq] at h
    exact ⟨d, i, hd, hi, h.1, h.2⟩
  · simp at h

theorem run_sizeOf_ty {P : Program} {t : TypeId} {g : Bool} {k : Nat} (h : tyI P t = some (g, k)) (w : World) : (sizeOf t).run P w = .ok k w := by
  obtain ⟨d, i, hd, hi, h1, h2⟩ := tyI_spec h
  simp [sizeOf, typeInfo, hi, h2]
theorem run_isAgg_ty {P : Program} {t : TypeId} {g : Bool} {k : Nat} (h : tyI P t = some (g, k)) (w : World) : (isAgg t).run P w = .ok g w := by
  obtain ⟨d, i, hd, hi, h1, h2⟩ := tyI_spec h
  subst h1
  unfold isAgg
  simp only [Sem.run_bind, underlying, run_program, Result.andThen_ok, hd, Sem.run_pure]
  cases d <;> rfl

/-- A block of cells of the call's own. -/
abbrev cl (l : List Value) (T : TypeId) : Obj := .cells ⟨l⟩ T (0, 0)

/-- A cell that reads so in every such world. -/
def Rd (W0 : World) (H : Hp) (a : Addr) (v : Value) : Prop := ∀ w, St W0 w H → w.cell? a = some v

section
variable {P : Program} {W0 : World} {n : Nat} {kn : Kn} {H : Hp}

theorem Rd.own {b o : Nat} {l : List Value} {T : TypeId} {v : Value} (h : (b, cl l T) ∈ H) (hv : l[o]? = some v) : Rd W0 H ⟨b, o, none⟩ v := fun w hS => by
  have := (hS.own _ h).2
  simp only [] at this
  simp [World.cell?, this, hv]
theorem Rd.ro {a : Addr} {v : Value} (h : W0.cell? a = some v) : Rd W0 H a v := fun w hS => by
  rw [← h]
  exact hS.below.cell (World.block_lt_of_cell? W0 a h)
theorem Rd.cons {a : Addr} {v : Value} {p : Nat × Obj} (h : Rd W0 H a v) : Rd W0 (p :: H) a v := fun w hS => h w hS.drop
theorem Rd.of {H' : Hp} {a : Addr} {v : Value} (h : Rd W0 H a v) (hh : ∀ w, St W0 w H' → St W0 w H) : Rd W0 H' a v := fun w hS => h w (hh w hS)

/-! ### Copies, tests -/
theorem OpP.move {d ty pos aft g} {x : Operand} {v : Value} (hx : kop kn x = some v) : OpP P W0 n kn H ⟨d, .move x, ty, pos, aft, g⟩ v := fun a w hF _ => by
  simp [execOp, hF.eval hx]
theorem OpP.assign {d ty pos aft g} {x : Operand} {v : Value} (hx : kop kn x = some v) : OpP P W0 n kn H ⟨d, .assign x, ty, pos, aft, g⟩ v := fun a w hF _ => by
  simp [execOp, hF.eval hx]
theorem OpP.pick {d ty pos aft g} {c x y : Operand} {b : Bool} {v : Value} (hc : kop kn c = some (.bool b)) (hx : b = true → kop kn x = some v) (hy : b = false → kop kn y = some v) :
    OpP P W0 n kn H ⟨d, .pick c x y, ty, pos, aft, g⟩ v := fun a w hF _ => by
  cases b
  · simp [execOp, hF.eval hc, hF.eval (hy rfl), asBool]
  · simp [execOp, hF.eval hc, hF.eval (hx rfl), asBool]
/-- 'x || y', 'x && y'. -/
theorem OpP.por {d ty pos aft g} {c x y : Operand} {b r : Bool} (hc : kop kn c = some (.bool b)) (hx : kop kn x = some (.bool true)) (hy : kop kn y = some (gv (b == false) (.bool r))) :
    OpP P W0 n kn H ⟨d, .pick c x y, ty, pos, aft, g⟩ (.bool (b || r)) := by
  cases b
  · exact OpP.pick hc (fun h => by cases h) (fun _ => hy)
  · exact OpP.pick hc (fun _ => hx) (fun h => by cases h)
theorem OpP.pand {d ty pos aft g} {c x y : Operand} {b r : Bool} (hc : kop kn c = some (.bool b)) (hx : kop kn x = some (gv (b == true) (.bool r))) (hy : kop kn y = some (.bool false)) :
    OpP P W0 n kn H ⟨d, .pick c x y, ty, pos, aft, g⟩ (.bool (b && r)) := by
  cases b
  · exact OpP.pick hc (fun h => by cases h) (fun _ => hy)
  · exact OpP.pick hc (fun _ => hx) (fun h => by cases h)
theorem OpP.pickT {d ty pos aft g} {c x y : Operand} {v : Value} (hc : kop kn c = some (.bool true)) (hx : kop kn x = some v) : OpP P W0 n kn H ⟨d, .pick c x y, ty, pos, aft, g⟩ v :=
  OpP.pick hc (fun _ => hx) (fun h => by cases h)
theorem OpP.pickF {d ty pos aft g} {c x y : Operand} {v : Value} (hc : kop kn c = some (.bool false)) (hy : kop kn y = some v) : OpP P W0 n kn H ⟨d, .pick c x y, ty, pos, aft, g⟩ v :=
  OpP.pick hc (fun h => by cases h) (fun _ => hy)
theorem OpP.nilCheck {d ty pos aft g} {x : Operand} {p : Addr} (hx : kop kn x = some (.pointer (some p))) : OpP P W0 n kn H ⟨d, .nilCheck x, ty, pos, aft, g⟩ (.pointer (some p)) := fun a w hF _ => by
  simp [execOp, hF.eval hx]
theorem OpP.not {d ty pos aft g t} {x : Operand} {b : Bool} (hx : kop kn x = some (.bool b)) : OpP P W0 n kn H ⟨d, .unOp .not t x, ty, pos, aft, g⟩ (.bool (!b)) := fun a w hF _ => by
  simp [execOp, hF.eval hx, Op.unary]
theorem OpP.extract {d ty pos aft g} {x : Operand} {i : Nat} {vs : Array Value} {v : Value} (hx : kop kn x = some (.tuple vs)) (hv : vs[i]? = some v) :
    OpP P W0 n kn H ⟨d, .extract x i, ty, pos, aft, g⟩ v := fun a w hF _ => by
  simp [execOp, hF.eval hx, Instr.extract, hv]

/-! ### Addresses, loads -/
theorem addr_add (b o k : Nat) : (⟨b, o, none⟩ : Addr).add k = ⟨b, o + k, none⟩ := by
  unfold Addr.add
  split
  · rename_i h; subst h; rfl
  · rfl

theorem fldI_spec {s : TypeId} {f off k : Nat} {g : Bool} (h : fldI P s f = some (off, g, k)) :
    ∃ fs fd, P.underlying s = some (.struct fs) ∧ fs[f]? = some fd ∧ fd.offset = off ∧ tyI P fd.type = some (g, k) ∧ k ≠ 0 := by
  unfold fldI at h
  split at h
  · rename_i fs hs
    split at h
    · rename_i fd hfd
      split at h
      · rename_i d i hd hi
        split at h
        · simp at h
        · rename_i hne
          simp only [Option.some.injEq, Prod.mk.injEq] at h
          obtain ⟨h1, h2, h3⟩ := h
          exact ⟨fs, fd, hs, hfd, h1, by simp [tyI, hd, hi, h2, h3], by rw [← h3]; exact hne⟩
      · simp at h
    · simp at h
  · simp at h

theorem OpP.fieldAddr {d ty pos aft gd} {s : TypeId} {x : Operand} {f b o off k : Nat} {g : Bool} (hx : kop kn x = some (.pointer (some ⟨b, o, none⟩))) (hf : fldI P s f = some (off, g, k)) :
    OpP P W0 n kn H ⟨d, .fieldAddr s x f, ty, pos, aft, gd⟩ (.pointer (some ⟨b, o + off, none⟩)) := fun a w hF _ => by
  obtain ⟨fs, fd, h1, h2, h3, h4, h5⟩ := fldI_spec hf
  simp [execOp, hF.eval hx, Instr.fieldAt, underlying, h1, h2, Instr.sureAddr, fieldPlace, run_sizeOf_ty h4, h5, h3, addr_add]

theorem OpP.field {d ty pos aft gd} {s : TypeId} {x : Operand} {f off k : Nat} {cs : Array Value} {v : Value} (hx : kop kn x = some (.agg cs)) (hf : fldI P s f = some (off, false, k)) (hv : cs[off]? = some v) :
    OpP P W0 n kn H ⟨d, .field s x f, ty, pos, aft, gd⟩ v := fun a w hF _ => by
  obtain ⟨fs, fd, h1, h2, h3, h4, h5⟩ := fldI_spec hf
  simp [execOp, hF.eval hx, Instr.field, underlying, h1, h2, asAgg, part, run_isAgg_ty h4, h3, hv]
theorem OpP.fieldA {d ty pos aft gd} {s : TypeId} {x : Operand} {f off k : Nat} {cs : Array Value} (hx : kop kn x = some (.agg cs)) (hf : fldI P s f = some (off, true, k)) :
    OpP P W0 n kn H ⟨d, .field s x f, ty, pos, aft, gd⟩ (.agg (cs.extract off (off + k))) := fun a w hF _ => by
  obtain ⟨fs, fd, h1, h2, h3, h4, h5⟩ := fldI_spec hf
  simp [execOp, hF.eval hx, Instr.field, underlying, h1, h2, asAgg, part, run_isAgg_ty h4, h3, run_sizeOf_ty h4]

theorem OpP.load {d ty pos aft gd} {t : TypeId} {x : Operand} {p : Addr} {k : Nat} {v : Value} (hx : kop kn x = some (.pointer (some p))) (ht : tyI P t = some (false, k)) (hv : Rd W0 H p v) :
    OpP P W0 n kn H ⟨d, .load t x, ty, pos, aft, gd⟩ v := fun a w hF hS => by
  simp [execOp, hF.eval hx, Instr.loadAt, Instr.sureAddr, loadVar, run_isAgg_ty ht, hv w hS]
theorem OpP.loadA {d ty pos aft gd} {t : TypeId} {x : Operand} {b o k : Nat} {vs : List Value} (hx : kop kn x = some (.pointer (some ⟨b, o, none⟩))) (ht : tyI P t = some (true, k)) (hk : vs.length = k)
    (hv : ∀ j v, vs[j]? = some v → Rd W0 H ⟨b, o + j, none⟩ v) :
    OpP P W0 n kn H ⟨d, .load t x, ty, pos, aft, gd⟩ (.agg ⟨vs⟩) := fun a w hF hS => by
  subst hk
  have := run_loadCells_list (P := P) (w := w) ⟨b, o, none⟩ vs (fun j v hj => by rw [addr_add]; exact hv j v hj w hS)
  simp [execOp, hF.eval hx, Instr.loadAt, Instr.sureAddr, loadVar, run_isAgg_ty ht, run_sizeOf_ty ht, this]
/-- A struct or an array out of a block of the call's own. -/
theorem OpP.loadB {d ty pos aft gd} {t : TypeId} {x : Operand} {b o k : Nat} {l : List Value} {T : TypeId} (hx : kop kn x = some (.pointer (some ⟨b, o, none⟩))) (ht : tyI P t = some (true, k))
    (hm : (b, cl l T) ∈ H) (hl : Nat.ble (o + k) l.length = true) :
    OpP P W0 n kn H ⟨d, .load t x, ty, pos, aft, gd⟩ (.agg ⟨(l.drop o).take k⟩) := by
  have hl' := Nat.le_of_ble_eq_true hl
  refine OpP.loadA hx ht (by simp; omega) (fun j v hj => Rd.own hm ?_)
  rw [List.getElem?_take] at hj
  split at hj
  · rw [List.getElem?_drop] at hj; exact hj
  · simp at hj

/-! ### Stores -/
def World.setBlk (w : World) (b : Nat) (o : Obj) : World := { w with heap := w.heap.setIfInBounds b o }

theorem setCell_blk {w : World} {b o : Nat} {l : List Value} {T : TypeId} (hb : w.heap[b]? = some (cl l T)) (v : Value) :
    w.setCell ⟨b, o, none⟩ v = World.setBlk w b (cl (l.set o v) T) := by
  unfold World.setCell World.setBlk
  congr 1
  apply Array.ext_getElem?
  intro i
  rw [Array.getElem?_modify, Array.getElem?_setIfInBounds]
  by_cases e : b = i
  · subst e
    have hlt : b < w.heap.size := by
      rcases Nat.lt_or_ge b w.heap.size with h | h
      · exact h
      · rw [Array.getElem?_eq_none h] at hb; cases hb
    have hb' : w.heap[b] = cl l T := by rw [Array.getElem?_eq_getElem hlt] at hb; exact Option.some.inj hb
    simp [hlt, hb']
  · simp [e]

theorem setBlk_get {w : World} {b : Nat} {o o' : Obj} (hb : w.heap[b]? = some o) : (World.setBlk w b o').heap[b]? = some o' := by
  have hlt : b < w.heap.size := by
    rcases Nat.lt_or_ge b w.heap.size with h | h
    · exact h
    · rw [Array.getElem?_eq_none h] at hb; cases hb
  simp [World.setBlk, hlt]

theorem setBlk_setBlk (w : World) (b : Nat) (o o' : Obj) : World.setBlk (World.setBlk w b o) b o' = World.setBlk w b o' := by
  simp [World.setBlk]

theorem setBlk_self {w : World} {b : Nat} {o : Obj} (hb : w.heap[b]? = some o) : World.setBlk w b o = w := by
  unfold World.setBlk
  congr 1
  apply Array.ext_getElem?
  intro i
  rw [Array.getElem?_setIfInBounds]
  split
  · rename_i e; subst e
    have hlt : b < w.heap.size := by
      rcases Nat.lt_or_ge b w.heap.size with h | h
      · exact h
      · rw [Array.getElem?_eq_none h] at hb; cases hb
    rw [Array.getElem?_eq_getElem hlt] at hb
    simp [hlt]
    exact (Option.some.inj hb).symm
  · rfl

theorem St.setBlk {W0 w : World} {H : Hp} (h : St W0 w H) {i b : Nat} {o o' : Obj} (hi : H[i]? = some (b, o)) : St W0 (World.setBlk w b o') (H.set i (b, o')) :=
  h.set hi rfl rfl rfl (by simp [World.setBlk]) (fun k _ hkb => by simp only [World.setBlk]; rw [Array.getElem?_setIfInBounds_ne (Ne.symm hkb)])
    (setBlk_get (h.own _ (List.mem_of_getElem? hi)).2)

/-- Cells from o on, written over. -/
def spl (l : List Value) : Nat → List Value → List Value
  | _, [] => l
  | o, v :: vs => spl (l.set o v) (o + 1) vs

theorem spl_length (vs : List Value) : ∀ (l : List Value) (o : Nat), (spl l o vs).length = l.length := by
  induction vs with
  | nil => intro l o; rfl
  | cons v vs ih => intro l o; simp [spl, ih]

theorem spl_eq (vs : List Value) : ∀ (l : List Value) (o : Nat), o + vs.length ≤ l.length → spl l o vs = l.take o ++ vs ++ l.drop (o + vs.length) := by
  induction vs with
  | nil => intro l o _; simp [spl]
  | cons v vs ih =>
    intro l o h
    simp only [List.length_cons] at h
    rw [spl, ih _ _ (by simp; omega)]
    have h1 : (l.set o v).take (o + 1) = l.take o ++ [v] := by
      rw [List.take_set, List.take_succ_eq_append_getElem (by omega)]
      rw [List.set_append]
      simp
      have : min o l.length = o := by omega
      simp [this]
    rw [h1]
    rw [List.drop_set_of_lt (by omega)]
    simp only [List.append_assoc, List.cons_append, List.nil_append, List.length_cons]
    congr 3
    congr 1
    omega

theorem run_storeCells_blk (vs : List Value) : ∀ (w : World) (b o i : Nat) (l : List Value) (T : TypeId), w.heap[b]? = some (cl l T) → o + i + vs.length ≤ l.length → vs.all Value.oneCell' = true →
    (storeCells ⟨b, o, none⟩ vs i).run P w = .ok () (World.setBlk w b (cl (spl l (o + i) vs) T)) := by
  induction vs with
  | nil => intro w b o i l T hb _ _; simp [storeCells, spl, setBlk_self hb]
  | cons v vs ih =>
    intro w b o i l T hb hl h1
    simp only [List.all_cons, Bool.and_eq_true] at h1
    simp only [List.length_cons] at hl
    have hc : w.cell? ⟨b, o + i, none⟩ = some l[o + i] := by simp [World.cell?, hb]
    have hfz : w.frozen? ⟨b, o + i, none⟩ = false := by simp [World.frozen?, hb]
    have hset := setCell_blk (o := o + i) hb v
    simp only [storeCells, Sem.run_bind, addr_add, run_store _ _ _ _ _ h1.1, hc, hfz, Bool.false_eq_true, if_false, Result.andThen_ok, hset]
    rw [ih _ b o (i + 1) (l.set (o + i) v) T (setBlk_get hb) (by simp; omega) h1.2, setBlk_setBlk]
    rfl

theorem OpS.store {d ty pos aft gd} {t : TypeId} {x y : Operand} {b o k i : Nat} {l vs : List Value} {T : TypeId} {g : Bool} {v : Value} (hx : kop kn x = some (.pointer (some ⟨b, o, none⟩)))
    (hy : kop kn y = some v) (ht : tyI P t = some (g, k)) (hi : H[i]? = some (b, cl l T)) (hv : v.cells = ⟨vs⟩) (hk : vs.length = k) (h1 : vs.all Value.oneCell' = true) (hl : Nat.ble (o + k) l.length = true) :
    OpS P W0 n kn H ⟨d, .store t x y, ty, pos, aft, gd⟩ (H.set i (b, cl (spl l o vs) T)) := fun a w hF hS => by
  have hb := (hS.own _ (List.mem_of_getElem? hi)).2
  have hl' := Nat.le_of_ble_eq_true hl
  have := run_storeCells_blk (P := P) vs w b o 0 l T hb (by omega) h1
  simp only [Nat.add_zero] at this
  refine ⟨World.setBlk w b (cl (spl l o vs) T), ?_, hS.setBlk hi⟩
  simp [execOp, hF.eval hx, hF.eval hy, Instr.storeAt, Instr.sureAddr, storeVar, run_sizeOf_ty ht, hv, hk, this]

/-- A whole variable. -/
theorem spl_all (l vs : List Value) (h : l.length = vs.length) : spl l 0 vs = vs := by
  rw [spl_eq vs l 0 (by omega)]; simp [← h]

/-! ### New blocks -/
def zI (P : Program) (t : TypeId) : Option (List Value) := (P.info? t).bind fun i => i.zero.map fun z => z.cells.toList

theorem WL.allocX {ops : Array Oper} {Q : Exit → Act → World → Prop} {d ty pos aft} {t : TypeId} {l : List Value} {rest : List Oper} (hz : zI P t = some l) (hd : dok n d = true)
    (k : ∀ b, WL P W0 n ops Q (kset kn d (.pointer (some ⟨b, 0, none⟩))) ((b, cl l t) :: H) rest) : WL P W0 n ops Q kn H (⟨d, .alloc t, ty, pos, aft, none⟩ :: rest) := by
  refine WL.x (R := fun v H' => ∃ b, v = .pointer (some ⟨b, 0, none⟩) ∧ H' = (b, cl l t) :: H) (.none rfl) hd (fun a w hF hS => ?_) (fun v H' ⟨b, e1, e2⟩ => by subst e1 e2; exact k b)
  refine ⟨_, _, _, ?_, ⟨w.heap.size, rfl, rfl⟩, hS.alloc _⟩
  unfold zI at hz
  cases hi : P.info? t with
  | none => simp [hi] at hz
  | some i =>
    simp only [hi, Option.bind_some, Option.map_eq_some_iff] at hz
    obtain ⟨z, hz1, hz2⟩ := hz
    have e : z.cells = ⟨l⟩ := by rw [← hz2]
    simp [execOp, Instr.alloc, zeroValue, typeInfo, hi, hz1, newVar, newRow, e]

theorem WL.box {ops : Array Oper} {Q : Exit → Act → World → Prop} {d ty pos aft} {t : TypeId} {x : Operand} {v : Value} {l : List Value} {rest : List Oper} (hx : kop kn x = some v) (hl : v.cells = ⟨l⟩) (hd : dok n d = true)
    (k : ∀ b, WL P W0 n ops Q (kset kn d (.pointer (some ⟨b, 0, none⟩))) ((b, cl l t) :: H) rest) : WL P W0 n ops Q kn H (⟨d, .box t x, ty, pos, aft, none⟩ :: rest) := by
  refine WL.x (R := fun v H' => ∃ b, v = .pointer (some ⟨b, 0, none⟩) ∧ H' = (b, cl l t) :: H) (.none rfl) hd (fun a w hF hS => ?_) (fun v H' ⟨b, e1, e2⟩ => by subst e1 e2; exact k b)
  refine ⟨_, _, _, ?_, ⟨w.heap.size, rfl, rfl⟩, hS.alloc _⟩
  simp [execOp, hF.eval hx, Instr.box, newVar, newRow, hl]

/-! ### Whole numbers -/
theorem OpP.add {d ty pos aft g t t'} {x y : Operand} {k : IntKind} {i j : Int} (hx : kop kn x = some (.int k i)) (hy : kop kn y = some (.int k j)) :
    OpP P W0 n kn H ⟨d, .binOp .add t x y t', ty, pos, aft, g⟩ (.int k (k.wrap (i + j))) := fun a w hF _ => by
  simp [execOp, hF.eval hx, hF.eval hy, eqGuard, binOp, Op.intArith]
theorem OpP.sub {d ty pos aft g t t'} {x y : Operand} {k : IntKind} {i j : Int} (hx : kop kn x = some (.int k i)) (hy : kop kn y = some (.int k j)) :
    OpP P W0 n kn H ⟨d, .binOp .sub t x y t', ty, pos, aft, g⟩ (.int k (k.wrap (i - j))) := fun a w hF _ => by
  simp [execOp, hF.eval hx, hF.eval hy, eqGuard, binOp, Op.intArith]
theorem OpP.mul {d ty pos aft g t t'} {x y : Operand} {k : IntKind} {i j : Int} (hx : kop kn x = some (.int k i)) (hy : kop kn y = some (.int k j)) :
    OpP P W0 n kn H ⟨d, .binOp .mul t x y t', ty, pos, aft, g⟩ (.int k (k.wrap (i * j))) := fun a w hF _ => by
  simp [execOp, hF.eval hx, hF.eval hy, eqGuard, binOp, Op.intArith]
theorem OpP.add64 {d ty pos aft g t t'} {x y : Operand} {i j : Int} (hx : kop kn x = some (.int .i64 i)) (hy : kop kn y = some (.int .i64 j)) (hb : -9223372036854775808 ≤ i + j ∧ i + j ≤ 9223372036854775807) :
    OpP P W0 n kn H ⟨d, .binOp .add t x y t', ty, pos, aft, g⟩ (.int .i64 (i + j)) := by
  have := OpP.add (P := P) (W0 := W0) (n := n) (H := H) (d := d) (ty := ty) (pos := pos) (aft := aft) (g := g) (t := t) (t' := t') hx hy
  rwa [IntWalk.i64_in _ hb] at this
theorem OpP.sub64 {d ty pos aft g t t'} {x y : Operand} {i j : Int} (hx : kop kn x = some (.int .i64 i)) (hy : kop kn y = some (.int .i64 j)) (hb : -9223372036854775808 ≤ i - j ∧ i - j ≤ 9223372036854775807) :
    OpP P W0 n kn H ⟨d, .binOp .sub t x y t', ty, pos, aft, g⟩ (.int .i64 (i - j)) := by
  have := OpP.sub (P := P) (W0 := W0) (n := n) (H := H) (d := d) (ty := ty) (pos := pos) (aft := aft) (g := g) (t := t) (t' := t') hx hy
  rwa [IntWalk.i64_in _ hb] at this
theorem OpP.mul64 {d ty pos aft g t t'} {x y : Operand} {i j : Int} (hx : kop kn x = some (.int .i64 i)) (hy : kop kn y = some (.int .i64 j)) (hb : -9223372036854775808 ≤ i * j ∧ i * j ≤ 9223372036854775807) :
    OpP P W0 n kn H ⟨d, .binOp .mul t x y t', ty, pos, aft, g⟩ (.int .i64 (i * j)) := by
  have := OpP.mul (P := P) (W0 := W0) (n := n) (H := H) (d := d) (ty := ty) (pos := pos) (aft := aft) (g := g) (t := t) (t' := t') hx hy
  rwa [IntWalk.i64_in _ hb] at this
theorem OpP.quo {d ty pos aft g t t'} {x y : Operand} {k : IntKind} {i j : Int} (hx : kop kn x = some (.int k i)) (hy : kop kn y = some (.int k j)) (h0 : j ≠ 0) :
    OpP P W0 n kn H ⟨d, .binOp .quo t x y t', ty, pos, aft, g⟩ (.int k (k.wrap (i.tdiv j))) := fun a w hF _ => by
  simp [execOp, hF.eval hx, hF.eval hy, eqGuard, binOp, Op.intDiv, h0]
theorem OpP.rem {d ty pos aft g t t'} {x y : Operand} {k : IntKind} {i j : Int} (hx : kop kn x = some (.int k i)) (hy : kop kn y = some (.int k j)) (h0 : j ≠ 0) :
    OpP P W0 n kn H ⟨d, .binOp .rem t x y t', ty, pos, aft, g⟩ (.int k (i.tmod j)) := fun a w hF _ => by
  simp [execOp, hF.eval hx, hF.eval hy, eqGuard, binOp, Op.intDiv, h0]
/-- Nonnegative numbers: the quotient and the rest as Lean has them. -/
theorem OpP.quoN {d ty pos aft g t t'} {x y : Operand} {i j : Int} (hx : kop kn x = some (.int .i64 i)) (hy : kop kn y = some (.int .i64 j)) (h0 : 0 < j) (hi : 0 ≤ i) (hi2 : i ≤ 9223372036854775807) :
    OpP P W0 n kn H ⟨d, .binOp .quo t x y t', ty, pos, aft, g⟩ (.int .i64 (i / j)) := by
  have := OpP.quo (P := P) (W0 := W0) (n := n) (H := H) (d := d) (ty := ty) (pos := pos) (aft := aft) (g := g) (t := t) (t' := t') hx hy (by omega)
  rw [Int.tdiv_eq_ediv_of_nonneg hi] at this
  have h1 : 0 ≤ i / j := Int.ediv_nonneg hi (by omega)
  have h2 : i / j ≤ i := Int.ediv_le_self j hi
  rwa [IntWalk.i64_in _ ⟨by omega, by omega⟩] at this
theorem OpP.remN {d ty pos aft g t t'} {x y : Operand} {k : IntKind} {i j : Int} (hx : kop kn x = some (.int k i)) (hy : kop kn y = some (.int k j)) (h0 : 0 < j) (hi : 0 ≤ i) :
    OpP P W0 n kn H ⟨d, .binOp .rem t x y t', ty, pos, aft, g⟩ (.int k (i % j)) := by
  have := OpP.rem (P := P) (W0 := W0) (n := n) (H := H) (d := d) (ty := ty) (pos := pos) (aft := aft) (g := g) (t := t) (t' := t') hx hy (by omega)
  rwa [Int.tmod_eq_emod_of_nonneg hi] at this
theorem OpP.lss {d ty pos aft g t t'} {x y : Operand} {k : IntKind} {i j : Int} (hx : kop kn x = some (.int k i)) (hy : kop kn y = some (.int k j)) :
    OpP P W0 n kn H ⟨d, .binOp .lss t x y t', ty, pos, aft, g⟩ (.bool (decide (i < j))) := fun a w hF _ => by
  simp [execOp, hF.eval hx, hF.eval hy, eqGuard, binOp, Op.intCmp]
theorem OpP.leq {d ty pos aft g t t'} {x y : Operand} {k : IntKind} {i j : Int} (hx : kop kn x = some (.int k i)) (hy : kop kn y = some (.int k j)) :
    OpP P W0 n kn H ⟨d, .binOp .leq t x y t', ty, pos, aft, g⟩ (.bool (decide (i ≤ j))) := fun a w hF _ => by
  simp [execOp, hF.eval hx, hF.eval hy, eqGuard, binOp, Op.intCmp]
theorem OpP.gtr {d ty pos aft g t t'} {x y : Operand} {k : IntKind} {i j : Int} (hx : kop kn x = some (.int k i)) (hy : kop kn y = some (.int k j)) :
    OpP P W0 n kn H ⟨d, .binOp .gtr t x y t', ty, pos, aft, g⟩ (.bool (decide (i > j))) := fun a w hF _ => by
  simp [execOp, hF.eval hx, hF.eval hy, eqGuard, binOp, Op.intCmp]
theorem OpP.geq {d ty pos aft g t t'} {x y : Operand} {k : IntKind} {i j : Int} (hx : kop kn x = some (.int k i)) (hy : kop kn y = some (.int k j)) :
    OpP P W0 n kn H ⟨d, .binOp .geq t x y t', ty, pos, aft, g⟩ (.bool (decide (i ≥ j))) := fun a w hF _ => by
  simp [execOp, hF.eval hx, hF.eval hy, eqGuard, binOp, Op.intCmp]
theorem OpP.eqlI {d ty pos aft g t t'} {x y : Operand} {k : IntKind} {i j : Int} (hx : kop kn x = some (.int k i)) (hy : kop kn y = some (.int k j)) :
    OpP P W0 n kn H ⟨d, .binOp .eql t x y t', ty, pos, aft, g⟩ (.bool (decide (i = j))) := fun a w hF _ => by
  simp [execOp, hF.eval hx, hF.eval hy, eqGuard, binOp, Op.intCmp]; rfl
theorem OpP.neqI {d ty pos aft g t t'} {x y : Operand} {k : IntKind} {i j : Int} (hx : kop kn x = some (.int k i)) (hy : kop kn y = some (.int k j)) :
    OpP P W0 n kn H ⟨d, .binOp .neq t x y t', ty, pos, aft, g⟩ (.bool (!decide (i = j))) := fun a w hF _ => by
  simp [execOp, hF.eval hx, hF.eval hy, eqGuard, binOp, Op.intCmp]; rfl
theorem OpP.bits {d ty pos aft g t t'} {o : BinOp} {x y : Operand} {k : IntKind} {i j : Int} (hx : kop kn x = some (.int k i)) (hy : kop kn y = some (.int k j)) (ho : o = .and ∨ o = .or ∨ o = .xor ∨ o = .andNot) :
    OpP P W0 n kn H ⟨d, .binOp o t x y t', ty, pos, aft, g⟩ (.int k (Go.bits o k i j)) := fun a w hF _ => by
  rcases ho with rfl | rfl | rfl | rfl <;> simp [execOp, hF.eval hx, hF.eval hy, eqGuard, binOp, Op.intBits, Go.bits]
theorem OpP.shl {d ty pos aft g t t'} {x y : Operand} {k k' : IntKind} {i j : Int} (hx : kop kn x = some (.int k i)) (hy : kop kn y = some (.int k' j)) (h0 : 0 ≤ j) :
    OpP P W0 n kn H ⟨d, .binOp .shl t x y t', ty, pos, aft, g⟩ (.int k (k.wrap (i * 2 ^ min j.toNat k.bits))) := fun a w hF _ => by
  have : ¬ j < 0 := by omega
  simp [execOp, hF.eval hx, hF.eval hy, eqGuard, binOp, Op.shift, this]
theorem OpP.shr {d ty pos aft g t t'} {x y : Operand} {k k' : IntKind} {i j : Int} (hx : kop kn x = some (.int k i)) (hy : kop kn y = some (.int k' j)) (h0 : 0 ≤ j) :
    OpP P W0 n kn H ⟨d, .binOp .shr t x y t', ty, pos, aft, g⟩ (.int k (i.fdiv (2 ^ min j.toNat k.bits))) := fun a w hF _ => by
  have : ¬ j < 0 := by omega
  simp [execOp, hF.eval hx, hF.eval hy, eqGuard, binOp, Op.shift, this]
theorem OpP.conv {d ty pos aft g} {s t : TypeId} {x : Operand} {k k' : IntKind} {i : Int} (hx : kop kn x = some (.int k i)) (hs : P.underlying s = some (.int k)) (ht : P.underlying t = some (.int k')) :
    OpP P W0 n kn H ⟨d, .convert s t x, ty, pos, aft, g⟩ (.int k' (k'.wrap i)) := fun a w hF _ => by
  simp [execOp, hF.eval hx, convert, underlying, hs, ht, Conv.intToInt]

/-! ### Comparisons of other values -/
theorem OpP.binR {d ty pos aft g} {o : BinOp} {t t' : TypeId} {x y : Operand} {v u r : Value} (hx : kop kn x = some v) (hy : kop kn y = some u) (hg : ∀ w, (eqGuard o t x y v u).run P w = .ok () w)
    (hr : ∀ w, (binOp o t v u).run P w = .ok r w) : OpP P W0 n kn H ⟨d, .binOp o t x y t', ty, pos, aft, g⟩ r := fun a w hF _ => by
  simp [execOp, hF.eval hx, hF.eval hy, hg, hr]
theorem eqGuard_ptr (o : BinOp) (t : TypeId) (x y : Operand) (p q : Option Addr) (w : World) : (eqGuard o t x y (.pointer p) (.pointer q)).run P w = .ok () w := by
  cases o <;> rfl
theorem eqGuard_bool (o : BinOp) (t : TypeId) (x y : Operand) (p q : Bool) (w : World) : (eqGuard o t x y (.bool p) (.bool q)).run P w = .ok () w := by
  cases o <;> rfl
theorem eqGuard_str (o : BinOp) (t : TypeId) (x y : Operand) (p q : ByteArray) (w : World) : (eqGuard o t x y (.string p) (.string q)).run P w = .ok () w := by
  cases o <;> rfl
theorem eqGuard_agg (o : BinOp) (t : TypeId) (x y : Operand) (p q : Array Value) (h : P.eqGuardType P.depth t = false) (w : World) : (eqGuard o t x y (.agg p) (.agg q)).run P w = .ok () w := by
  unfold eqGuard
  cases o <;> simp [h]
theorem pointee_of {t e : TypeId} (ht : P.underlying t = some (.pointer e)) : P.underlying t = some (.pointer (P.pointee t)) := by
  rw [ht]; simp [Program.pointee, ht]
theorem OpP.eqlNil {d ty pos aft g} {t t' e : TypeId} {x y : Operand} {p : Option Addr} (hx : kop kn x = some (.pointer p)) (hy : kop kn y = some (.pointer none)) (ht : P.underlying t = some (.pointer e)) :
    OpP P W0 n kn H ⟨d, .binOp .eql t x y t', ty, pos, aft, g⟩ (.bool p.isNone) :=
  OpP.binR hx hy (eqGuard_ptr _ _ _ _ _ _) (fun w => run_eql_pointer_nil w t p (pointee_of ht))
theorem OpP.neqNil {d ty pos aft g} {t t' e : TypeId} {x y : Operand} {p : Option Addr} (hx : kop kn x = some (.pointer p)) (hy : kop kn y = some (.pointer none)) (ht : P.underlying t = some (.pointer e)) :
    OpP P W0 n kn H ⟨d, .binOp .neq t x y t', ty, pos, aft, g⟩ (.bool (!p.isNone)) :=
  OpP.binR hx hy (eqGuard_ptr _ _ _ _ _ _) (fun w => run_neq_pointer_nil w t p (pointee_of ht))
theorem OpP.eqlB {d ty pos aft g} {t t' : TypeId} {x y : Operand} {i j : Bool} (hx : kop kn x = some (.bool i)) (hy : kop kn y = some (.bool j)) (ht : P.underlying t = some .bool) :
    OpP P W0 n kn H ⟨d, .binOp .eql t x y t', ty, pos, aft, g⟩ (.bool (i == j)) :=
  OpP.binR hx hy (eqGuard_bool _ _ _ _ _ _) (fun w => run_eql_bool w t i j ht)
theorem OpP.neqB {d ty pos aft g} {t t' : TypeId} {x y : Operand} {i j : Bool} (hx : kop kn x = some (.bool i)) (hy : kop kn y = some (.bool j)) (ht : P.underlying t = some .bool) :
    OpP P W0 n kn H ⟨d, .binOp .neq t x y t', ty, pos, aft, g⟩ (.bool (!(i == j))) :=
  OpP.binR hx hy (eqGuard_bool _ _ _ _ _ _) (fun w => run_neq_bool w t i j ht)
theorem OpP.eqlS {d ty pos aft g} {t t' : TypeId} {x y : Operand} {i j : ByteArray} (hx : kop kn x = some (.string i)) (hy : kop kn y = some (.string j)) :
    OpP P W0 n kn H ⟨d, .binOp .eql t x y t', ty, pos, aft, g⟩ (.bool (i.toList == j.toList)) :=
  OpP.binR hx hy (eqGuard_str _ _ _ _ _ _) (fun w => by simp [binOp, Op.stringOp])
theorem OpP.neqS {d ty pos aft g} {t t' : TypeId} {x y : Operand} {i j : ByteArray} (hx : kop kn x = some (.string i)) (hy : kop kn y = some (.string j)) :
    OpP P W0 n kn H ⟨d, .binOp .neq t x y t', ty, pos, aft, g⟩ (.bool (!(i.toList == j.toList))) :=
  OpP.binR hx hy (eqGuard_str _ _ _ _ _ _) (fun w => by simp [binOp, Op.stringOp])

/-! ### Results out of variables -/
theorem RV.cell {b t k : Nat} {p : Addr} {v : Value} (h : kget kn b = some (.pointer (some p))) (ht : tyI P t = some (false, k)) (hv : Rd W0 H p v) : RV P W0 n kn H (.cell b t) v := fun a w hF hS => by
  have e := hF.val b _ h
  simp [rvSem, e, asAddr, loadVar, run_isAgg_ty ht, hv w hS]
theorem RV.cellB {b t o k g : Nat} {l : List Value} {T : TypeId} (h : kget kn b = some (.pointer (some ⟨g, o, none⟩))) (ht : tyI P t = some (true, k)) (hm : (g, cl l T) ∈ H) (hl : Nat.ble (o + k) l.length = true) :
    RV P W0 n kn H (.cell b t) (.agg ⟨(l.drop o).take k⟩) := fun a w hF hS => by
  have e := hF.val b _ h
  have hl' := Nat.le_of_ble_eq_true hl
  have hk : ((l.drop o).take k).length = k := by simp; omega
  have := run_loadCells_list (P := P) (w := w) ⟨g, o, none⟩ ((l.drop o).take k) (fun j v hj => by
    rw [addr_add]
    refine Rd.own hm ?_ w hS
    rw [List.getElem?_take] at hj
    split at hj
    · rw [List.getElem?_drop] at hj; exact hj
    · simp at hj)
  rw [hk] at this
  simp [rvSem, e, asAddr, loadVar, run_isAgg_ty ht, run_sizeOf_ty ht, this]
end
end Go.Sx
