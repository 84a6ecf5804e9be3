/- The frame of every walk of this claim: partial knowledge of temporaries, blocks of the call's own, and the rules of the code. No conditions. -/
import Derived.WalkKit
import Derived.Below
import Derived.OrdersHeld
import Derived.KernelRfl
namespace Go.Sx
open Go Go.RowKit

/-! ### What is known of the temporaries -/
abbrev Kn := List (Nat × Value)
abbrev Hp := List (Nat × Obj)

def kget : Kn → Nat → Option Value
  | [], _ => none
  | (j, v) :: r, i => match Nat.beq j i with
    | true => some v
    | false => kget r i

def kop (kn : Kn) : Operand → Option Value
  | .tmp t => kget kn t
  | .const v => some v
  | .global g => some (.pointer (some ⟨g, 0, none⟩))
  | .func f => some (.func (.func f) #[] #[])

def kset (kn : Kn) : Option Tmp → Value → Kn
  | some d, v => (d, v) :: kn
  | none, _ => kn

def dok (n : Nat) : Option Tmp → Bool
  | some d => Nat.blt d n
  | none => true

structure Fr (a : Act) (n : Nat) (kn : Kn) : Prop where
  size : a.tmps.size = n
  defers : a.defers = []
  val : ∀ i v, kget kn i = some v → a.tmps.getD i undef = v

theorem kget_cons (j : Nat) (v : Value) (kn : Kn) (i : Nat) : kget ((j, v) :: kn) i = if j = i then some v else kget kn i := by
  by_cases h : j = i
  · subst h; simp [kget, Nat.beq_refl]
  · have : Nat.beq j i = false := by
      cases hb : Nat.beq j i with
      | false => rfl
      | true => exact absurd (Nat.eq_of_beq_eq_true hb) h
    simp [kget, this, h]

theorem Fr.eval {a : Act} {n : Nat} {kn : Kn} (h : Fr a n kn) {x : Operand} {v : Value} (hx : kop kn x = some v) : a.eval x = v := by
  cases x with
  | tmp t => exact h.val t v hx
  | const c => simpa [kop, Act.eval] using hx
  | global g => simpa [kop, Act.eval] using hx
  | func f => simpa [kop, Act.eval] using hx

theorem Fr.put {a : Act} {n : Nat} {kn : Kn} (h : Fr a n kn) {dst : Option Tmp} (hd : dok n dst = true) (v : Value) : Fr (a.put dst v) n (kset kn dst v) := by
  cases dst with
  | none => exact h
  | some d =>
    have hdn : d < n := by simpa [dok] using hd
    refine ⟨by simp [Act.put, h.size], h.defers, fun i u hi => ?_⟩
    simp only [kset, kget_cons] at hi
    simp only [Act.put]
    by_cases e : d = i
    · subst e
      simp only [if_true, Option.some.injEq] at hi
      subst hi
      simp [Array.getD_eq_getD_getElem?, h.size, hdn]
    · rw [if_neg e] at hi
      have := h.val i u hi
      simp only [Array.getD_eq_getD_getElem?] at this ⊢
      rw [Array.getElem?_setIfInBounds_ne e]
      exact this

/-- What is known is known of each part of it. -/
def Sub (kn' kn : Kn) : Prop := ∀ i v, kget kn' i = some v → kget kn i = some v
theorem Sub.nil (kn : Kn) : Sub [] kn := fun _ _ h => by simp [kget] at h
theorem Sub.cons {kn' kn : Kn} {i : Nat} {v : Value} (h : kget kn i = some v) (hs : Sub kn' kn) : Sub ((i, v) :: kn') kn := fun j u hj => by
  rw [kget_cons] at hj
  by_cases e : i = j
  · subst e; rw [if_pos rfl] at hj; rw [← hj]; exact h
  · rw [if_neg e] at hj; exact hs j u hj
theorem Sub.refl (kn : Kn) : Sub kn kn := fun _ _ h => h
theorem Fr.sub {a : Act} {n : Nat} {kn kn' : Kn} (h : Fr a n kn) (hs : Sub kn' kn) : Fr a n kn' := ⟨h.size, h.defers, fun i v hi => h.val i v (hs i v hi)⟩

/-! ### What is known of the world: W0, the world when the outermost call began, is as it was below its size; and blocks of the call's own -/
structure St (W0 w : World) (H : Hp) : Prop where
  below : Below W0.heap.size W0 w
  own : ∀ p ∈ H, W0.heap.size ≤ p.1 ∧ w.heap[p.1]? = some p.2
  nodup : (H.map Prod.fst).Nodup

theorem St.lt {W0 w : World} {H : Hp} (h : St W0 w H) {p : Nat × Obj} (hp : p ∈ H) : p.1 < w.heap.size := by
  have := (h.own p hp).2
  rcases Nat.lt_or_ge p.1 w.heap.size with h' | h'
  · exact h'
  · simp [Array.getElem?_eq_none h'] at this

theorem St.start (w : World) : St w w [] := ⟨Below.refl _ _, by simp, by simp⟩

theorem St.drew {W0 w : World} {H : Hp} (h : St W0 w H) : St W0 w.drew H := ⟨h.below.drew, h.own, h.nodup⟩

theorem St.drawn {W0 w : World} {H : Hp} (h : St W0 w H) (k : Nat) : St W0 { w with drawn := k } H :=
  ⟨⟨h.below.os, h.below.tape, h.below.output, h.below.size, h.below.block⟩, h.own, h.nodup⟩

theorem St.ext {W0 w w' : World} {H : Hp} (h : St W0 w H) (hb : Below w.heap.size w w') : St W0 w' H :=
  ⟨h.below.trans (hb.mono h.below.size), fun p hp => ⟨(h.own p hp).1, by rw [hb.block _ (h.lt hp)]; exact (h.own p hp).2⟩, h.nodup⟩

theorem St.alloc {W0 w : World} {H : Hp} (h : St W0 w H) (o : Obj) : St W0 (w.alloc o) ((w.heap.size, o) :: H) := by
  have hb : Below w.heap.size w (w.alloc o) := (Below.refl _ w).alloc (Nat.le_refl _) o
  refine ⟨(h.ext hb).below, fun p hp => ?_, ?_⟩
  · rcases List.mem_cons.1 hp with rfl | hp
    · exact ⟨h.below.size, by show (w.heap.push o)[w.heap.size]? = some o; simp⟩
    · exact (h.ext hb).own p hp
  · simp only [List.map_cons, List.nodup_cons]
    refine ⟨fun hm => ?_, h.nodup⟩
    obtain ⟨p, hp, e⟩ := List.mem_map.1 hm
    have := h.lt hp
    omega

theorem St.drop {W0 w : World} {H : Hp} {p : Nat × Obj} (h : St W0 w (p :: H)) : St W0 w H :=
  ⟨h.below, fun q hq => h.own q (List.mem_cons_of_mem _ hq), (List.nodup_cons.1 (by simpa using h.nodup)).2⟩

theorem St.perm {W0 w : World} {H H' : Hp} (h : St W0 w H) (hp : H.Perm H') : St W0 w H' :=
  ⟨h.below, fun q hq => h.own q (hp.mem_iff.2 hq), (hp.map Prod.fst).nodup_iff.1 h.nodup⟩

theorem St.sublist {W0 w : World} {H H' : Hp} (h : St W0 w H) (hp : H'.Sublist H) : St W0 w H' :=
  ⟨h.below, fun q hq => h.own q (hp.subset hq), (hp.map Prod.fst).nodup h.nodup⟩

theorem St.drop_mid {W0 w : World} {H seg : Hp} {p : Nat × Obj} (h : St W0 w (seg ++ p :: H)) : St W0 w (seg ++ H) :=
  h.sublist (List.Sublist.append_left (List.sublist_cons_self p H) seg)

/-- A world that differs in one block of the call's own. -/
theorem St.set {W0 w w' : World} {H : Hp} (h : St W0 w H) {i b : Nat} {o o' : Obj} (hi : H[i]? = some (b, o))
    (hos : w'.os = w.os) (ht : w'.tape = w.tape) (ho : w'.output = w.output) (hs : w.heap.size ≤ w'.heap.size)
    (hb : ∀ k, k < w.heap.size → k ≠ b → w'.heap[k]? = w.heap[k]?) (hn : w'.heap[b]? = some o') : St W0 w' (H.set i (b, o')) := by
  have hm : (b, o) ∈ H := List.mem_of_getElem? hi
  have hbW : W0.heap.size ≤ b := (h.own _ hm).1
  have hlt : b < w.heap.size := h.lt hm
  have hil : i < H.length := by
    rcases Nat.lt_or_ge i H.length with h' | h'
    · exact h'
    · simp [List.getElem?_eq_none h'] at hi
  have hmap : (H.set i (b, o')).map Prod.fst = H.map Prod.fst := by
    rw [List.map_set]
    apply List.ext_getElem?
    intro j
    rw [List.getElem?_set]
    split
    · rename_i e
      subst e
      simp [hil]
      have := hi
      rw [List.getElem?_eq_getElem hil] at this
      simp only [Option.some.injEq] at this
      simp [this]
    · rfl
  refine ⟨h.below.trans ⟨hos, ht, ho, hs, fun k hk => hb k (by have := h.below.size; omega) (by omega)⟩, fun p hp => ?_, by rw [hmap]; exact h.nodup⟩
  obtain ⟨j, hj⟩ := List.mem_iff_getElem?.1 hp
  rw [List.getElem?_set] at hj
  by_cases e : i = j
  · subst e
    rw [if_pos rfl] at hj
    simp only [hil, if_true, Option.some.injEq] at hj
    subst hj
    exact ⟨hbW, hn⟩
  · rw [if_neg e] at hj
    have hpm : p ∈ H := List.mem_of_getElem? hj
    refine ⟨(h.own p hpm).1, ?_⟩
    have hne : p.1 ≠ b := by
      intro e2
      have hnd := h.nodup
      have hjl : j < H.length := by
        rcases Nat.lt_or_ge j H.length with h' | h'
        · exact h'
        · simp [List.getElem?_eq_none h'] at hj
      have h1 : (H.map Prod.fst)[i]? = some b := by simp [hi]
      have h2 : (H.map Prod.fst)[j]? = some b := by simp [hj, e2]
      exact e ((List.getElem?_inj (by simpa using hil) hnd).1 (h1.trans h2.symm))
    rw [hb _ (h.lt hpm) hne]
    exact (h.own p hpm).2

/-! ### The goals of a walk -/
section
variable {P : Program} {W0 : World} {n : Nat} {ops : Array Oper} {Q : Exit → Act → World → Prop} {kn : Kn} {H : Hp}

def WL (P : Program) (W0 : World) (n : Nat) (ops : Array Oper) (Q : Exit → Act → World → Prop) (kn : Kn) (H : Hp) (l : List Oper) : Prop :=
  ∀ a w, Fr a n kn → St W0 w H → wpList P ops Q l a w
def WC (P : Program) (W0 : World) (n : Nat) (Q : Exit → Act → World → Prop) (kn : Kn) (H : Hp) (c : Code) : Prop :=
  ∀ a w, Fr a n kn → St W0 w H → c.wp P Q a w
def EQ (W0 : World) (n : Nat) (e : Exit) (Q : Exit → Act → World → Prop) (kn : Kn) (H : Hp) : Prop :=
  ∀ a w, Fr a n kn → St W0 w H → Q e a w

/-- An operation that yields a value and leaves the world alone. -/
def OpP (P : Program) (W0 : World) (n : Nat) (kn : Kn) (H : Hp) (o : Oper) (v : Value) : Prop :=
  ∀ a w, Fr a n kn → St W0 w H → (execOp a.eval o).run P w = .ok (.value v) w
/-- An operation that yields a value and turns what is known of the world. -/
def OpX (P : Program) (W0 : World) (n : Nat) (kn : Kn) (H : Hp) (o : Oper) (R : Value → Hp → Prop) : Prop :=
  ∀ a w, Fr a n kn → St W0 w H → ∃ v w' H', (execOp a.eval o).run P w = .ok (.value v) w' ∧ R v H' ∧ St W0 w' H'
/-- An operation that yields nothing. -/
def OpS (P : Program) (W0 : World) (n : Nat) (kn : Kn) (H : Hp) (o : Oper) (H' : Hp) : Prop :=
  ∀ a w, Fr a n kn → St W0 w H → ∃ w', (execOp a.eval o).run P w = .ok .skip w' ∧ St W0 w' H'

/-- What a call comes to. -/
def CxX (P : Program) (W0 : World) (f : FuncId) (args : Array Value) (H : Hp) (R : Value → Hp → Prop) : Prop :=
  ∀ w, St W0 w H → Calls P f args w fun e w' => ∃ v H', e = .returned v ∧ R v H' ∧ St W0 w' H'
/-- What a call comes to, where it is just one value. -/
def CxD (P : Program) (W0 : World) (f : FuncId) (args : Array Value) (H : Hp) (v : Value) (H' : Hp) : Prop :=
  CxX P W0 f args H fun v' H'' => v' = v ∧ H'' = H'

/-- Whether an operation is carried out, as far as is known. -/
def Wn (n : Nat) (ops : Array Oper) (kn : Kn) (o : Oper) (c : Bool) : Prop := ∀ a, Fr a n kn → Region.wanted o (yielded ops a.tmps) = c

theorem yielded_of {a : Act} (hF : Fr a n kn) {j d : Nat} {v : Value} (hj : (ops[j]?).bind (·.dst) = some d) (hk : kget kn d = some v) : yielded ops a.tmps j = (match v with | .bool b => some b | _ => none) := by
  have hv := hF.val d v hk
  unfold yielded
  rw [hj]
  simp only [Option.bind_some]
  rw [Array.getD_eq_getD_getElem?] at hv
  cases h : a.tmps[d]? with
  | none =>
    rw [h] at hv
    simp only [Option.getD_none] at hv
    subst hv; rfl
  | some u =>
    rw [h] at hv
    simp only [Option.getD_some] at hv
    subst hv
    cases u <;> rfl

/-- The value of an operation that is carried out if c. -/
def gv : Bool → Value → Value
  | true, v => v
  | false, _ => undef
theorem gv_true {c : Bool} (h : c = true) (v : Value) : gv c v = v := by subst h; rfl
theorem gk {c : Bool} (h : c = true) {x : Option Value} {v : Value} (hx : x = some (gv c v)) : x = some v := by subst h; exact hx
theorem gkl {c e : Bool} (h : (c && e) = true) {x : Option Value} {v : Value} (hx : x = some (gv c v)) : x = some v := gk (by simp at h; exact h.1) hx
theorem gk2 {c e : Bool} (h : c = true) {x : Option Value} {v : Value} (hx : x = some (gv (c && e) v)) : x = some (gv e v) := by subst h; simpa using hx

theorem Wn.none {o : Oper} (hg : o.guard = .none) : Wn n ops kn o true := fun a _ => by simp [Region.wanted, hg]
theorem Wn.bool {o : Oper} {j d : Nat} {want b : Bool} (hg : o.guard = some (j, want)) (hj : (ops[j]?).bind (·.dst) = some d) (hk : kget kn d = some (.bool b)) : Wn n ops kn o (b == want) := fun a hF => by
  simp [Region.wanted, hg, yielded_of hF hj hk]
theorem Wn.gv {o : Oper} {j d : Nat} {want b c : Bool} (hg : o.guard = some (j, want)) (hj : (ops[j]?).bind (·.dst) = some d) (hk : kget kn d = some (gv c (.bool b))) : Wn n ops kn o (c && (b == want)) := fun a hF => by
  simp only [Region.wanted, hg, yielded_of hF hj hk]
  cases c <;> simp [Sx.gv, undef]
/-- A guard that is known to hold. -/
theorem Wn.yes {o : Oper} {j d : Nat} {want : Bool} (hg : o.guard = some (j, want)) (hj : (ops[j]?).bind (·.dst) = some d) (hk : kget kn d = some (.bool want)) : Wn n ops kn o true := fun a hF => by
  simp [Region.wanted, hg, yielded_of hF hj hk]
/-- A guard that is known to fail. -/
theorem Wn.no {o : Oper} {j d : Nat} {want : Bool} (hg : o.guard = some (j, want)) (hj : (ops[j]?).bind (·.dst) = some d) (hk : kget kn d = some (.bool (!want))) : Wn n ops kn o false := fun a hF => by
  simp [Region.wanted, hg, yielded_of hF hj hk]
theorem Wn.un {o : Oper} {j d : Nat} {want : Bool} (hg : o.guard = some (j, want)) (hj : (ops[j]?).bind (·.dst) = some d) (hk : kget kn d = some undef) : Wn n ops kn o false := fun a hF => by
  simp [Region.wanted, hg, yielded_of hF hj hk, undef]

theorem upon_wp {o : Oper} {a : Act} {w w' : World} {v : Value} {next : Act → World → Prop} (h : (execOp a.eval o).run P w = .ok (.value v) w') (k : next (a.put o.dst v) w') : o.wp P a w next Q := by
  unfold Oper.wp; rw [h]; exact k

theorem WL.p {o : Oper} {rest : List Oper} {v : Value} (hg : Wn n ops kn o true) (hd : dok n o.dst = true) (h : OpP P W0 n kn H o v)
    (k : WL P W0 n ops Q (kset kn o.dst v) H rest) : WL P W0 n ops Q kn H (o :: rest) := fun a w hF hS => by
  unfold wpList
  rw [if_pos (hg a hF)]
  exact .inl (upon_wp (h a w hF hS) (k _ _ (hF.put hd v) hS))

theorem WL.x {o : Oper} {rest : List Oper} {R : Value → Hp → Prop} (hg : Wn n ops kn o true) (hd : dok n o.dst = true) (h : OpX P W0 n kn H o R)
    (k : ∀ v H', R v H' → WL P W0 n ops Q (kset kn o.dst v) H' rest) : WL P W0 n ops Q kn H (o :: rest) := fun a w hF hS => by
  unfold wpList
  rw [if_pos (hg a hF)]
  obtain ⟨v, w', H', hr, hR, hS'⟩ := h a w hF hS
  exact .inl (upon_wp hr (k v H' hR _ _ (hF.put hd v) hS'))

theorem WL.s {o : Oper} {rest : List Oper} {H' : Hp} (hg : Wn n ops kn o true) (hd : dok n o.dst = true) (h : OpS P W0 n kn H o H')
    (k : WL P W0 n ops Q (kset kn o.dst undef) H' rest) : WL P W0 n ops Q kn H (o :: rest) := fun a w hF hS => by
  unfold wpList
  rw [if_pos (hg a hF)]
  obtain ⟨w', hr, hS'⟩ := h a w hF hS
  refine .inl ?_
  unfold Oper.wp; rw [hr]
  exact k _ _ (hF.put hd _) hS'

def kops (kn : Kn) : List Operand → Option (List Value)
  | [] => some []
  | x :: r => match kop kn x, kops kn r with
    | some v, some vs => some (v :: vs)
    | _, _ => none

theorem kops0 : kops kn [] = some [] := rfl
theorem kops1 {x : Operand} {v : Value} (h : kop kn x = some v) : kops kn [x] = some [v] := by simp [kops, h]
theorem kops2 {x y : Operand} {v u : Value} (h : kop kn x = some v) (h2 : kop kn y = some u) : kops kn [x, y] = some [v, u] := by simp [kops, h, h2]
theorem kops3 {x y z : Operand} {v u t : Value} (h : kop kn x = some v) (h2 : kop kn y = some u) (h3 : kop kn z = some t) : kops kn [x, y, z] = some [v, u, t] := by simp [kops, h, h2, h3]
theorem gkops {c : Bool} (_ : c = true) {x : Option (List Value)} {vs : List Value} (hx : x = some vs) : x = some vs := hx
theorem Fr.evals {a : Act} (h : Fr a n kn) : ∀ {xs : List Operand} {vs : List Value}, kops kn xs = some vs → xs.map a.eval = vs
  | [], vs, he => by simp [kops] at he; simp [he]
  | x :: r, vs, he => by
    simp only [kops] at he
    split at he
    · rename_i v us hv hus
      simp only [Option.some.injEq] at he
      subst he
      simp [h.eval hv, Fr.evals h hus]
    · simp at he

/-- A function with a body. -/
def Cal (P : Program) (f : FuncId) : Prop := ∃ fn c, P.funcs[f]? = some fn ∧ (fn.name == "runtime.NumGoroutine") = false ∧ fn.body = some c

theorem at0 {α : Type} {p : α} {l : List α} : (p :: l)[0]? = some p := rfl
theorem ats {α : Type} {p q : α} {l : List α} {i : Nat} (h : l[i]? = some p) : (q :: l)[i + 1]? = some p := by simpa using h

theorem CxD.ofB {f : FuncId} {args : Array Value} {v : Value} (h : ∀ w, Calls P f args w fun e w' => e = .returned v ∧ Below w.heap.size w w') : CxD P W0 f args H v H := fun w hS =>
  (h w).mono fun _ _ ⟨he, hb⟩ => ⟨v, H, he, ⟨rfl, rfl⟩, hS.ext hb⟩

theorem run_call {o : Oper} {f : Nat} {xs : Array Operand} {tys : Array TypeId} (ho : o.op = .call ⟨.value (.func f), xs, tys⟩) (hk : Cal P f)
    (ρ : Operand → Value) (hρ : ρ (.func f) = .func (.func f) #[] #[]) (w : World) :
    (execOp ρ o).run P w = .ok (.enter f (xs.map ρ)) w := by
  obtain ⟨fn, c, hf, hn, hb⟩ := hk
  simp only [execOp, ho, resolve, hρ, Deferred.ofValue]
  simp only [beq_eq_false_iff_ne, ne_eq] at hn
  simp [invoke, callFunc, hf, hb, hn]

theorem WL.call {o : Oper} {rest : List Oper} {f : Nat} {xs : Array Operand} {tys : Array TypeId} {args : List Value} {R : Value → Hp → Prop}
    (ho : o.op = .call ⟨.value (.func f), xs, tys⟩) (hg : Wn n ops kn o true) (hd : dok n o.dst = true) (hk : Cal P f)
    (ha : kops kn xs.toList = some args) (h : CxX P W0 f args.toArray H R)
    (k : ∀ v H', R v H' → WL P W0 n ops Q (kset kn o.dst v) H' rest) : WL P W0 n ops Q kn H (o :: rest) := fun a w hF hS => by
  unfold wpList
  rw [if_pos (hg a hF)]
  refine .inl ?_
  unfold Oper.wp
  rw [run_call ho hk a.eval rfl w]
  have e : xs.map a.eval = args.toArray := by
    have := hF.evals ha
    apply Array.ext'
    simpa using this
  rw [e]
  refine (h w hS).mono fun e w' ⟨v, H', he, hR, hS'⟩ => ?_
  subst he
  exact k v H' hR _ _ (hF.put hd v) hS'

theorem WL.callD {o : Oper} {rest : List Oper} {f : Nat} {xs : Array Operand} {tys : Array TypeId} {args : List Value} {v : Value} {H' : Hp}
    (ho : o.op = .call ⟨.value (.func f), xs, tys⟩) (hg : Wn n ops kn o true) (hd : dok n o.dst = true) (hk : Cal P f)
    (ha : kops kn xs.toList = some args) (h : CxD P W0 f args.toArray H v H')
    (k : WL P W0 n ops Q (kset kn o.dst v) H' rest) : WL P W0 n ops Q kn H (o :: rest) :=
  WL.call ho hg hd hk ha h fun v' H'' ⟨e1, e2⟩ => by subst e1 e2; exact k

/-- An operation that is not carried out. -/
theorem WL.skip {o : Oper} {rest : List Oper} (hg : Wn n ops kn o false) (hd : dok n o.dst = true) (k : WL P W0 n ops Q (kset kn o.dst undef) H rest) : WL P W0 n ops Q kn H (o :: rest) := fun a w hF hS => by
  unfold wpList
  rw [if_neg (by rw [hg a hF]; simp)]
  exact k _ _ (hF.put hd undef) hS
/-- An operation that may or may not be carried out. -/
theorem WL.g {o : Oper} {rest : List Oper} {c : Bool} {v : Value} (hg : Wn n ops kn o c) (hd : dok n o.dst = true) (h : c = true → OpP P W0 n kn H o v)
    (k : WL P W0 n ops Q (kset kn o.dst (gv c v)) H rest) : WL P W0 n ops Q kn H (o :: rest) := by
  cases c with
  | true => exact WL.p hg hd (h rfl) k
  | false => exact WL.skip hg hd k
/-- A call that may or may not be carried out, and only makes memory. -/
theorem WL.gcall {o : Oper} {rest : List Oper} {f : Nat} {xs : Array Operand} {tys : Array TypeId} {args : List Value} {c : Bool} {v : Value}
    (ho : o.op = .call ⟨.value (.func f), xs, tys⟩) (hg : Wn n ops kn o c) (hd : dok n o.dst = true) (hk : Cal P f)
    (ha : c = true → kops kn xs.toList = some args) (h : c = true → CxD P W0 f args.toArray H v H)
    (k : WL P W0 n ops Q (kset kn o.dst (gv c v)) H rest) : WL P W0 n ops Q kn H (o :: rest) := by
  cases c with
  | true => exact WL.callD ho hg hd hk (ha rfl) (h rfl) k
  | false => exact WL.skip hg hd k

theorem WL.nil (h : EQ W0 n .normal Q kn H) : WL P W0 n ops Q kn H [] := fun a w hF hS => h a w hF hS

/-- What is known may be cut down. -/
theorem WL.sub {kn' : Kn} {l : List Oper} (hs : Sub kn' kn) (h : WL P W0 n ops Q kn' H l) : WL P W0 n ops Q kn H l := fun a w hF hS => h a w (hF.sub hs) hS
theorem WC.sub {kn' : Kn} {c : Code} (hs : Sub kn' kn) (h : WC P W0 n Q kn' H c) : WC P W0 n Q kn H c := fun a w hF hS => h a w (hF.sub hs) hS
theorem EQ.sub {kn' : Kn} {e : Exit} (hs : Sub kn' kn) (h : EQ W0 n e Q kn' H) : EQ W0 n e Q kn H := fun a w hF hS => h a w (hF.sub hs) hS
theorem WC.drop {p : Nat × Obj} {c : Code} (h : WC P W0 n Q kn H c) : WC P W0 n Q kn (p :: H) c := fun a w hF hS => h a w hF hS.drop
theorem EQ.drop {p : Nat × Obj} {e : Exit} (h : EQ W0 n e Q kn H) : EQ W0 n e Q kn (p :: H) := fun a w hF hS => h a w hF hS.drop
theorem WL.drop {p : Nat × Obj} {l : List Oper} (h : WL P W0 n ops Q kn H l) : WL P W0 n ops Q kn (p :: H) l := fun a w hF hS => h a w hF hS.drop
theorem WC.perm {H' : Hp} {c : Code} (hp : H.Perm H') (h : WC P W0 n Q kn H' c) : WC P W0 n Q kn H c := fun a w hF hS => h a w hF (hS.perm hp)
theorem WL.perm {H' : Hp} {l : List Oper} (hp : H.Perm H') (h : WL P W0 n ops Q kn H' l) : WL P W0 n ops Q kn H l := fun a w hF hS => h a w hF (hS.perm hp)
theorem EQ.perm {H' : Hp} {e : Exit} (hp : H.Perm H') (h : EQ W0 n e Q kn H') : EQ W0 n e Q kn H := fun a w hF hS => h a w hF (hS.perm hp)

theorem WL.toMid {p : Nat × Obj} {l : List Oper} {seg : Hp} (h : WL P W0 n ops Q kn (seg ++ p :: H) l) : WL P W0 n ops Q kn (p :: (seg ++ H)) l := WL.perm List.perm_middle.symm h
theorem WL.fromMid {p : Nat × Obj} {l : List Oper} {seg : Hp} (h : WL P W0 n ops Q kn (p :: (seg ++ H)) l) : WL P W0 n ops Q kn (seg ++ p :: H) l := WL.perm List.perm_middle h
theorem EQ.mid {p : Nat × Obj} {e : Exit} {seg : Hp} (h : EQ W0 n e Q kn (seg ++ H)) : EQ W0 n e Q kn (seg ++ p :: H) := fun a w hF hS =>
  h a w hF (hS.sublist (List.Sublist.append_left (List.sublist_cons_self p H) seg))

/-! ### Exits -/
theorem EQ.thenN {K : Act → World → Prop} (h : ∀ a w, Fr a n kn → St W0 w H → K a w) : EQ W0 n .normal (Exit.then K Q) kn H := h
theorem EQ.code {y : Code} (h : WC P W0 n Q kn H y) : EQ W0 n .normal (Exit.then (y.wp P Q) Q) kn H := h
theorem EQ.thenR {K : Act → World → Prop} (h : EQ W0 n .ret Q kn H) : EQ W0 n .ret (Exit.then K Q) kn H := h
theorem EQ.thenE {K : Act → World → Prop} {i : Nat} (h : EQ W0 n (.exit i) Q kn H) : EQ W0 n (.exit i) (Exit.then K Q) kn H := h
theorem EQ.blockN {i : Nat} (h : EQ W0 n .normal Q kn H) : EQ W0 n .normal (Exit.inBlock i Q) kn H := h
theorem EQ.blockR {i : Nat} (h : EQ W0 n .ret Q kn H) : EQ W0 n .ret (Exit.inBlock i Q) kn H := h
theorem EQ.blockHit {i : Nat} (h : EQ W0 n .normal Q kn H) : EQ W0 n (.exit i) (Exit.inBlock i Q) kn H := fun a w hF hS => by
  simp only [Exit.inBlock, if_true]; exact h a w hF hS
theorem EQ.blockMiss {i j : Nat} (hij : Nat.beq i j = false) (h : EQ W0 n (.exit i) Q kn H) : EQ W0 n (.exit i) (Exit.inBlock j Q) kn H := fun a w hF hS => by
  have : i ≠ j := fun e => by subst e; simp [Nat.beq_refl] at hij
  simp only [Exit.inBlock, if_neg this]; exact h a w hF hS

theorem EQ.scopeN (h : EQ W0 n .normal Q kn H) : EQ W0 n .normal Q kn H := h

/-! ### Code -/
theorem WC.seq {x y : Code} (h : WC P W0 n (Exit.then (y.wp P Q) Q) kn H x) : WC P W0 n Q kn H (.seq x y) := fun a w hF hS => wp_seq (h a w hF hS)
theorem WC.region {id : Nat} {ops : Array Oper} (h : WL P W0 n ops Q kn H ops.toList) : WC P W0 n Q kn H (.region id ops false) := fun a w hF hS => wp_region_list (h a w hF hS)
theorem WC.block {id : Nat} {c : Code} (h : WC P W0 n (Exit.inBlock id Q) kn H c) : WC P W0 n Q kn H (.block id c) := fun a w hF hS => wp_block (h a w hF hS)
theorem WC.skip (h : EQ W0 n .normal Q kn H) : WC P W0 n Q kn H .skip := fun a w hF hS => wp_skip (h a w hF hS)
theorem WC.ret (h : EQ W0 n .ret Q kn H) : WC P W0 n Q kn H .ret := fun a w hF hS => wp_ret (h a w hF hS)
theorem WC.exit {i : Nat} (h : EQ W0 n (.exit i) Q kn H) : WC P W0 n Q kn H (.exit i) := fun a w hF hS => wp_exit (h a w hF hS)
theorem WC.cond {c : Operand} {x y : Code} {t : Bool} (hc : kop kn c = some (.bool t)) (hx : t = true → WC P W0 n Q kn H x) (hy : t = false → WC P W0 n Q kn H y) :
    WC P W0 n Q kn H (.cond c x y) := fun a w hF hS => wp_cond_split (hF.eval hc) (fun e => hx e a w hF hS) (fun e => hy e a w hF hS)
theorem WC.condT {c : Operand} {x y : Code} (hc : kop kn c = some (.bool true)) (hx : WC P W0 n Q kn H x) : WC P W0 n Q kn H (.cond c x y) :=
  fun a w hF hS => wp_cond_true (hF.eval hc) (hx a w hF hS)
theorem WC.condF {c : Operand} {x y : Code} (hc : kop kn c = some (.bool false)) (hy : WC P W0 n Q kn H y) : WC P W0 n Q kn H (.cond c x y) :=
  fun a w hF hS => wp_cond_false (hF.eval hc) (hy a w hF hS)

/-- A loop: σ says what varies; I and HI: what is known at the head of a round; inv: what holds of it; μ goes down. -/
theorem WC.loop {σ : Type} (I : σ → Kn) (HI : σ → Hp) (inv : σ → Prop) (μ : σ → Nat) (s : σ) {c : Code} (h0 : inv s) (hk : Sub (I s) kn) (hh : ∀ w, St W0 w H → St W0 w (HI s))
    (round : ∀ s, inv s → WC P W0 n (Exit.then (fun a w => ∃ s', inv s' ∧ μ s' < μ s ∧ Fr a n (I s') ∧ St W0 w (HI s')) Q) (I s) (HI s) c) :
    WC P W0 n Q kn H (.loop c) := fun a w hF hS => by
  refine wp_loop_sx (fun (s : σ) a w => inv s ∧ Fr a n (I s) ∧ St W0 w (HI s)) μ s ⟨h0, hF.sub hk, hh w hS⟩ ?_
  intro s a w ⟨h1, h2, h3⟩
  refine wp_mono (round s h1 a w h2 h3) ?_
  intro e a w hq
  cases e with
  | normal => obtain ⟨s', i1, i2, i3, i4⟩ := hq; exact ⟨s', ⟨i1, i3, i4⟩, i2⟩
  | _ => exact hq
where
  wp_loop_sx {σ : Type} {P : Program} {Q : Exit → Act → World → Prop} {a : Act} {w : World} {c : Code} (J : σ → Act → World → Prop) (μ : σ → Nat) (s : σ) (h₀ : J s a w)
    (round : ∀ s a w, J s a w → c.wp P (Exit.then (fun a' w' => ∃ s', J s' a' w' ∧ μ s' < μ s) Q) a w) : (Code.loop c).wp P Q a w := by
    intro b k cs
    have key : ∀ n s a w, μ s = n → J s a w →
        ∃ e a' w', Q e a' w' ∧ Arrives P (lone (b.at a (.code c :: .inLoop c :: k)) cs w) b k cs e a' w' := by
      intro n
      induction n using Nat.strongRecOn with
      | _ n ih =>
        intro s a w hn hI
        obtain ⟨e, a₁, w₁, hq, harr⟩ := round s a w hI b (.inLoop c :: k) cs
        cases e with
        | normal =>
          obtain ⟨s', hI₁, hlt⟩ := hq
          obtain ⟨e₂, a₂, w₂, hq₂, harr₂⟩ := ih (μ s') (hn ▸ hlt) s' a₁ w₁ rfl hI₁
          exact ⟨e₂, a₂, w₂, hq₂, .of_steps (Steps.trans harr (.one step_inLoop)) harr₂⟩
        | exit id => exact ⟨_, a₁, w₁, hq, .pass (x := .inLoop c) rfl (fun _ _ => .inl (by simp)) harr⟩
        | goto l => exact ⟨_, a₁, w₁, hq, .pass (x := .inLoop c) rfl (fun _ _ => .inl (by simp)) harr⟩
        | ret => exact ⟨_, a₁, w₁, hq, .pass (x := .inLoop c) rfl (fun _ _ => .inl (by simp)) harr⟩
        | panic ch => exact ⟨_, a₁, w₁, hq, .pass (x := .inLoop c) rfl (fun _ _ => .inl (by simp)) harr⟩
        | outgrown => exact ⟨_, a₁, w₁, hq, .pass (x := .inLoop c) rfl (fun _ _ => .inl (by simp)) harr⟩
    obtain ⟨e, a', w', hq, harr⟩ := key _ s a w rfl h₀
    exact ⟨e, a', w', hq, .of_steps (.one step_loop) harr⟩

/-- The round's end. -/
theorem EQ.again {σ : Type} {I : σ → Kn} {HI : σ → Hp} {inv : σ → Prop} {μ : σ → Nat} {m : Nat} (s' : σ) (h0 : inv s') (hm : μ s' < m) (hk : Sub (I s') kn) (hh : ∀ w, St W0 w H → St W0 w (HI s')) :
    EQ W0 n .normal (Exit.then (fun a w => ∃ s', inv s' ∧ μ s' < m ∧ Fr a n (I s') ∧ St W0 w (HI s')) Q) kn H :=
  fun _ w hF hS => ⟨s', h0, hm, hF.sub hk, hh w hS⟩

/-! ### The function -/
def knOf : Nat → List Value → Kn
  | _, [] => []
  | i, v :: r => (i, v) :: knOf (i + 1) r

theorem kget_knOf : ∀ (l : List Value) (k i : Nat) (v : Value), kget (knOf k l) i = some v → k ≤ i ∧ l[i - k]? = some v
  | [], _, _, _, h => by simp [knOf, kget] at h
  | u :: l, k, i, v, h => by
    simp only [knOf, kget_cons] at h
    by_cases e : k = i
    · subst e; simpa using h
    · rw [if_neg e] at h
      obtain ⟨h1, h2⟩ := kget_knOf l (k + 1) i v h
      refine ⟨by omega, ?_⟩
      rw [show i - k = (i - (k + 1)) + 1 from by omega]
      simpa using h2

theorem enter {f : FuncId} {fn : Func} {c : Code} {args : List Value} {R : Value → Hp → Prop} (hf : P.funcs[f]? = some fn) (hb : fn.body = some c) (hn : fn.ntmps = n) (hl : Nat.ble args.length n = true)
    (h : WC P W0 n (bodyPost P fn fun e w' => ∃ v H', e = .returned v ∧ R v H' ∧ St W0 w' H') (knOf 0 args) H c) : CxX P W0 f args.toArray H R := fun w hS => by
  have hln : args.length ≤ n := Nat.le_of_ble_eq_true hl
  refine calls_of_wp hf hb (h _ w ⟨?_, rfl, fun i v hi => ?_⟩ hS)
  · simp [hn]; omega
  · obtain ⟨_, h2⟩ := kget_knOf args 0 i v hi
    simp only [Nat.sub_zero] at h2
    have hlt : i < args.length := by
      rcases Nat.lt_or_ge i args.length with h' | h'
      · exact h'
      · simp [List.getElem?_eq_none h'] at h2
    simp only [Array.getD_eq_getD_getElem?]
    rw [Array.getElem?_append_left (by simpa using hlt)]
    simp [h2]

/-- A result: out of a temporary, or out of a variable. -/
def rvSem (tmps : Array Value) : ResultVar → Sem Value
  | .tmp t => pure (tmps.getD t undef)
  | .cell b t => do loadVar t (← asAddr (tmps.getD b undef))
def RV (P : Program) (W0 : World) (n : Nat) (kn : Kn) (H : Hp) (r : ResultVar) (v : Value) : Prop :=
  ∀ a w, Fr a n kn → St W0 w H → (rvSem a.tmps r).run P w = .ok v w

theorem RV.tmp {t : Tmp} {v : Value} (h : kget kn t = some v) : RV P W0 n kn H (.tmp t) v := fun a w hF _ => by
  simp only [rvSem, hF.val t v h]; rfl

theorem results_eq (fn : Func) (tmps : Array Value) : Go.results fn tmps = (do
  let vs ← fn.results.mapM (rvSem tmps)
  pure (if h : vs.size = 1 then vs[0] else .tuple vs)) := by
  have : (fun r => rvSem tmps r) = (fun r => match r with
    | .tmp t => pure (tmps.getD t undef)
    | .cell a t => do loadVar t (← asAddr (tmps.getD a undef))) := by funext r; cases r <;> rfl
  show _ = (do
    let vs ← fn.results.mapM (fun r => rvSem tmps r)
    pure (if h : vs.size = 1 then vs[0] else .tuple vs))
  rw [this]; rfl

/-- A result out of a variable of the call's own. -/
theorem RV.cellR {b t : Nat} {p : Addr} {d : TypeDesc} {v : Value} (h : kget kn b = some (.pointer (some p))) (ht : P.underlying t = some d) (hd : (match d with | .struct _ | .array _ _ => true | _ => false) = false) (hv : ∀ w, St W0 w H → w.cell? p = some v) :
    RV P W0 n kn H (.cell b t) v := fun a w hF hS => by
  have e := hF.val b _ h
  simp only [rvSem, e, asAddr]
  have hi : (isAgg t).run P w = .ok false w := by
    unfold isAgg
    simp only [Sem.run_bind, underlying, run_program, Result.andThen_ok, ht, Sem.run_pure]
    cases d <;> first | rfl | simp at hd
  simp [loadVar, hi, hv w hS]

theorem EQ.fin {fn : Func} {R : Value → Hp → Prop} {v : Value} (hr : ∀ a w, Fr a n kn → St W0 w H → (results fn a.tmps).run P w = .ok v w) (hR : R v H) :
    EQ W0 n .ret (bodyPost P fn fun e w' => ∃ v H', e = .returned v ∧ R v H' ∧ St W0 w' H') kn H := fun a w hF hS =>
  ⟨hF.defers, v, hr a w hF hS, v, H, rfl, hR, hS⟩
theorem EQ.finN {fn : Func} {R : Value → Hp → Prop} {v : Value} (hr : ∀ a w, Fr a n kn → St W0 w H → (results fn a.tmps).run P w = .ok v w) (hR : R v H) :
    EQ W0 n .normal (bodyPost P fn fun e w' => ∃ v H', e = .returned v ∧ R v H' ∧ St W0 w' H') kn H := fun a w hF hS =>
  ⟨hF.defers, v, hr a w hF hS, v, H, rfl, hR, hS⟩

theorem EQ.finD {fn : Func} {R : Value → Hp → Prop} {v : Value} {H' : Hp} (hr : ∀ a w, Fr a n kn → St W0 w H → (results fn a.tmps).run P w = .ok v w) (hh : ∀ w, St W0 w H → St W0 w H') (hR : R v H') :
    EQ W0 n .ret (bodyPost P fn fun e w' => ∃ v H', e = .returned v ∧ R v H' ∧ St W0 w' H') kn H := fun a w hF hS =>
  ⟨hF.defers, v, hr a w hF hS, v, H', rfl, hR, hh w hS⟩
theorem EQ.finDN {fn : Func} {R : Value → Hp → Prop} {v : Value} {H' : Hp} (hr : ∀ a w, Fr a n kn → St W0 w H → (results fn a.tmps).run P w = .ok v w) (hh : ∀ w, St W0 w H → St W0 w H') (hR : R v H') :
    EQ W0 n .normal (bodyPost P fn fun e w' => ∃ v H', e = .returned v ∧ R v H' ∧ St W0 w' H') kn H := fun a w hF hS =>
  ⟨hF.defers, v, hr a w hF hS, v, H', rfl, hR, hh w hS⟩

theorem res0 {fn : Func} (hr : fn.results = #[]) : ∀ a w, Fr a n kn → St W0 w H → (results fn a.tmps).run P w = .ok (.tuple #[]) w := fun _ _ _ _ => results_none hr _ _ _
theorem res1 {fn : Func} {r : ResultVar} {v : Value} (hr : fn.results = #[r]) (h : RV P W0 n kn H r v) :
    ∀ a w, Fr a n kn → St W0 w H → (results fn a.tmps).run P w = .ok v w := fun a w hF hS => by
  have e := h a w hF hS
  simp [results_eq, hr, e]
theorem res2 {fn : Func} {r s : ResultVar} {v u : Value} (hr : fn.results = #[r, s]) (h : RV P W0 n kn H r v) (h2 : RV P W0 n kn H s u) :
    ∀ a w, Fr a n kn → St W0 w H → (results fn a.tmps).run P w = .ok (.tuple #[v, u]) w := fun a w hF hS => by
  have e := h a w hF hS
  have e2 := h2 a w hF hS
  simp [results_eq, hr, e, e2]
theorem res3 {fn : Func} {r s t : ResultVar} {v u x : Value} (hr : fn.results = #[r, s, t]) (h : RV P W0 n kn H r v) (h2 : RV P W0 n kn H s u) (h3 : RV P W0 n kn H t x) :
    ∀ a w, Fr a n kn → St W0 w H → (results fn a.tmps).run P w = .ok (.tuple #[v, u, x]) w := fun a w hF hS => by
  have e := h a w hF hS
  have e2 := h2 a w hF hS
  have e3 := h3 a w hF hS
  simp [results_eq, hr, e, e2, e3]
end
end Go.Sx
