/- Regions that draw their order: one walk serves every order. No conditions. -/
import Derived.Test.YtjdkohfgbekheaaSx
import Derived.Deep.Quiet
namespace Go.Sx
open Go Go.RowKit

section
variable {P : Program} {W0 : World} {n : Nat} {ops : Array Oper} {Q : Exit → Act → World → Prop} {kn : Kn} {H : Hp} {G : Act → Prop}

/-- A walk of operations of which each has one value, whatever the order. -/
def WQ (P : Program) (W0 : World) (n : Nat) (ops : Array Oper) (H : Hp) (G : Act → Prop) (kn : Kn) (l : List Oper) : Prop :=
  ∀ a, Fr a n kn → wpQuiet P ops (fun w => St W0 w H) G l a

theorem WQ.p {o : Oper} {rest : List Oper} {v : Value} (hg : Wn n ops kn o true) (hd : dok n o.dst = true) (h : OpP P W0 n kn H o v)
    (k : WQ P W0 n ops H G (kset kn o.dst v) rest) : WQ P W0 n ops H G kn (o :: rest) := fun a hF => by
  unfold wpQuiet
  rw [if_pos (hg a hF)]
  refine ⟨v, fun w hS => ?_, k _ (hF.put hd v)⟩
  unfold Oper.quietAt
  rw [h a w hF hS]
  exact ⟨rfl, rfl⟩
theorem WQ.skip {o : Oper} {rest : List Oper} (hg : Wn n ops kn o false) (hd : dok n o.dst = true) (k : WQ P W0 n ops H G (kset kn o.dst undef) rest) : WQ P W0 n ops H G kn (o :: rest) := fun a hF => by
  unfold wpQuiet
  rw [if_neg (by rw [hg a hF]; simp)]
  exact k _ (hF.put hd undef)
theorem WQ.g {o : Oper} {rest : List Oper} {c : Bool} {v : Value} (hg : Wn n ops kn o c) (hd : dok n o.dst = true) (h : c = true → OpP P W0 n kn H o v)
    (k : WQ P W0 n ops H G (kset kn o.dst (gv c v)) rest) : WQ P W0 n ops H G kn (o :: rest) := by
  cases c with
  | true => exact WQ.p hg hd (h rfl) k
  | false => exact WQ.skip hg hd k
theorem WQ.callD {o : Oper} {rest : List Oper} {f : Nat} {xs : Array Operand} {tys : Array TypeId} {args : List Value} {v : Value}
    (ho : o.op = .call ⟨.value (.func f), xs, tys⟩) (hg : Wn n ops kn o true) (hd : dok n o.dst = true) (hk : Cal P f)
    (ha : kops kn xs.toList = some args) (h : CxD P W0 f args.toArray H v H)
    (k : WQ P W0 n ops H G (kset kn o.dst v) rest) : WQ P W0 n ops H G kn (o :: rest) := fun a hF => by
  unfold wpQuiet
  rw [if_pos (hg a hF)]
  refine ⟨v, fun w hS => ?_, k _ (hF.put hd v)⟩
  unfold Oper.quietAt
  rw [run_call ho hk a.eval rfl w]
  have e : xs.map a.eval = args.toArray := by
    have := hF.evals ha
    apply Array.ext'
    simpa using this
  rw [e]
  refine ⟨rfl, (h w hS).mono fun e w' ⟨v', H', he, ⟨e1, e2⟩, hS'⟩ => ?_⟩
  subst e1 e2
  exact ⟨he, hS'⟩
theorem WQ.gcall {o : Oper} {rest : List Oper} {f : Nat} {xs : Array Operand} {tys : Array TypeId} {args : List Value} {c : Bool} {v : Value}
    (ho : o.op = .call ⟨.value (.func f), xs, tys⟩) (hg : Wn n ops kn o c) (hd : dok n o.dst = true) (hk : Cal P f)
    (ha : c = true → kops kn xs.toList = some args) (h : c = true → CxD P W0 f args.toArray H v H)
    (k : WQ P W0 n ops H G (kset kn o.dst (gv c v)) rest) : WQ P W0 n ops H G kn (o :: rest) := by
  cases c with
  | true => exact WQ.callD ho hg hd hk (ha rfl) (h rfl) k
  | false => exact WQ.skip hg hd k
theorem WQ.nil (h : ∀ a, Fr a n kn → G a) : WQ P W0 n ops H G kn [] := fun a hF => h a hF
theorem WQ.sub {kn' : Kn} {l : List Oper} (hs : Sub kn' kn) (h : WQ P W0 n ops H G kn' l) : WQ P W0 n ops H G kn l := fun a hF => h a (hF.sub hs)

/-- All operations quiet. -/
theorem WC.draw {id : Nat} {ops : Array Oper} (hm : P.follows .mixedOrders = true) (hB : Region.lexB .any ops = true)
    (h : WQ P W0 n ops H (fun a' => ∀ w', St W0 w' H → Q .normal a' w') kn ops.toList) : WC P W0 n Q kn H (.region id ops true) := fun a _ hF hS =>
  wp_region_quiet (C := fun w => St W0 w H) hm hB (hS.drawn _) (h a hF)
theorem WQ.done (h : EQ W0 n .normal Q kn H) : WQ P W0 n ops H (fun a' => ∀ w', St W0 w' H → Q .normal a' w') kn [] := fun a hF w' hS => h a w' hF hS

/-! ### A head in whatever order, then a tail in the text's order -/
/-- Does operation j wait for operation i, by itself or through others. -/
def anc (ops : Array Oper) : Nat → Nat → Nat → Bool
  | 0, _, _ => false
  | f + 1, j, i => match ops[j]? with
    | some o => o.after.any fun e => Region.binds .any e && (e.on == i || anc ops f e.on i)
    | none => false

/-- From number m on each operation waits for all ahead of it. -/
def tailB (ops : Array Oper) (m : Nat) : Bool :=
  (List.range ops.size).all fun j => Nat.blt j m || (List.range j).all fun i => anc ops ops.size j i

def Dc (ops : Array Oper) (listed : Array Bool) : Prop := ∀ j o, ops[j]? = some o → listed.getD j false = true → ∀ e ∈ o.after, Region.binds .any e = true → listed.getD e.on false = true

theorem anc_listed {listed : Array Bool} (hd : Dc ops listed) : ∀ (f j i : Nat), (∀ o, ops[j]? = some o → ∀ e ∈ o.after, Region.binds .any e = true → listed.getD e.on false = true) → anc ops f j i = true → listed.getD i false = true
  | 0, _, _, _, h => by simp [anc] at h
  | f + 1, j, i, hj, h => by
    simp only [anc] at h
    split at h
    · rename_i o ho
      obtain ⟨e, he, hb⟩ := Array.any_eq_true'.1 h
      simp only [Bool.and_eq_true, Bool.or_eq_true, beq_iff_eq] at hb
      have hl := hj o ho e he hb.1
      rcases hb.2 with h1 | h1
      · rw [← h1]; exact hl
      · exact anc_listed hd f e.on i (fun o' ho' e' he' hb' => hd e.on o' ho' hl e' he' hb') h1
    · cases h

theorem ready_after {listed : Array Bool} {j : Nat} (hj : j ∈ Region.ready .any ops listed) : j < ops.size ∧ listed.getD j true = false ∧ ∀ o, ops[j]? = some o → ∀ e ∈ o.after, Region.binds .any e = true → listed.getD e.on false = true := by
  obtain ⟨h1, oj, h2, h3⟩ := mem_ready.1 hj
  refine ⟨?_, h1, fun o ho e he hb => ?_⟩
  · rcases Nat.lt_or_ge j ops.size with h | h
    · exact h
    · simp [Array.getElem?_eq_none h] at h2
  · rw [h2] at ho; cases ho; exact h3 e he hb

theorem Dc.set {listed : Array Bool} (hd : Dc ops listed) {i : Nat} (hi : i ∈ Region.ready .any ops listed) : Dc ops (listed.setIfInBounds i true) := by
  intro j o ho hl e he hb
  have hmono : ∀ k, listed.getD k false = true → (listed.setIfInBounds i true).getD k false = true := by
    intro k hk
    by_cases e : i = k
    · subst e
      have : i < listed.size := by
        rcases Nat.lt_or_ge i listed.size with h | h
        · exact h
        · simp [Array.getElem?_eq_none h] at hk
      simp [this]
    · simpa [Array.getElem?_setIfInBounds_ne e] using hk
  apply hmono
  by_cases hij : i = j
  · subst hij; exact (ready_after hi).2.2 o ho e he hb
  · exact hd j o ho (by simpa [Array.getElem?_setIfInBounds_ne hij] using hl) e he hb

/-- What is listed among the first m. -/
def headOf (ops : Array Oper) (m : Nat) : Array Oper := (ops.toList.take m).toArray

theorem headOf_get {m i : Nat} : (headOf ops m)[i]? = if i < m then ops[i]? else none := by
  simp [headOf, List.getElem?_take]

theorem ready_head {listed : Array Bool} {m : Nat} {i : Nat} (hi : i < m) :
    i ∈ Region.ready .any ops listed ↔ i ∈ Region.ready .any (headOf ops m) listed := by
  rw [mem_ready, mem_ready, headOf_get, if_pos hi]

theorem wpOp_head {m i : Nat} (hi : i < m) {K : Act → World → Prop} {Q Q' : Exit → Act → World → Prop} {a : Act} {w : World} (hgu : ∀ o, ops[i]? = some o → ∀ j want, o.guard = some (j, want) → j < m)
    (hp : ∀ c a w, Q' (.panic c) a w → Q (.panic c) a w) (ho : LetsOut Q' → LetsOut Q) (h : wpOp P (headOf ops m) Q' i K a w) : wpOp P ops Q i K a w := by
  unfold wpOp at *
  rw [headOf_get, if_pos hi] at h
  cases hoi : ops[i]? with
  | none => simpa [hoi] using h
  | some o =>
    simp only [hoi] at h ⊢
    have hy : Region.wanted o (yielded (headOf ops m) a.tmps) = Region.wanted o (yielded ops a.tmps) := by
      cases hg : o.guard with
      | none => simp [Region.wanted, hg]
      | some jw =>
        obtain ⟨j, want⟩ := jw
        have hj := hgu o hoi j want hg
        simp only [Region.wanted, hg, yielded, headOf_get, if_pos hj]
    rw [hy] at h
    split
    · rename_i hw
      rw [if_pos hw] at h
      rcases h with h | ⟨h1, h2⟩
      · left
        unfold Oper.wp at *
        generalize (execOp a.eval o).run P w = r at *
        cases r with
        | ok x w' =>
          cases x <;> simp only [Oper.upon] at h ⊢ <;> first
            | exact h
            | exact Calls.mono h (fun e w'' he => by cases e <;> first | exact he | exact hp _ _ _ he | exact ho he)
            | exact Rows.mono h (fun _ _ he => he)
        | halt x w' => cases x <;> simp only [Oper.upon] at h ⊢ <;> exact hp _ _ _ h
      · exact .inr ⟨h1, ho h2⟩
    · rename_i hw
      rw [if_neg hw] at h
      exact h

/-- Each operation waits for, and is guarded by, operations ahead of it alone. -/
def backB (ops : Array Oper) : Bool :=
  (List.range ops.size).all fun j => match ops[j]? with
    | some o => (o.after.all fun e => Nat.blt e.on j) && (match o.guard with
      | some (i, _) => Nat.blt i j
      | none => true : Bool)
    | none => true

theorem backB_spec (h : backB ops = true) {j : Nat} {o : Oper} (ho : ops[j]? = some o) : (∀ e ∈ o.after, e.on < j) ∧ ∀ i want, o.guard = some (i, want) → i < j := by
  have hj : j < ops.size := (Array.getElem?_eq_some_iff.1 ho).1
  have := List.all_eq_true.1 h j (by simpa using hj)
  simp only [ho, Bool.and_eq_true] at this
  refine ⟨fun e he => ?_, fun i want hg => ?_⟩
  · have := Array.all_eq_true'.1 this.1 e he
    simpa using this
  · have := this.2
    rw [hg] at this
    simpa using this

/-- The tail, in the text's order. -/
theorem wpAny_tail {Q : Exit → Act → World → Prop} (x : Nat) (hbk : backB ops = true) : ∀ (l : List Oper) (k : Nat) (listed : Array Bool) (a : Act) (w : World), (∀ j, l[j]? = ops[k + j]?) → k + l.length = ops.size → listed.size = ops.size →
    (∀ m, k ≤ m → tailB ops m = true) → Dc ops listed → (∀ j, j < k → listed.getD j false = true) → (∀ j, k ≤ j → j < ops.size → listed.getD j true = false) → wpList P ops Q l a w → wpAny P .any ops Q (x + l.length) listed a w
  | [], k, listed, a, w, _, hk, _, _, _, hall, _, h => by
    simp only [List.length_nil, Nat.add_zero] at hk
    have hr : Region.ready .any ops listed = [] := by
      refine List.eq_nil_iff_forall_not_mem.2 fun j hj => ?_
      obtain ⟨h1, h2, _⟩ := ready_after hj
      have h3 := hall j (by omega)
      rcases Nat.lt_or_ge j listed.size with h' | h'
      · simp [h'] at h2 h3; rw [h2] at h3; cases h3
      · simp [Array.getElem?_eq_none h'] at h2
    cases x with
    | zero => exact ⟨hr, h⟩
    | succ x => exact ⟨fun _ => h, fun i hi => by rw [hr] at hi; cases hi⟩
  | o :: l, k, listed, a, w, hl, hk, hsz, ht, hd, hall, hun, h => by
    simp only [List.length_cons] at hk
    have hko : ops[k]? = some o := by simpa using (hl 0).symm
    have hkl : k < listed.size := by omega
    have hk0 : listed.getD k true = false := hun k (Nat.le_refl _) (by omega)
    have only : ∀ j ∈ Region.ready .any ops listed, j = k := by
      intro j hj
      obtain ⟨h1, h2, h3⟩ := ready_after hj
      rcases Nat.lt_trichotomy j k with h4 | h4 | h4
      · have h5 := hall j h4
        simp [hsz, h1] at h2 h5; rw [h2] at h5; cases h5
      · exact h4
      · exfalso
        have := List.all_eq_true.1 (ht k (Nat.le_refl _)) j (by simpa using h1)
        simp only [Bool.or_eq_true] at this
        rcases this with h5 | h5
        · have : j < k := by simpa using h5
          omega
        · have h6 := List.all_eq_true.1 h5 k (by simpa using h4)
          have h7 := anc_listed hd _ j k h3 h6
          simp [hkl] at h7 hk0; rw [h7] at hk0; cases hk0
    have hrk : k ∈ Region.ready .any ops listed := by
      refine mem_ready.2 ⟨hk0, o, hko, fun e he hb => hall _ ((backB_spec hbk hko).1 e he)⟩
    show wpAny P .any ops Q ((x + l.length) + 1) listed a w
    refine ⟨fun h0 => (by rw [h0] at hrk; cases hrk), fun i hi => ?_⟩
    have e := only i hi
    subst e
    have ih : ∀ a w, wpList P ops Q l a w → wpAny P .any ops Q (x + l.length) (listed.setIfInBounds i true) a w := fun a w hh =>
      wpAny_tail x hbk l (i + 1) _ a w (fun j => by have := hl (j + 1); simpa [Nat.add_assoc, Nat.add_comm 1 j] using this) (by omega) (by simpa using hsz)
        (fun m hm => ht m (by omega)) (hd.set hi)
        (fun j hj => by
          by_cases e : i = j
          · subst e; simp [hkl]
          · have := hall j (by omega); simpa [Array.getElem?_setIfInBounds_ne e] using this)
        (fun j hj hj2 => by
          have := hun j (by omega) hj2
          have e : i ≠ j := by omega
          simpa [Array.getElem?_setIfInBounds_ne e] using this) hh
    unfold wpList at h
    unfold wpOp
    rw [hko]
    simp only
    split
    · rename_i hw
      rw [if_pos hw] at h
      rcases h with h | h
      · exact .inl (Oper.wp_mono (fun a w hh => ih a w hh) h)
      · exact .inr h
    · rename_i hw
      rw [if_neg hw] at h
      exact ih _ _ h

/-- A head in whatever order, then the tail. -/
theorem wpAny_head {Q : Exit → Act → World → Prop} {Q' : Exit → Act → World → Prop} {m : Nat} (hm : m ≤ ops.size) (hbk : backB ops = true) (ht : ∀ k, m ≤ k → tailB ops k = true)
    (hq : ∀ a w, Q' .normal a w → wpList P ops Q (ops.toList.drop m) a w) (hp : ∀ c a w, Q' (.panic c) a w → Q (.panic c) a w) (ho : LetsOut Q' → LetsOut Q) :
    ∀ (f : Nat) (listed lh : Array Bool) (a : Act) (w : World), listed.size = ops.size → lh.size = m → Dc ops listed → (∀ i, i < m → listed.getD i true = lh.getD i true) → (∀ j, m ≤ j → j < ops.size → listed.getD j true = false) →
      wpAny P .any (headOf ops m) Q' f lh a w → wpAny P .any ops Q (f + (ops.size - m)) listed a w := by
  have agree : ∀ (listed lh : Array Bool), listed.size = ops.size → lh.size = m → (∀ i, i < m → listed.getD i true = lh.getD i true) → ∀ i, i < m → listed.getD i false = lh.getD i false := by
    intro listed lh h1 h2 h3 i hi
    have := h3 i hi
    have e1 : i < listed.size := by omega
    have e2 : i < lh.size := by omega
    simpa [e1, e2] using this
  have rd : ∀ (listed lh : Array Bool), listed.size = ops.size → lh.size = m → (∀ i, i < m → listed.getD i true = lh.getD i true) → ∀ i, i < m → (i ∈ Region.ready .any ops listed ↔ i ∈ Region.ready .any (headOf ops m) lh) := by
    intro listed lh h1 h2 h3 i hi
    rw [mem_ready, mem_ready, headOf_get, if_pos hi, h3 i hi]
    constructor
    · rintro ⟨q1, o, q2, q3⟩
      refine ⟨q1, o, q2, fun e he hb => ?_⟩
      have := (backB_spec hbk q2).1 e he
      rw [← agree listed lh h1 h2 h3 _ (by omega)]; exact q3 e he hb
    · rintro ⟨q1, o, q2, q3⟩
      refine ⟨q1, o, q2, fun e he hb => ?_⟩
      have := (backB_spec hbk q2).1 e he
      rw [agree listed lh h1 h2 h3 _ (by omega)]; exact q3 e he hb
  have low : ∀ (lh : Array Bool), ∀ i ∈ Region.ready .any (headOf ops m) lh, i < m := by
    intro lh i hi
    obtain ⟨_, o, h2, _⟩ := mem_ready.1 hi
    rw [headOf_get] at h2
    split at h2
    · assumption
    · cases h2
  have fin : ∀ (listed lh : Array Bool), listed.size = ops.size → lh.size = m → (∀ i, i < m → listed.getD i true = lh.getD i true) → Region.ready .any (headOf ops m) lh = [] → ∀ j, j < m → listed.getD j false = true := by
    intro listed lh h1 h2 h3 hr j
    induction j using Nat.strongRecOn with
    | _ j ih =>
      intro hj
      cases hl : listed.getD j true with
      | true =>
        have e1 : j < listed.size := by omega
        simpa [e1] using hl
      | false =>
        exfalso
        have e1 : j < ops.size := by omega
        have : j ∈ Region.ready .any ops listed := by
          refine mem_ready.2 ⟨hl, ops[j], by simp [e1], fun e he _ => ?_⟩
          have hlt := (backB_spec hbk (j := j) (o := ops[j]) (by simp [e1])).1 e he
          exact ih e.on hlt (by omega)
        rw [rd listed lh h1 h2 h3 j hj, hr] at this
        cases this
  have finish : ∀ (x : Nat) (listed lh : Array Bool) (a : Act) (w : World), listed.size = ops.size → lh.size = m → Dc ops listed → (∀ i, i < m → listed.getD i true = lh.getD i true) → (∀ j, m ≤ j → j < ops.size → listed.getD j true = false) →
      Region.ready .any (headOf ops m) lh = [] → Q' .normal a w → wpAny P .any ops Q (x + (ops.size - m)) listed a w := by
    intro x listed lh a w h1 h2 h3 h4 h5 hr h6
    have := wpAny_tail (P := P) (Q := Q) x hbk (ops.toList.drop m) m listed a w (fun j => by simp) (by simp; omega) h1 ht h3 (fin listed lh h1 h2 h4 hr) h5 (hq a w h6)
    simpa using this
  intro f
  induction f with
  | zero =>
    intro listed lh a w h1 h2 h3 h4 h5 h
    exact finish 0 listed lh a w h1 h2 h3 h4 h5 h.1 h.2
  | succ f ih =>
    intro listed lh a w h1 h2 h3 h4 h5 h
    by_cases hr : Region.ready .any (headOf ops m) lh = []
    · exact finish (f + 1) listed lh a w h1 h2 h3 h4 h5 hr (h.1 hr)
    · rw [show f + 1 + (ops.size - m) = (f + (ops.size - m)) + 1 from by omega]
      have head : ∀ i ∈ Region.ready .any ops listed, i < m := by
        intro i hi
        obtain ⟨q1, q2, q3⟩ := ready_after hi
        rcases Nat.lt_or_ge i m with h' | h'
        · exact h'
        · exfalso
          obtain ⟨j, hj⟩ := List.exists_mem_of_ne_nil _ hr
          have hjm := low lh j hj
          have := List.all_eq_true.1 (ht i h') i (by simpa using q1)
          simp only [Bool.or_eq_true] at this
          rcases this with h6 | h6
          · simp at h6
          · have h7 := List.all_eq_true.1 h6 j (by simp; omega)
            have h8 := anc_listed h3 _ i j q3 h7
            have h9 := (mem_ready.1 hj).1
            rw [← h4 j hjm] at h9
            have e1 : j < listed.size := by omega
            simp [e1] at h8 h9; rw [h8] at h9; cases h9
      refine ⟨fun h0 => ?_, fun i hi => ?_⟩
      · exfalso
        obtain ⟨j, hj⟩ := List.exists_mem_of_ne_nil _ hr
        have := (rd listed lh h1 h2 h4 j (low lh j hj)).2 hj
        rw [h0] at this; cases this
      · have him := head i hi
        have hih := (rd listed lh h1 h2 h4 i him).1 hi
        refine wpOp_head him (fun o hoo j want hg => by have := (backB_spec hbk hoo).2 j want hg; omega) hp ho (wpOp_mono (fun a' w' hh => ?_) (h.2 i hih))
        refine ih _ _ a' w' (by simpa using h1) (by simpa using h2) (h3.set hi) (fun k hk => ?_) (fun j hj hj2 => ?_) hh
        · by_cases e : i = k
          · subst e
            have e1 : i < listed.size := by omega
            have e2 : i < lh.size := by omega
            simp [e1, e2]
          · have := h4 k hk
            simpa [Array.getElem?_setIfInBounds_ne e] using this
        · have e : i ≠ j := by omega
          have := h5 j hj hj2
          simpa [Array.getElem?_setIfInBounds_ne e] using this

def tailsB (ops : Array Oper) (m : Nat) : Bool := Nat.ble m ops.size && backB ops && tailB ops m && Region.lexB .any (headOf ops m)

theorem tailB_mono {m k : Nat} (h : m ≤ k) (ht : tailB ops m = true) : tailB ops k = true := by
  unfold tailB at *
  refine List.all_eq_true.2 fun j hj => ?_
  have := List.all_eq_true.1 ht j hj
  simp only [Bool.or_eq_true] at this ⊢
  rcases this with h1 | h1
  · left
    have : j < m := by simpa using h1
    simp; omega
  · exact .inr h1

/-- What is asked behind the head. -/
def HeadPost (P : Program) (ops : Array Oper) (Q : Exit → Act → World → Prop) (m : Nat) : Exit → Act → World → Prop
  | .normal, a, w => wpList P ops Q (ops.toList.drop m) a w
  | _, _, _ => False
/-- A quiet head, then a tail in the text's order. -/
theorem WC.drawT {id : Nat} {ops : Array Oper} (m : Nat) (hm : P.follows .mixedOrders = true) (hB : tailsB ops m = true) 
    (h : WQ P W0 n (headOf ops m) H (fun a' => ∀ w', St W0 w' H → wpList P ops Q (ops.toList.drop m) a' w') kn (ops.toList.take m)) : WC P W0 n Q kn H (.region id ops true) := fun a w hF hS => by
  simp only [tailsB, Bool.and_eq_true] at hB
  obtain ⟨⟨⟨h1, h2⟩, h3⟩, h4⟩ := hB
  have h1' := Nat.le_of_ble_eq_true h1
  simp only [Region.lexB, Bool.and_eq_true] at h4
  refine wp_region_any hm ?_
  have hlen : (headOf ops m).size = m := by simp [headOf]; omega
  have hq := wpAnyQ_lex (P := P) (C := fun w => St W0 w H) (md := .any) (Q := fun a' => ∀ w', St W0 w' H → wpList P ops Q (ops.toList.drop m) a' w') h4.1 (ops.toList.take m) 0 (Array.replicate (headOf ops m).size false) a
    (fun j => by simp [headOf]) (by simpa [hlen, Nat.min_eq_left h1'] using h4.2) (h a hF)
  have hw := wpAny_of_quiet (P := P) (C := fun w => St W0 w H) (md := .any) (Q' := HeadPost P ops Q m) (fun a' w' hw' hh => hh w' hw') _ _ _ { w with drawn := w.drawn + 1 } (hS.drawn (w.drawn + 1)) hq
  have := wpAny_head (P := P) (Q := Q) h1' h2 (fun k hk => tailB_mono hk h3) (fun a w hh => hh) (fun c a w hh => hh.elim) (fun ⟨a, w, hh⟩ => hh.elim) _ (Array.replicate ops.size false) _ a _ (by simp) (by simp [hlen]) (fun j o _ hl => by
      exfalso
      simp only [Array.getD_eq_getD_getElem?, Array.getElem?_replicate] at hl
      split at hl <;> simp at hl) (fun i hi => by
      have : i < ops.size := by omega
      simp [this, hlen, hi]) (fun j hj hj2 => by simp [hj2]) hw
  rw [show (ops.toList.take m).length + (ops.size - m) = ops.size from by simp; omega] at this
  exact this
theorem WQ.tail {l : List Oper} (h : WL P W0 n ops Q kn H l) {ops' : Array Oper} : WQ P W0 n ops' H (fun a' => ∀ w', St W0 w' H → wpList P ops Q l a' w') kn [] := fun a hF w' hS => h a w' hF hS
end
end Go.Sx
