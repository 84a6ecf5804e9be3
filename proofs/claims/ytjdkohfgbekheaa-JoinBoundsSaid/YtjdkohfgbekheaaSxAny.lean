/- Regions that draw their order, with operations that turn the heap among them: what only reads is taken first. No conditions. -/
import Derived.Test.YtjdkohfgbekheaaSxDraw
import Derived.Test.YtjdkohfgbekheaaSxOps3
import Derived.Lib.SliceRun
import Derived.WalkSpells
namespace Go.Sx
open Go Go.RowKit

section
variable {P : Program} {W0 : World} {n : Nat} {ops : Array Oper} {Q : Exit → Act → World → Prop} {kn : Kn} {H : Hp}

/-- Only the straight way on is asked for. -/
def Str (K : Act → World → Prop) : Exit → Act → World → Prop
  | .normal, a, w => K a w
  | _, _, _ => False

/-- Whatever order is picked from here on, with worlds of the class between. -/
def AN (P : Program) (ops : Array Oper) (C : World → Prop) (K : Act → World → Prop) : Nat → Array Bool → Act → World → Prop
  | 0, listed, a, w => Region.ready .any ops listed = [] ∧ K a w
  | f + 1, listed, a, w => (Region.ready .any ops listed = [] → K a w) ∧
    ∀ i ∈ Region.ready .any ops listed, wpOp P ops (Str K) i (fun a' w' => C w' ∧ AN P ops C K f (listed.setIfInBounds i true) a' w') a w

theorem AN.mono {C C' : World → Prop} {K : Act → World → Prop} (hc : ∀ w, C w → C' w) : ∀ (f : Nat) (listed : Array Bool) (a : Act) (w : World), AN P ops C K f listed a w → AN P ops C' K f listed a w
  | 0, _, _, _, h => h
  | f + 1, _, _, _, h => ⟨h.1, fun i hi => wpOp_mono (fun _ _ hh => ⟨hc _ hh.1, AN.mono hc f _ _ _ hh.2⟩) (h.2 i hi)⟩

theorem wp_str {o : Oper} {K K' : Act → World → Prop} {a : Act} {w : World} (h : o.wp P a w K' (Str K)) : o.wp P a w K' Q := by
  unfold Oper.wp at *
  generalize (execOp a.eval o).run P w = r at *
  cases r with
  | ok x w' =>
    cases x <;> simp only [Oper.upon] at h ⊢ <;> first
      | exact h
      | exact Calls.mono h (fun e w'' he => by cases e <;> first | exact he | exact he.elim | exact (let ⟨_, _, hq⟩ := he; hq.elim))
      | exact Rows.mono h (fun _ _ he => he)
  | halt x w' => cases x <;> simp only [Oper.upon] at h ⊢ <;> exact h.elim

theorem wpOp_str {i : Nat} {K K' : Act → World → Prop} {a : Act} {w : World} (h : wpOp P ops (Str K) i K' a w) : wpOp P ops Q i K' a w := by
  unfold wpOp at *
  cases hoi : ops[i]? with
  | none => simpa [hoi] using h
  | some o =>
    simp only [hoi] at h ⊢
    split
    · rename_i hw
      rw [if_pos hw] at h
      rcases h with h | ⟨h1, ⟨_, _, h2⟩⟩
      · exact .inl (wp_str h)
      · exact h2.elim
    · rename_i hw
      rw [if_neg hw] at h
      exact h

theorem AN.any {C : World → Prop} : ∀ (f : Nat) (listed : Array Bool) (a : Act) (w : World), AN P ops C (Q .normal) f listed a w → wpAny P .any ops Q f listed a w
  | 0, _, _, _, h => h
  | f + 1, _, _, _, h => ⟨h.1, fun i hi => wpOp_mono (fun _ _ hh => AN.any f _ _ _ hh.2) (wpOp_str (h.2 i hi))⟩

/-- An operation that reads alone: its value in every world of the class. -/
def Reads (P : Program) (ops : Array Oper) (C : World → Prop) (o : Oper) (v : Value) (a : Act) : Prop :=
  (Region.wanted o (yielded ops a.tmps) = true ∧ ∀ w, C w → (execOp a.eval o).run P w = .ok (.value v) w) ∨ (Region.wanted o (yielded ops a.tmps) = false ∧ v = undef)

theorem Reads.wpOp {C : World → Prop} {i : Nat} {o : Oper} {v : Value} {a : Act} {w : World} {K K' : Act → World → Prop} (hi : ops[i]? = some o) (hy : Reads P ops C o v a) (hC : C w) (h : K (a.put o.dst v) w) : wpOp P ops (Str K') i K a w := by
  unfold Go.wpOp
  simp only [hi]
  rcases hy with ⟨hw, hv⟩ | ⟨hw, rfl⟩
  · rw [if_pos hw]
    left
    unfold Oper.wp
    rw [hv w hC]
    exact h
  · rw [if_neg (by simp [hw])]
    exact h

theorem Oper.wp_put {oi oj : Oper} {v : Value} {a : Act} {w : World} {K K' : Act → World → Prop} (hap : oi.apart ops oj = true) (hsj : ∀ cs b, oj.op ≠ .select cs b)
    (h : oj.wp P (a.put oi.dst v) w K (Str K')) : oj.wp P a w (fun a' w' => ∃ (a1 : Act) (u : Value), a1.tmps = a.tmps ∧ a' = a1.put oj.dst u ∧ K (a'.put oi.dst v) w') (Str K') := by
  obtain ⟨h1, h2, h3⟩ := Oper.apart_spec hap
  unfold Oper.wp at *
  rw [execOp_put oj hsj a oi.dst v h1] at h
  have comm : ∀ (a : Act) u, (a.put oj.dst u).put oi.dst v = (a.put oi.dst v).put oj.dst u := fun a u => (Act.put_comm a v u h2).symm
  generalize (execOp a.eval oj).run P w = r at *
  cases r with
  | ok x w' =>
    cases x <;> simp only [Oper.upon] at h ⊢ <;> first
      | exact ⟨a, _, rfl, rfl, by rw [comm]; exact h⟩
      | exact Calls.mono h (fun e w'' he => by cases e <;> first | exact ⟨a, _, rfl, rfl, by rw [comm]; exact he⟩ | exact he | exact he.elim)
      | exact Rows.mono h (fun _ _ he => ⟨a, _, rfl, rfl, by rw [comm]; exact he⟩)
      | exact h.elim
      | skip
    rename_i d
    refine ⟨{ a with defers := d :: a.defers }, undef, rfl, rfl, ?_⟩
    rw [comm]
    have e : ({ a with defers := d :: a.defers } : Act).put oi.dst v = { tmps := (a.put oi.dst v).tmps, defers := d :: (a.put oi.dst v).defers } := by
      cases oi.dst <;> rfl
    rw [e]
    exact h
  | halt x w' => cases x <;> simp only [Oper.upon] at h ⊢ <;> exact h.elim

theorem Reads.keep {C : World → Prop} {oi oj : Oper} {v : Value} {a a1 : Act} (hap : oi.apart ops oj = true) (hsi : ∀ cs b, oi.op ≠ .select cs b) (hy : Reads P ops C oi v a) (ht : a1.tmps = a.tmps) (u : Value) : Reads P ops C oi v (a1.put oj.dst u) := by
  obtain ⟨h1, h2, h3⟩ := Oper.apart_spec hap
  have e : a1.eval = a.eval := by
    funext x
    cases x <;> simp [Act.eval, ht]
  unfold Reads at *
  rw [execOp_put oi hsi a1 oj.dst u h3, wanted_put oi a1 oj.dst u h3, e, ht]
  exact hy

theorem wpOp_put {C : World → Prop} {j : Nat} {oi oj : Oper} {v : Value} {a : Act} {w : World} {K K' : Act → World → Prop} (hj : ops[j]? = some oj) (hap : oi.apart ops oj = true) (hsi : ∀ cs b, oi.op ≠ .select cs b) (hsj : ∀ cs b, oj.op ≠ .select cs b)
    (hy : Reads P ops C oi v a) (h : wpOp P ops (Str K') j K (a.put oi.dst v) w) : wpOp P ops (Str K') j (fun a' w' => Reads P ops C oi v a' ∧ K (a'.put oi.dst v) w') a w := by
  obtain ⟨h1, h2, h3⟩ := Oper.apart_spec hap
  unfold Go.wpOp at *
  simp only [hj] at *
  rw [wanted_put oj a oi.dst v h1] at h
  split
  · rename_i hw
    rw [if_pos hw] at h
    rcases h with h | ⟨_, ⟨_, _, hq⟩⟩
    · left
      exact Oper.wp_mono (fun a' w' ⟨a1, u, e1, e2, hk⟩ => ⟨by rw [e2]; exact hy.keep hap hsi e1 u, hk⟩) (Oper.wp_put hap hsj h)
    · exact hq.elim
  · rename_i hw
    rw [if_neg hw] at h
    exact ⟨hy.keep hap hsi rfl undef, by rw [← Act.put_comm a v undef h2]; exact h⟩

/-- **What only reads and may come up now may be taken first.** -/
theorem AN.first {C : World → Prop} {K : Act → World → Prop} {i : Nat} {oi : Oper} {v : Value} (hi : ops[i]? = some oi) (hsel : ∀ (j : Nat) (o : Oper) cs b, ops[j]? = some o → o.op ≠ .select cs b) :
    ∀ (f : Nat) (listed : Array Bool) (a : Act) (w : World),
      (∀ j oj, ops[j]? = some oj → j ≠ i → listed.getD j true = false → (∀ e ∈ oj.after, Region.binds .any e = true → e.on ≠ i) → oi.apart ops oj = true) →
      i ∈ Region.ready .any ops listed → Reads P ops C oi v a → C w →
      AN P ops C K f (listed.setIfInBounds i true) (a.put oi.dst v) w → AN P ops C K (f + 1) listed a w := by
  intro f
  induction f with
  | zero =>
    intro listed a w _ hr hy hC h
    refine ⟨fun h0 => (by rw [h0] at hr; cases hr), fun j hj => ?_⟩
    by_cases hji : j = i
    · subst hji; exact hy.wpOp hi hC ⟨hC, h⟩
    · have := ready_mono hj hji
      rw [h.1] at this
      cases this
  | succ f ih =>
    intro listed a w hfree hr hy hC h
    refine ⟨fun h0 => (by rw [h0] at hr; cases hr), fun j hj => ?_⟩
    by_cases hji : j = i
    · subst hji; exact hy.wpOp hi hC ⟨hC, h⟩
    · have h1 := h.2 j (ready_mono hj hji)
      obtain ⟨hjun, oj, hoj, hall⟩ := mem_ready.1 hj
      have hnot : ∀ e ∈ oj.after, Region.binds .any e = true → e.on ≠ i := fun e he hb heq => by
        have h1 := hall e he hb
        have h0 := (mem_ready.1 hr).1
        rw [heq] at h1
        rcases Nat.lt_or_ge i listed.size with h' | h'
        · simp [h'] at h0 h1; rw [h0] at h1; cases h1
        · simp [Array.getElem?_eq_none h'] at h1
      have h2 := wpOp_put hoj (hfree j oj hoj hji hjun hnot) (fun cs b => hsel i oi cs b hi) (fun cs b => hsel j oj cs b hoj) hy h1
      have hfree' : ∀ k ok, ops[k]? = some ok → k ≠ i → (listed.setIfInBounds j true).getD k true = false →
          (∀ e ∈ ok.after, Region.binds .any e = true → e.on ≠ i) → oi.apart ops ok = true := fun k ok hk hki hun hno => by
        refine hfree k ok hk hki ?_ hno
        by_cases hjk : j = k
        · subst hjk; exact hjun
        · rw [getD_set_ne true hjk] at hun; exact hun
      refine wpOp_mono (fun a' w' h3 => ⟨h3.2.1, ih (listed.setIfInBounds j true) a' w' hfree' (ready_mono hr (Ne.symm hji)) h3.1 h3.2.1 ?_⟩) h2
      rw [Array.setIfInBounds_comm _ _ hji]
      exact h3.2.2

/-! ### The judgement -/
/-- Hc: what stays as it is whatever comes up; H: what is known now. -/
def AJ (P : Program) (W0 : World) (n : Nat) (ops : Array Oper) (K : Act → World → Prop) (f : Nat) (listed : Array Bool) (Hc : Hp) (kn : Kn) (H : Hp) : Prop :=
  (∀ w, St W0 w H → St W0 w Hc) ∧ ∀ a w, Fr a n kn → St W0 w H → AN P ops (fun w => St W0 w Hc) K f listed a w

variable {K : Act → World → Prop} {f : Nat} {listed : Array Bool} {Hc : Hp}
def firstB (ops : Array Oper) (listed : Array Bool) (i : Nat) : Bool := (Region.ready .any ops listed).contains i && Region.free .any ops listed i && Region.noSelect ops
def oneB (ops : Array Oper) (listed : Array Bool) (i : Nat) : Bool := match Region.ready .any ops listed with
  | [j] => Nat.beq j i
  | _ => false

theorem AJ.p {i : Nat} {o : Oper} {v : Value} (hi : ops[i]? = some o) (hb : firstB ops listed i = true) (hg : Wn n ops kn o true) (hd : dok n o.dst = true) (h : OpP P W0 n kn Hc o v)
    (k : AJ P W0 n ops K f (listed.setIfInBounds i true) Hc (kset kn o.dst v) H) : AJ P W0 n ops K (f + 1) listed Hc kn H := ⟨k.1, fun a w hF hS => by
  simp only [firstB, Bool.and_eq_true] at hb
  obtain ⟨⟨h1, h2⟩, h3⟩ := hb
  exact AN.first hi (Region.noSelect_spec h3) f listed a w (Region.free_spec hi h2) (by simpa using h1) (.inl ⟨hg a hF, fun w' hw' => h a w' hF hw'⟩) (k.1 w hS) (k.2 _ _ (hF.put hd v) hS)⟩
theorem AJ.skip {i : Nat} {o : Oper} (hi : ops[i]? = some o) (hb : firstB ops listed i = true) (hg : Wn n ops kn o false) (hd : dok n o.dst = true)
    (k : AJ P W0 n ops K f (listed.setIfInBounds i true) Hc (kset kn o.dst undef) H) : AJ P W0 n ops K (f + 1) listed Hc kn H := ⟨k.1, fun a w hF hS => by
  simp only [firstB, Bool.and_eq_true] at hb
  obtain ⟨⟨h1, h2⟩, h3⟩ := hb
  exact AN.first hi (Region.noSelect_spec h3) f listed a w (Region.free_spec hi h2) (by simpa using h1) (.inr ⟨hg a hF, rfl⟩) (k.1 w hS) (k.2 _ _ (hF.put hd undef) hS)⟩
theorem AJ.g {i : Nat} {o : Oper} {c : Bool} {v : Value} (hi : ops[i]? = some o) (hb : firstB ops listed i = true) (hg : Wn n ops kn o c) (hd : dok n o.dst = true) (h : c = true → OpP P W0 n kn Hc o v)
    (k : AJ P W0 n ops K f (listed.setIfInBounds i true) Hc (kset kn o.dst (gv c v)) H) : AJ P W0 n ops K (f + 1) listed Hc kn H := by
  cases c with
  | true => exact AJ.p hi hb hg hd (h rfl) k
  | false => exact AJ.skip hi hb hg hd k

/-- What is asked behind one operation that stands alone. -/
def One (P : Program) (W0 : World) (ops : Array Oper) (K : Act → World → Prop) (f : Nat) (listed : Array Bool) (Hc : Hp) : Exit → Act → World → Prop :=
  Str (fun a w => St W0 w Hc ∧ AN P ops (fun w => St W0 w Hc) K f listed a w)

theorem one_op {i : Nat} {o : Oper} (hi : ops[i]? = some o) (h : WL P W0 n ops (One P W0 ops K f (listed.setIfInBounds i true) Hc) kn H [o]) {a : Act} {w : World} (hF : Fr a n kn) (hS : St W0 w H) :
    wpOp P ops (Str K) i (fun a' w' => St W0 w' Hc ∧ AN P ops (fun w => St W0 w Hc) K f (listed.setIfInBounds i true) a' w') a w := by
  have hw := h a w hF hS
  unfold Go.wpOp
  simp only [hi]
  simp only [wpList] at hw
  split
  · rename_i hc
    rw [if_pos hc] at hw
    rcases hw with hw | ⟨_, ⟨_, _, hq⟩⟩
    · exact .inl (wp_str hw)
    · exact hq.elim
  · rename_i hc
    rw [if_neg hc] at hw
    exact hw
theorem AJ.one (i : Nat) {o : Oper} (hi : ops[i]? = some o) (hb : oneB ops listed i = true) (hh : ∀ w, St W0 w H → St W0 w Hc)
    (h : WL P W0 n ops (One P W0 ops K f (listed.setIfInBounds i true) Hc) kn H [o]) : AJ P W0 n ops K (f + 1) listed Hc kn H := ⟨hh, fun a w hF hS => by
  have hr : Region.ready .any ops listed = [i] := by
    unfold oneB at hb
    split at hb
    · rename_i j hj
      rw [hj, Nat.eq_of_beq_eq_true hb]
    · cases hb
  refine ⟨fun h0 => (by rw [h0] at hr; cases hr), fun j hj => ?_⟩
  rw [hr] at hj
  rw [List.mem_singleton.1 hj]
  exact one_op hi h hF hS⟩
theorem AJ.two (i i2 : Nat) {o o2 : Oper} (hi : ops[i]? = some o) (hi2 : ops[i2]? = some o2) (hb : Region.ready .any ops listed = [i, i2]) (hh : ∀ w, St W0 w H → St W0 w Hc)
    (h : WL P W0 n ops (One P W0 ops K f (listed.setIfInBounds i true) Hc) kn H [o]) (h2 : WL P W0 n ops (One P W0 ops K f (listed.setIfInBounds i2 true) Hc) kn H [o2]) : AJ P W0 n ops K (f + 1) listed Hc kn H := ⟨hh, fun a w hF hS => by
  refine ⟨fun h0 => (by rw [h0] at hb; cases hb), fun j hj => ?_⟩
  rw [hb] at hj
  rcases List.mem_cons.1 hj with e | e
  · rw [e]; exact one_op hi h hF hS
  · rw [List.mem_singleton.1 e]; exact one_op hi2 h2 hF hS⟩
theorem EQ.an {H' : Hp} (h : AJ P W0 n ops K f listed Hc kn H') : EQ W0 n .normal (One P W0 ops K f listed Hc) kn H' := fun a w hF hS =>
  ⟨h.1 w hS, h.2 a w hF hS⟩
theorem AJ.done (hr : Region.ready .any ops listed = []) (hh : ∀ w, St W0 w H → St W0 w Hc) (h : EQ W0 n .normal Q kn H) : AJ P W0 n ops (Q .normal) 0 listed Hc kn H := ⟨hh, fun a w hF hS => ⟨hr, h a w hF hS⟩⟩

theorem WC.mix {id : Nat} {ops : Array Oper} (hm : P.follows .mixedOrders = true) (h : AJ P W0 n ops (Q .normal) ops.size (Array.replicate ops.size false) H kn H) : WC P W0 n Q kn H (.region id ops true) := fun a _ hF hS =>
  wp_region_any hm (AN.any _ _ _ _ (h.2 a _ hF (hS.drawn _)))

/-- .. with a class of worlds of one's own: what is read must stand in it. -/
theorem WC.mixC {id : Nat} {ops : Array Oper} (Hc : Hp) (hm : P.follows .mixedOrders = true) (h : AJ P W0 n ops (Q .normal) ops.size (Array.replicate ops.size false) Hc kn H) : WC P W0 n Q kn H (.region id ops true) := fun a _ hF hS =>
  wp_region_any hm (AN.any _ _ _ _ (h.2 a _ hF (hS.drawn _)))

theorem WL.hp {H' : Hp} {l : List Oper} (hh : ∀ w, St W0 w H → St W0 w H') (h : WL P W0 n ops Q kn H' l) : WL P W0 n ops Q kn H l := fun a w hF hS => h a w hF (hh w hS)
/-- A guard that lets through may be left out. -/
theorem WL.unguard {d op ty pos aft gd} {rest : List Oper} (hg : Wn n ops kn ⟨d, op, ty, pos, aft, gd⟩ true) (h : WL P W0 n ops Q kn H (⟨d, op, ty, pos, aft, none⟩ :: rest)) : WL P W0 n ops Q kn H (⟨d, op, ty, pos, aft, gd⟩ :: rest) := fun a w hF hS => by
  have h1 := h a w hF hS
  have e : ∀ (ρ : Operand → Value), execOp ρ ⟨d, op, ty, pos, aft, gd⟩ = execOp ρ ⟨d, op, ty, pos, aft, none⟩ := fun ρ => by
    cases op <;> rfl
  unfold wpList at *
  rw [if_pos (hg a hF)]
  rw [if_pos (by simp [Region.wanted])] at h1
  unfold Oper.wp Oper.asks at *
  rw [e]
  exact h1
theorem set_hit {α : Type} {l : List α} {i : Nat} {p q : α} (h : l[i]? = some p) : (l.set i q)[i]? = some q := by
  have hl : i < l.length := (List.getElem?_eq_some_iff.1 h).1
  simp [hl]
theorem set_mem {α : Type} {l : List α} {i : Nat} {p q : α} (h : l[i]? = some p) : q ∈ l.set i q := List.mem_of_getElem? (set_hit (q := q) h)
/-- A store over a whole block. -/
theorem OpS.storeAll {d ty pos aft gd} {t : TypeId} {x y : Operand} {b k i : Nat} {l vs : List Value} {T : TypeId} {g : Bool} {v : Value} (hx : kop kn x = some (.pointer (some ⟨b, 0, none⟩)))
    (hy : kop kn y = some v) (ht : tyI P t = some (g, k)) (hi : H[i]? = some (b, cl l T)) (hv : v.cells = ⟨vs⟩) (hk : Nat.beq vs.length k = true) (h1 : vs.all Value.oneCell' = true) (hl : Nat.beq l.length k = true) :
    OpS P W0 n kn H ⟨d, .store t x y, ty, pos, aft, gd⟩ (H.set i (b, cl vs T)) := by
  have e1 := Nat.eq_of_beq_eq_true hk
  have e2 := Nat.eq_of_beq_eq_true hl
  have e := spl_all l vs (by omega)
  have := OpS.store (P := P) (W0 := W0) (n := n) (d := d) (ty := ty) (pos := pos) (aft := aft) (gd := gd) hx hy ht hi hv e1 h1 (Nat.ble_eq_true_of_le (by omega))
  rw [e] at this
  exact this
theorem eqGuard_sl (o : BinOp) (t : TypeId) (x y : Operand) (a b : Option Addr) (i j k l : Nat) (w : World) : (eqGuard o t x y (.slice a i j) (.slice b k l)).run P w = .ok () w := by
  cases o <;> rfl
theorem OpP.eqlSl {d ty pos aft g} {t t' e : TypeId} {x y : Operand} {p : Option Addr} {i j k l : Nat} (hx : kop kn x = some (.slice p i j)) (hy : kop kn y = some (.slice none k l)) (ht : P.underlying t = some (.slice e)) :
    OpP P W0 n kn H ⟨d, .binOp .eql t x y t', ty, pos, aft, g⟩ (.bool p.isNone) :=
  OpP.binR hx hy (eqGuard_sl _ _ _ _ _ _ _ _ _ _) (fun w => Lib.run_eql_slice_nil w t e p i j k l ht)
theorem OpP.neqSl {d ty pos aft g} {t t' e : TypeId} {x y : Operand} {p : Option Addr} {i j k l : Nat} (hx : kop kn x = some (.slice p i j)) (hy : kop kn y = some (.slice none k l)) (ht : P.underlying t = some (.slice e)) :
    OpP P W0 n kn H ⟨d, .binOp .neq t x y t', ty, pos, aft, g⟩ (.bool (!p.isNone)) :=
  OpP.binR hx hy (eqGuard_sl _ _ _ _ _ _ _ _ _ _) (fun w => run_neq_slice_nil_any w t e p i j k l ht)
end
end Go.Sx
