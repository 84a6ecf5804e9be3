/- Calls of functions without a body, of function values; and deferred calls. No conditions. -/
import Derived.Test.YtjdkohfgbekheaaSxStr
import Derived.Laws.LoneSync
import Derived.Defers
namespace Go.Sx
open Go Go.RowKit

section
variable {P : Program} {W0 : World} {n : Nat} {kn : Kn} {H : Hp} {ops : Array Oper} {Q : Exit → Act → World → Prop}

theorem run_callF {o : Oper} {f : Nat} {xs : Array Operand} {tys : Array TypeId} (ho : o.op = .call ⟨.value (.func f), xs, tys⟩) (ρ : Operand → Value) (hρ : ρ (.func f) = .func (.func f) #[] #[]) (w : World) :
    (execOp ρ o).run P w = (callFunc f (xs.map ρ)).run P w := by
  simp only [execOp, ho, resolve, hρ, Deferred.ofValue]
  simp [invoke]

theorem Fr.evalsA' {a : Act} (h : Fr a n kn) {xs : Array Operand} {args : List Value} (ha : kops kn xs.toList = some args) : xs.map a.eval = args.toArray := by
  have := h.evals ha
  apply Array.ext'
  simpa using this

/-- A function without a body that only yields a value. -/
theorem OpP.extern {d tys ty pos aft g} {f : Nat} {xs : Array Operand} {args : List Value} {v : Value} (ha : kops kn xs.toList = some args) (h : ∀ w, St W0 w H → (callFunc f args.toArray).run P w = .ok (.value v) w) :
    OpP P W0 n kn H ⟨d, .call ⟨.value (.func f), xs, tys⟩, ty, pos, aft, g⟩ v := fun a w hF hS => by
  rw [run_callF rfl a.eval rfl w, hF.evalsA' ha]
  exact h w hS
/-- One that sets a cell of the call's own. -/
theorem WL.externS {o : Oper} {rest : List Oper} {f : Nat} {xs : Array Operand} {tys : Array TypeId} {args : List Value} {v u : Value} {b c i : Nat} {l : List Value} {T : TypeId} (ho : o.op = .call ⟨.value (.func f), xs, tys⟩) (hg : Wn n ops kn o true) (hd : dok n o.dst = true)
    (ha : kops kn xs.toList = some args) (hi : H[i]? = some (b, cl l T)) (h : ∀ w, St W0 w H → (callFunc f args.toArray).run P w = .ok (.value v) (w.setCell ⟨b, c, none⟩ u))
    (k : WL P W0 n ops Q (kset kn o.dst v) (H.set i (b, cl (l.set c u) T)) rest) : WL P W0 n ops Q kn H (o :: rest) := by
  refine WL.x (R := fun v' H' => v' = v ∧ H' = H.set i (b, cl (l.set c u) T)) hg hd (fun a w hF hS => ?_) (fun v' H' ⟨e1, e2⟩ => by subst e1 e2; exact k)
  refine ⟨v, w.setCell ⟨b, c, none⟩ u, _, ?_, ⟨rfl, rfl⟩, ?_⟩
  · rw [run_callF ho a.eval rfl w, hF.evalsA' ha]; exact h w hS
  · rw [setCell_blk (own_heap hS (List.mem_of_getElem? hi))]
    exact hS.setBlk hi
theorem cell_own {w : World} (hS : St W0 w H) {b o : Nat} {l : List Value} {T : TypeId} {v : Value} (hm : (b, cl l T) ∈ H) (hv : l[o]? = some v) : w.cell? ⟨b, o, none⟩ = some v := Rd.own hm hv w hS
theorem frozen_own {w : World} (hS : St W0 w H) {b o : Nat} {l : List Value} {T : TypeId} (hm : (b, cl l T) ∈ H) : w.frozen? ⟨b, o, none⟩ = false := by
  have hb : w.heap[b]? = some (cl l T) := own_heap hS hm
  simp [World.frozen?, hb]

/-- A function value. -/
theorem OpP.makeFunc {d ty pos aft g} {fn : Fn} {xs : Array Operand} {args : List Value} (ha : kops kn xs.toList = some args) : OpP P W0 n kn H ⟨d, .makeFunc fn xs #[], ty, pos, aft, g⟩ (.func fn args.toArray #[]) := fun a w hF hS => by
  simp only [execOp, Instr.makeFunc]
  rw [hF.evalsA' ha]
  simp
theorem OpP.makeFuncC {d ty pos aft g} {fn : Fn} {xs ys : Array Operand} {args caps : List Value} (ha : kops kn xs.toList = some args) (hc : kops kn ys.toList = some caps) : OpP P W0 n kn H ⟨d, .makeFunc fn xs ys, ty, pos, aft, g⟩ (.func fn args.toArray caps.toArray) := fun a w hF hS => by
  simp only [execOp, Instr.makeFunc]
  rw [hF.evalsA' ha, hF.evalsA' hc]
  simp
theorem run_callV {o : Oper} {x : Operand} {f : Nat} {xs : Array Operand} {tys : Array TypeId} {first cap : Array Value} (ho : o.op = .call ⟨.value x, xs, tys⟩) (hk : Cal P f) (ρ : Operand → Value) (hρ : ρ x = .func (.func f) first cap) (w : World) :
    (execOp ρ o).run P w = .ok (.enter f (first ++ xs.map ρ ++ cap)) w := by
  obtain ⟨fn, c, hf, hn, hb⟩ := hk
  simp only [execOp, ho, resolve, hρ, Deferred.ofValue]
  simp only [beq_eq_false_iff_ne, ne_eq] at hn
  simp [invoke, callFunc, hf, hb, hn]
/-- A call of a function value. -/
theorem WL.callV {o : Oper} {rest : List Oper} {x : Operand} {f : Nat} {xs : Array Operand} {tys : Array TypeId} {first cap : Array Value} {args all : List Value} {R : Value → Hp → Prop}
    (ho : o.op = .call ⟨.value x, xs, tys⟩) (hx : kop kn x = some (.func (.func f) first cap)) (hg : Wn n ops kn o true) (hd : dok n o.dst = true) (hk : Cal P f)
    (ha : kops kn xs.toList = some args) (hall : first ++ args.toArray ++ cap = all.toArray) (h : CxX P W0 f all.toArray H R)
    (k : ∀ v H', R v H' → WL P W0 n ops Q (kset kn o.dst v) H' rest) : WL P W0 n ops Q kn H (o :: rest) := fun a w hF hS => by
  unfold wpList
  rw [if_pos (hg a hF)]
  refine .inl ?_
  unfold Oper.wp
  rw [run_callV ho hk a.eval (hF.eval hx) w, hF.evalsA' ha, hall]
  refine (h w hS).mono fun e w' ⟨v, H', he, hR, hS'⟩ => ?_
  subst he
  exact k v H' hR _ _ (hF.put hd v) hS'

/-! ### Frames with deferred calls -/
structure FrD (a : Act) (n : Nat) (D : List Deferred) (kn : Kn) : Prop where
  fr : Fr { a with defers := [] } n kn
  defers : a.defers = D
def WLD (P : Program) (W0 : World) (n : Nat) (ops : Array Oper) (Q : Exit → Act → World → Prop) (D : List Deferred) (kn : Kn) (H : Hp) (l : List Oper) : Prop :=
  ∀ a w, FrD a n D kn → St W0 w H → wpList P ops Q l a w
def WCD (P : Program) (W0 : World) (n : Nat) (Q : Exit → Act → World → Prop) (D : List Deferred) (kn : Kn) (H : Hp) (c : Code) : Prop :=
  ∀ a w, FrD a n D kn → St W0 w H → c.wp P Q a w
theorem FrD.put {a : Act} {D : List Deferred} (h : FrD a n D kn) {dst : Option Tmp} (hd : dok n dst = true) (v : Value) : FrD (a.put dst v) n D (kset kn dst v) := by
  refine ⟨?_, ?_⟩
  · have := h.fr.put hd v
    cases dst <;> exact this
  · cases dst <;> exact h.defers
theorem FrD.of {a : Act} (h : Fr a n kn) : FrD a n [] kn := ⟨by have := h; rw [show ({ a with defers := [] } : Act) = a from by rw [← h.defers]]; exact this, h.defers⟩
theorem FrD.to {a : Act} (h : FrD a n [] kn) : Fr a n kn := by have := h.fr; rwa [show ({ a with defers := [] } : Act) = a from by rw [← h.defers]] at this
variable {D : List Deferred}
theorem WLD.p {o : Oper} {rest : List Oper} {v : Value} (hg : o.guard = none) (hd : dok n o.dst = true) (h : OpP P W0 n kn H o v) (k : WLD P W0 n ops Q D (kset kn o.dst v) H rest) : WLD P W0 n ops Q D kn H (o :: rest) := fun a w hF hS => by
  unfold wpList
  rw [if_pos (by simp [Region.wanted, hg])]
  exact .inl (upon_wp (h { a with defers := [] } w hF.fr hS) (k _ _ (hF.put hd v) hS))
theorem WLD.call {o : Oper} {rest : List Oper} {f : Nat} {xs : Array Operand} {tys : Array TypeId} {args : List Value} {v : Value} {H' : Hp} (ho : o.op = .call ⟨.value (.func f), xs, tys⟩) (hg : o.guard = none) (hd : dok n o.dst = true) (hk : Cal P f)
    (ha : kops kn xs.toList = some args) (h : CxD P W0 f args.toArray H v H') (k : WLD P W0 n ops Q D (kset kn o.dst v) H' rest) : WLD P W0 n ops Q D kn H (o :: rest) := fun a w hF hS => by
  unfold wpList
  rw [if_pos (by simp [Region.wanted, hg])]
  refine .inl ?_
  unfold Oper.wp
  rw [run_call ho hk a.eval rfl w]
  have e : xs.map a.eval = args.toArray := hF.fr.evalsA' ha
  rw [e]
  refine (h w hS).mono fun e w' ⟨v', H'', he, ⟨e1, e2⟩, hS'⟩ => ?_
  subst he e1 e2
  exact k _ _ (hF.put hd _) hS'
theorem WLD.callV {o : Oper} {rest : List Oper} {x : Operand} {f : Nat} {xs : Array Operand} {tys : Array TypeId} {first cap : Array Value} {args all : List Value} {v : Value} {H' : Hp}
    (ho : o.op = .call ⟨.value x, xs, tys⟩) (hx : kop kn x = some (.func (.func f) first cap)) (hg : o.guard = none) (hd : dok n o.dst = true) (hk : Cal P f)
    (ha : kops kn xs.toList = some args) (hall : first ++ args.toArray ++ cap = all.toArray) (h : CxD P W0 f all.toArray H v H') (k : WLD P W0 n ops Q D (kset kn o.dst v) H' rest) : WLD P W0 n ops Q D kn H (o :: rest) := fun a w hF hS => by
  unfold wpList
  rw [if_pos (by simp [Region.wanted, hg])]
  refine .inl ?_
  unfold Oper.wp
  have ex : a.eval x = .func (.func f) first cap := hF.fr.eval hx
  rw [run_callV ho hk a.eval ex w, show xs.map a.eval = args.toArray from hF.fr.evalsA' ha, hall]
  refine (h w hS).mono fun e w' ⟨v', H'', he, ⟨e1, e2⟩, hS'⟩ => ?_
  subst he e1 e2
  exact k _ _ (hF.put hd _) hS'
theorem WLD.defer {o : Oper} {rest : List Oper} {f : Nat} {xs : Array Operand} {tys : Array TypeId} {args : List Value} (ho : o.op = .defer ⟨.value (.func f), xs, tys⟩) (hg : o.guard = none) (hd : dok n o.dst = true) (ha : kops kn xs.toList = some args)
    (k : WLD P W0 n ops Q ({ target := .fn (.func f) #[], args := args.toArray } :: D) (kset kn o.dst undef) H rest) : WLD P W0 n ops Q D kn H (o :: rest) := fun a w hF hS => by
  unfold wpList
  rw [if_pos (by simp [Region.wanted, hg])]
  refine .inl ?_
  unfold Oper.wp
  have e : (execOp a.eval o).run P w = .ok (.defer { target := .fn (.func f) #[], args := args.toArray }) w := by
    simp only [execOp, ho, resolve]
    rw [show xs.map a.eval = args.toArray from hF.fr.evalsA' ha]
    have : a.eval (.func f) = .func (.func f) #[] #[] := rfl
    rw [this]
    simp [Deferred.ofValue]
  rw [e]
  show wpList P ops Q rest (({ a with defers := _ :: a.defers } : Act).put o.dst undef) w
  refine k _ _ ?_ hS
  have : FrD ({ a with defers := { target := .fn (.func f) #[], args := args.toArray } :: a.defers } : Act) n ({ target := .fn (.func f) #[], args := args.toArray } :: D) kn := ⟨hF.fr, by show _ :: a.defers = _; rw [hF.defers]⟩
  exact this.put hd undef
theorem WLD.nil (h : ∀ a w, FrD a n D kn → St W0 w H → Q .normal a w) : WLD P W0 n ops Q D kn H [] := fun a w hF hS => h a w hF hS
theorem WLD.sub {kn' : Kn} {l : List Oper} (hs : Sub kn' kn) (h : WLD P W0 n ops Q D kn' H l) : WLD P W0 n ops Q D kn H l := fun a w hF hS => h a w ⟨hF.fr.sub hs, hF.defers⟩ hS
theorem WCD.region {id : Nat} {ops : Array Oper} (h : WLD P W0 n ops Q D kn H ops.toList) : WCD P W0 n Q D kn H (.region id ops false) := fun a w hF hS => wp_region_list (h a w hF hS)
theorem WCD.seq {x y : Code} (h : WCD P W0 n (Exit.then (y.wp P Q) Q) D kn H x) : WCD P W0 n Q D kn H (.seq x y) := fun a w hF hS => wp_seq (h a w hF hS)
theorem WCD.condT {c : Operand} {x y : Code} (hc : kop kn c = some (.bool true)) (hx : WCD P W0 n Q D kn H x) : WCD P W0 n Q D kn H (.cond c x y) := fun a w hF hS => wp_cond_true (hF.fr.eval hc) (hx a w hF hS)

/-- What a deferred call comes to. -/
def CdX (P : Program) (W0 : World) (f : FuncId) (args : Array Value) (H : Hp) (v : Value) (H' : Hp) : Prop :=
  ∀ w, St W0 w H → CallsD P f args .returning w fun e u' w' => u' = .returning ∧ ∃ v' H'', e = .returned v' ∧ (v' = v ∧ H'' = H') ∧ St W0 w' H''
theorem enterD {f : FuncId} {fn : Func} {c : Code} {args : List Value} {v : Value} {H' : Hp} (hf : P.funcs[f]? = some fn) (hb : fn.body = some c) (hn : fn.ntmps = n) (hl : Nat.ble args.length n = true)
    (h : WC P W0 n (bodyPost P fn fun e w' => ∃ v' H'', e = .returned v' ∧ (v' = v ∧ H'' = H') ∧ St W0 w' H'') (knOf 0 args) H c) : CdX P W0 f args.toArray H v H' := fun w hS => by
  have hln : args.length ≤ n := Nat.le_of_ble_eq_true hl
  refine callsD_of_wp hf hb (h _ w ⟨?_, rfl, fun i v hi => ?_⟩ hS)
  · simp [hn]; omega
  · obtain ⟨_, h2⟩ := kget_knOf args 0 i v hi
    simp only [Nat.sub_zero] at h2
    have hlt : i < args.length := by
      rcases Nat.lt_or_ge i args.length with h' | h'
      · exact h'
      · simp [List.getElem?_eq_none h'] at h2
    simp only [Array.getD_eq_getD_getElem?]
    rw [Array.getElem?_append_left (by simpa using hlt)]
    simp [h2]
/-- A function that ends with deferred calls behind it: each leaves the world so. -/
theorem leaves_one {fn : Func} {tmps : Array Value} {R : Ending → World → Prop} {f : Nat} {args : List Value} {ds : List Deferred} {v : Value} {H' : Hp} {w : World} (hk : Cal P f) (h : CdX P W0 f args.toArray H v H') (hS : St W0 w H)
    (k : ∀ w', St W0 w' H' → Leaves P fn tmps R ds .returning w') : Leaves P fn tmps R ({ target := .fn (.func f) #[], args := args.toArray } :: ds) .returning w := by
  obtain ⟨g, c, hf, hn, hb⟩ := hk
  refine leaves_cons (by simp) (f := f) (args := args.toArray) ?_ ?_
  · simp only [beq_eq_false_iff_ne, ne_eq] at hn
    simp [invoke, callFunc, hf, hb, hn]
  · refine (h w hS).mono fun e u' w' ⟨hu, v', H'', he, ⟨e1, e2⟩, hS'⟩ => ?_
    subst he hu e1 e2
    exact k w' hS'
theorem enterL {f : FuncId} {fn : Func} {c : Code} {args : List Value} {v : Value} {H' : Hp} (hf : P.funcs[f]? = some fn) (hb : fn.body = some c) (hn : fn.ntmps = n) (hl : Nat.ble args.length n = true)
    (h : WCD P W0 n (bodyPostD P fn fun e w' => ∃ v' H'', e = .returned v' ∧ (v' = v ∧ H'' = H') ∧ St W0 w' H'') [] (knOf 0 args) H c) : CxD P W0 f args.toArray H v H' := fun w hS => by
  have hln : args.length ≤ n := Nat.le_of_ble_eq_true hl
  refine calls_of_wp_defers hf hb (h _ w ⟨⟨?_, rfl, fun i v hi => ?_⟩, rfl⟩ hS)
  · simp [hn]; omega
  · obtain ⟨_, h2⟩ := kget_knOf args 0 i v hi
    simp only [Nat.sub_zero] at h2
    have hlt : i < args.length := by
      rcases Nat.lt_or_ge i args.length with h' | h'
      · exact h'
      · simp [List.getElem?_eq_none h'] at h2
    simp only [Array.getD_eq_getD_getElem?]
    rw [Array.getElem?_append_left (by simpa using hlt)]
    simp [h2]
end
end Go.Sx
