/- The rules of arrays: literals, cuts, copies, indexes; blocks of whole numbers. No conditions. -/
import Derived.Test.YtjdkohfgbekheaaSxOps2
import Derived.Test.YtjdkohfgbekheaaSxDraw
namespace Go.Sx
open Go Go.RowKit

/-- Whole numbers of one kind, as cells. -/
abbrev iv (k : IntKind) (l : List Int) : List Value := l.map (Value.int k)
theorem spl_iv (k : IntKind) (l : List Int) (o : Nat) (x : Int) : spl (iv k l) o [.int k x] = iv k (l.set o x) := by
  show (l.map (Value.int k)).set o (.int k x) = _
  simp [iv, List.map_set]
theorem iv_mem {k : IntKind} {l : List Int} (u : Value) (hu : u ∈ iv k l) : u.oneCell' = true := by
  obtain ⟨x, _, rfl⟩ := List.mem_map.1 hu
  rfl
theorem slice_congr {a a' : Option Addr} {n n' c c' : Nat} (h1 : a = a') (h2 : n = n') (h3 : c = c') : Value.slice a n c = .slice a' n' c' := by rw [h1, h2, h3]
theorem iv_get (k : IntKind) (l : List Int) (j : Nat) (h : j < l.length) : (⟨iv k l⟩ : Array Value)[j]? = some (.int k (l.getD j 0)) := by
  simp [List.getD_eq_getElem?_getD, List.getElem?_eq_getElem h]
theorem iv_one (k : IntKind) (l : List Int) : (iv k l).all Value.oneCell' = true := by simp [Value.oneCell']

section
variable {P : Program} {W0 : World} {n : Nat} {kn : Kn} {H : Hp} {ops : Array Oper} {Q : Exit → Act → World → Prop}

theorem Rd.arr {b o : Nat} {k : IntKind} {l : List Int} {T : TypeId} (h : (b, cl (iv k l) T) ∈ H) (ho : o < l.length) : Rd W0 H ⟨b, o, none⟩ (.int k (l.getD o 0)) := by
  refine Rd.own h ?_
  simp [List.getD_eq_getElem?_getD, List.getElem?_eq_getElem ho]

theorem Sl.get {a : Option Addr} {k : IntKind} {l : List Int} (h : Sl W0 H a (iv k l)) (j : Nat) (hj : j < l.length) : Rd W0 H (slAt a (j * 1)) (.int k (l.getD j 0)) := by
  rw [Nat.mul_one]
  refine h.2.2 j _ ?_
  simp [List.getD_eq_getElem?_getD, List.getElem?_eq_getElem hj]

theorem Sl.cut {a : Option Addr} {xs : List Value} (h : Sl W0 H a xs) (k : Nat) (c : Prop) [Decidable c] (hc : c → xs.length ≤ k ∨ k = 0) : Sl W0 H (if c then a else a.map (·.add (k * 1))) (xs.drop k) := by
  split
  · rename_i hcc
    rcases hc hcc with h1 | h1
    · rw [List.drop_of_length_le h1]; exact Sl.nil _
    · subst h1; simpa using h
  · rw [Nat.mul_one]; exact h.drop k
theorem Sl.cutB {a : Option Addr} {k : IntKind} {b : List Int} (h : Sl W0 H a (iv k b)) (l : Int) (c : Prop) [Decidable c] (hc : c → b.length ≤ l.toNat ∨ l.toNat = 0) : Sl W0 H (if c then a else a.map (·.add (l.toNat * 1))) (iv k (b.drop l.toNat)) := by
  have := h.cut l.toNat c (fun hcc => by have := hc hcc; simpa using this)
  simpa [iv, List.map_drop] using this
theorem Sl.takeB {a : Option Addr} {k : IntKind} {b : List Int} (h : Sl W0 H a (iv k b)) (m : Nat) : Sl W0 H a (iv k (b.take m)) := by
  have := h.take m
  simpa [iv, List.map_take] using this
/-- x[:h]. -/
theorem Sl.cutH {a : Option Addr} {k : IntKind} {b : List Int} (h : Sl W0 H a (iv k b)) (m : Nat) (c : Prop) [Decidable c] : Sl W0 H (if c then a else a.map (·.add ((0 : Int).toNat * 1))) (iv k (b.take m)) := by
  have e : (if c then a else a.map (·.add ((0 : Int).toNat * 1))) = a := by
    split
    · rfl
    · cases a <;> simp [Addr.add]
  rw [e]; exact h.takeB m
theorem Sl.ownT {b : Nat} {l : List Value} {T : TypeId} (hm : (b, cl l T) ∈ H) (k : Nat) : Sl W0 H (some ⟨b, 0, none⟩) (l.take k) := Sl.own hm (fun j x hj => by
  rw [List.getElem?_take] at hj
  split at hj
  · simpa using hj
  · cases hj)

/-- A list that is turned, place by place, into another one. -/
theorem upd_step {α : Type} (p q : List α) (d : α) (h : p.length = q.length) (i : Nat) (hi : i < p.length) : (p.take i ++ q.drop i).set i (p.getD i d) = p.take (i + 1) ++ q.drop (i + 1) := by
  rw [List.take_succ_eq_append_getElem hi, List.drop_eq_getElem_cons (show i < q.length by omega), List.set_append]
  have h1 : ¬ i < (p.take i).length := by simp; omega
  have h2 : i - (p.take i).length = 0 := by simp; omega
  rw [if_neg h1, h2, List.set_cons_zero, List.getD_eq_getElem?_getD, List.getElem?_eq_getElem hi]
  simp only [Option.getD_some, List.append_assoc, List.cons_append, List.nil_append]
theorem upd_get {α : Type} (p q : List α) (d : α) (h : p.length = q.length) (i : Nat) (hi : i < p.length) : (p.take i ++ q.drop i).getD i d = q.getD i d := by
  simp only [List.getD_eq_getElem?_getD]
  rw [List.getElem?_append_right (by simp; omega)]
  congr 1
  rw [List.getElem?_drop]
  congr 1
  simp; omega
theorem list8 {α : Type} (l : List α) (h : l.length = 8) : ∃ a b c d e f g i, l = [a, b, c, d, e, f, g, i] := by
  match l, h with
  | [a, b, c, d, e, f, g, i], _ => exact ⟨a, b, c, d, e, f, g, i, rfl⟩

/-- A whole variable that is a struct or an array. -/
theorem OpP.loadW {d ty pos aft gd} {t : TypeId} {x : Operand} {b k : Nat} {l : List Value} {T : TypeId} (hx : kop kn x = some (.pointer (some ⟨b, 0, none⟩))) (ht : tyI P t = some (true, k))
    (hm : (b, cl l T) ∈ H) (hl : l.length = k) : OpP P W0 n kn H ⟨d, .load t x, ty, pos, aft, gd⟩ (.agg ⟨l⟩) :=
  OpP.loadA hx ht hl (fun j v hj => Rd.own hm (by simpa using hj))
theorem RV.cellW {b t k g : Nat} {l : List Value} {T : TypeId} (h : kget kn b = some (.pointer (some ⟨g, 0, none⟩))) (ht : tyI P t = some (true, k)) (hm : (g, cl l T) ∈ H) (hl : l.length = k) :
    RV P W0 n kn H (.cell b t) (.agg ⟨l⟩) := by
  have := RV.cellB (P := P) (W0 := W0) (n := n) h ht hm (by rw [hl]; simp)
  have e : (l.drop 0).take k = l := by simp [← hl]
  rwa [e] at this

/-- The first cells of a block. -/
theorem OpP.loadPre {d ty pos aft gd} {t : TypeId} {x : Operand} {b k : Nat} {p q : List Value} {T : TypeId} (hx : kop kn x = some (.pointer (some ⟨b, 0, none⟩))) (ht : tyI P t = some (true, k))
    (hm : (b, cl (p ++ q) T) ∈ H) (hl : p.length = k) : OpP P W0 n kn H ⟨d, .load t x, ty, pos, aft, gd⟩ (.agg ⟨p⟩) :=
  OpP.loadA hx ht hl (fun j v hj => Rd.own hm (by
    have : j < p.length := by
      rcases Nat.lt_or_ge j p.length with h | h
      · exact h
      · rw [List.getElem?_eq_none h] at hj; cases hj
    rw [Nat.zero_add, List.getElem?_append_left this]; exact hj))
theorem spl_pre (p q vs : List Value) (h : vs.length = p.length) : spl (p ++ q) 0 vs = vs ++ q := by
  rw [spl_eq _ _ _ (by simp; omega)]
  simp [h]
/-- A cell behind the first ones. -/
theorem Rd.post {b k : Nat} {p q : List Value} {T : TypeId} {v : Value} (h : (b, cl (p ++ q) T) ∈ H) (hl : p.length = k) {j : Nat} (hv : q[j]? = some v) {o : Nat} (ho : o = k + j) : Rd W0 H ⟨b, o, none⟩ v := by
  refine Rd.own h ?_
  subst ho hl
  rw [List.getElem?_append_right (by omega)]
  simpa using hv
theorem spl_post (p q : List Value) (k j : Nat) (vs : List Value) (hl : p.length = k) (h : j + vs.length ≤ q.length) : spl (p ++ q) (k + j) vs = p ++ spl q j vs := by
  subst hl
  rw [spl_eq _ _ _ (by simp; omega), spl_eq _ _ _ h]
  simp [List.take_append, List.drop_append, Nat.add_assoc, List.take_of_length_le]

/-- An array literal of one-cell elements, all of them given. -/
def bldA (P : Program) (t : TypeId) : Option (Nat × Nat) := match P.underlying t, P.info? t with
  | some (.array m e), some i => match i.zero, P.info? e with
    | some z, some j => if j.size = 1 ∧ z.cells.size = m then some (m, 1) else none
    | _, _ => none
  | _, _ => none

theorem OpP.buildA {d ty pos aft gd} {t : TypeId} {parts : Array (Nat × Operand)} {m : Nat} {vs : List (Nat × Value)} {xs : List Value} (hb : bldA P t = some (m, 1)) (hp : kopsI kn parts.toList = some vs)
    (hx : vs.map Prod.snd = xs) (hi : vs.map Prod.fst = List.range' 0 m) (h1 : xs.all Value.oneCell' = true) : OpP P W0 n kn H ⟨d, .build t parts, ty, pos, aft, gd⟩ (.agg ⟨xs⟩) := fun a w hF hS => by
  have hpl := hF.evalsA hp
  have hlen : xs.length = m := by
    have h2 := congrArg List.length hi
    rw [← hx]; simpa using h2
  have hz : vs = (List.range' 0 xs.length).zip xs := by
    rw [hlen, ← hi, ← hx]
    clear hp hi hx hlen hpl
    induction vs with
    | nil => rfl
    | cons p vs ih => simp [← ih]
  unfold bldA at hb
  split at hb
  · rename_i m' e i hu hi'
    split at hb
    · rename_i z j hzz hj
      split at hb
      · rename_i hc
        simp only [Option.some.injEq, Prod.mk.injEq, and_true] at hb
        subst hb
        have hf := fill_one (fun i => some (i * 1, 1)) (fun i => by simp) xs 0 z.cells h1 (by omega)
        simp only [execOp]
        rw [hpl]
        have hf' : Instr.fill (fun i => some (i * 1, 1)) z.cells vs.toArray.toList = some ⟨xs⟩ := by rw [hz]; simpa using hf
        simp only [Instr.build, Sem.run_bind, zeroValue, typeInfo, run_program, Result.andThen_ok, hi', hzz, Sem.run_pure, underlying, hu, run_sizeOf_info hj, hc.1]
        rw [hf']
        simp
      · cases hb
    · cases hb
  · cases hb

/-- An element of an array that is a value. -/
theorem OpP.index {d ty pos aft gd} {t e : TypeId} {x y : Operand} {m sz : Nat} {k : IntKind} {j : Int} {cs : Array Value} {v : Value} (hx : kop kn x = some (.agg cs)) (hy : kop kn y = some (.int k j))
    (he : elI P t = some (some m, e, false, sz)) (h0 : 0 ≤ j) (h1 : j < m) (hv : cs[j.toNat * sz]? = some v) :
    OpP P W0 n kn H ⟨d, .index t x y, ty, pos, aft, gd⟩ v := fun act w hF hS => by
  obtain ⟨hu, he'⟩ := elI_array he
  simp [execOp, hF.eval hx, hF.eval hy, Instr.index, asIntOf, underlying, hu, h0, h1, part, run_isAgg_ty he', run_sizeOf_ty he', hv]

/-- A cut of an array behind a pointer. -/
theorem OpP.slice_array {d ty pos aft gd} {t e : TypeId} {x : Operand} {lo hi mx : Option Operand} {b o M sz : Nat} {g : Bool} {l h m : Int} (hx : kop kn x = some (.pointer (some ⟨b, o, none⟩))) (ht : elI P t = some (some M, e, g, sz))
    (hl : match lo with | some y => ∃ k, kop kn y = some (.int k l) | none => l = 0) (hm : match mx with | some y => ∃ k, kop kn y = some (.int k m) | none => m = M)
    (hh : match hi with | some y => ∃ k, kop kn y = some (.int k h) | none => h = M ∧ mx = none) (h0 : 0 ≤ l) (h1 : l ≤ h) (h2 : h ≤ m) (h3 : m ≤ M) :
    OpP P W0 n kn H ⟨d, .slice t x lo hi mx, ty, pos, aft, gd⟩ (.slice (some (if m = l then ⟨b, o, none⟩ else ⟨b, o + l.toNat * sz, none⟩)) (h - l).toNat (m - l).toNat) := fun act w hF hS => by
  obtain ⟨hu, he'⟩ := elI_array ht
  have es : ∀ (X Y : Addr), (if m.toNat = l.toNat then X else Y) = (if m = l then X else Y) := fun X Y => by
    by_cases hml : m = l
    · rw [if_pos (by omega), if_pos hml]
    · rw [if_neg (by omega), if_neg hml]
  have key : ∀ (vlo vhi vmx : Option Value), (vlo = none ∧ l = 0 ∨ ∃ k, vlo = some (.int k l)) → (vmx = none ∧ m = M ∨ ∃ k, vmx = some (.int k m)) → (vhi = none ∧ h = M ∧ vmx = none ∨ ∃ k, vhi = some (.int k h)) →
      (Instr.sliceBounds false M M vlo vhi vmx).run P w = .ok (l.toNat, h.toNat, m.toNat) w := by
    intro vlo vhi vmx hvl hvm hvh
    have bl : ∀ (k : IntKind) (i : Int) (y : Nat) (c : BoundsCode), 0 ≤ i → i ≤ y → (Instr.sliceBound (.int k i) y c).run P w = .ok i.toNat w := fun k i y c a b => run_sliceBound w k i y c a b
    rcases hvm with ⟨rfl, rfl⟩ | ⟨km, rfl⟩
    · rcases hvh with ⟨rfl, rfl, _⟩ | ⟨kh, rfl⟩
      · rcases hvl with ⟨rfl, rfl⟩ | ⟨kl, rfl⟩
        · simp [Instr.sliceBounds]
        · simp [Instr.sliceBounds, bl kl l M .sliceB h0 (by omega)]
      · rcases hvl with ⟨rfl, rfl⟩ | ⟨kl, rfl⟩
        · simp [Instr.sliceBounds, bl kh h M .sliceAlen (by omega) (by omega)]
        · simp [Instr.sliceBounds, bl kh h M .sliceAlen (by omega) (by omega), bl kl l h.toNat .sliceB h0 (by omega)]
    · rcases hvh with ⟨_, _, hc⟩ | ⟨kh, rfl⟩
      · cases hc
      · rcases hvl with ⟨rfl, rfl⟩ | ⟨kl, rfl⟩
        · simp [Instr.sliceBounds, bl km m M .slice3Alen (by omega) h3, bl kh h m.toNat .slice3B (by omega) (by omega)]
        · simp [Instr.sliceBounds, bl km m M .slice3Alen (by omega) h3, bl kh h m.toNat .slice3B (by omega) (by omega), bl kl l h.toNat .slice3C h0 (by omega)]
  have hlo : (lo.map act.eval = none ∧ l = 0 ∨ ∃ k, lo.map act.eval = some (.int k l)) := by
    cases lo with
    | none => exact .inl ⟨rfl, hl⟩
    | some y => obtain ⟨k, hk⟩ := hl; exact .inr ⟨k, by simp [hF.eval hk]⟩
  have hmx : (mx.map act.eval = none ∧ m = M ∨ ∃ k, mx.map act.eval = some (.int k m)) := by
    cases mx with
    | none => exact .inl ⟨rfl, hm⟩
    | some y => obtain ⟨k, hk⟩ := hm; exact .inr ⟨k, by simp [hF.eval hk]⟩
  have hhi : (hi.map act.eval = none ∧ h = M ∧ mx.map act.eval = none ∨ ∃ k, hi.map act.eval = some (.int k h)) := by
    cases hi with
    | none => exact .inl ⟨rfl, hh.1, by rw [hh.2]; rfl⟩
    | some y => obtain ⟨k, hk⟩ := hh; exact .inr ⟨k, by simp [hF.eval hk]⟩
  have hb := key _ _ _ hlo hmx hhi
  have eh : (h - l).toNat = h.toNat - l.toNat := by omega
  have em : (m - l).toNat = m.toNat - l.toNat := by omega
  simp only [execOp, hF.eval hx, Instr.sliceAt, Sem.run_bind, run_underlying hu, Result.andThen_ok, Instr.sureAddr, Sem.run_pure, hb, run_sizeOf_ty he', addr_add, es, eh, em]

/-- copy onto a block of the call's own, of one-cell elements. -/
theorem WL.copy {o : Oper} {rest : List Oper} {x y : Operand} {t t2 e : TypeId} {by_ b off i dn dc sn sc N : Nat} {a : Option Addr} {l news : List Value} {T : TypeId}
    (ho : o.op = .call ⟨.builtin .copy, #[x, y], #[t, t2]⟩) (hg : Wn n ops kn o true) (hd : dok n o.dst = true) (ht : slI P t = some (e, 1, by_))
    (hx : kop kn x = some (.slice (some ⟨b, off, none⟩) dn dc)) (hy : kop kn y = some (.slice a sn sc)) (hi : H[i]? = some (b, cl l T)) (hN : min sn dn = N) (hsl : Sl W0 H a news) (hl : news.length = N)
    (h1 : news.all Value.oneCell' = true) (hfit : off + N ≤ l.length)
    (k : WL P W0 n ops Q (kset kn o.dst (.int .i64 N)) (H.set i (b, cl (spl l off news) T)) rest) : WL P W0 n ops Q kn H (o :: rest) := by
  refine WL.x (R := fun v H' => v = .int .i64 N ∧ H' = H.set i (b, cl (spl l off news) T)) hg hd (fun act w hF hS => ?_) (fun v H' ⟨e1, e2⟩ => by subst e1 e2; exact k)
  obtain ⟨q, hq⟩ := run_builtin (P := P) ho act.eval w
  obtain ⟨inf, z, hu, hinf, hz, hsi, hbi, hzs⟩ := slI_spec ht
  have hb := (hS.own _ (List.mem_of_getElem? hi)).2
  have hst := run_storeCells_blk (P := P) news w b off 0 l T hb (by omega) h1
  simp only [Nat.add_zero] at hst
  have hmn : Nat.min sn dn = N := hN
  refine ⟨_, World.setBlk w b (cl (spl l off news) T), _, ?_, ⟨rfl, rfl⟩, hS.setBlk hi⟩
  rw [hq]
  have hfc : (Builtin.firstCells 1 N (.slice a sn sc)).run P w = .ok news.toArray w := by
    cases a with
    | none =>
      have := hsl.1 rfl
      subst this
      simp [Builtin.firstCells]
    | some p => exact run_firstCells_some (P := P) w 1 N p sn sc news (by omega) (fun j u hj => hsl.2.2 j u hj w hS)
  simp [builtin, hF.eval hx, hF.eval hy, Builtin.copy_, run_underlying hu, Builtin.lenOf, run_sizeOf_info hinf, hsi, hmn, hfc, hst, goInt]
end
end Go.Sx
