/- The rules of slices: indexes, lengths, cuts, appends, literals, makes; and of scopes. No conditions. -/
import Derived.Test.YtjdkohfgbekheaaSxOps
import Derived.Laws.AppendOwn
import Derived.Laws.MakeOwn
import Derived.Laws.Slices
import Derived.Scope
namespace Go.Sx
open Go Go.RowKit

/-- A slice type's element: its type, its cells, its bytes; its zero value has as many cells. -/
def slI (P : Program) (t : TypeId) : Option (TypeId × Nat × Nat) := match P.underlying t with
  | some (.slice e) => match P.info? e with
    | some i => match i.zero with
      | some z => if z.cells.size = i.size then some (e, i.size, i.bytes) else none
      | none => none
    | none => none
  | _ => none

theorem slI_spec {P : Program} {t e : TypeId} {sz by_ : Nat} (h : slI P t = some (e, sz, by_)) :
    ∃ i z, P.underlying t = some (.slice e) ∧ P.info? e = some i ∧ i.zero = some z ∧ i.size = sz ∧ i.bytes = by_ ∧ z.cells.size = sz := by
  unfold slI at h
  split at h
  · rename_i e' hu
    split at h
    · rename_i i hi
      split at h
      · rename_i z hz
        split at h
        · rename_i hs
          simp only [Option.some.injEq, Prod.mk.injEq] at h
          obtain ⟨rfl, rfl, rfl⟩ := h
          exact ⟨i, z, hu, hi, hz, rfl, rfl, hs⟩
        · cases h
      · cases h
    · cases h
  · cases h

theorem run_sizeOf_info {P : Program} {t : TypeId} {i : TypeInfo} (h : P.info? t = some i) (w : World) : (sizeOf t).run P w = .ok i.size w := by simp [sizeOf, typeInfo, h]

/-- The place of cell k of a slice. -/
def slAt (a : Option Addr) (k : Nat) : Addr := (a.getD ⟨0, 0, none⟩).add k

/-- The cells of a slice that reads so. -/
def Sl (W0 : World) (H : Hp) (a : Option Addr) (xs : List Value) : Prop :=
  (a = none → xs = []) ∧ (xs ≠ [] → ∀ p, a = some p → p.spot = none) ∧ ∀ j x, xs[j]? = some x → Rd W0 H (slAt a j) x

section
variable {P : Program} {W0 : World} {n : Nat} {kn : Kn} {H : Hp} {ops : Array Oper} {Q : Exit → Act → World → Prop}

theorem Sl.cons {a : Option Addr} {xs : List Value} {p : Nat × Obj} (h : Sl W0 H a xs) : Sl W0 (p :: H) a xs := ⟨h.1, h.2.1, fun j x hj => (h.2.2 j x hj).cons⟩
theorem Sl.of {a : Option Addr} {xs : List Value} {H' : Hp} (h : Sl W0 H a xs) (hh : ∀ w, St W0 w H' → St W0 w H) : Sl W0 H' a xs := ⟨h.1, h.2.1, fun j x hj => (h.2.2 j x hj).of hh⟩
theorem Sl.nil (a : Option Addr) : Sl W0 H a [] := ⟨fun _ => rfl, fun h => absurd rfl h, fun j x hj => by simp at hj⟩
theorem Sl.own {b o : Nat} {l xs : List Value} {T : TypeId} (hm : (b, cl l T) ∈ H) (hx : ∀ j x, xs[j]? = some x → l[o + j]? = some x) : Sl W0 H (some ⟨b, o, none⟩) xs :=
  ⟨(fun h => by cases h), (fun _ p hp => by cases hp; rfl), fun j x hj => by
    unfold slAt
    rw [Option.getD_some, addr_add]
    exact Rd.own hm (hx j x hj)⟩
theorem Sl.take {a : Option Addr} {xs : List Value} (h : Sl W0 H a xs) (k : Nat) : Sl W0 H a (xs.take k) :=
  ⟨fun e => by rw [h.1 e]; simp, fun hne => h.2.1 (fun e => hne (by rw [e]; simp)), fun j x hj => h.2.2 j x (by
    rw [List.getElem?_take] at hj
    split at hj
    · exact hj
    · cases hj)⟩
theorem slAt_add (a : Addr) (ha : a.spot = none) (k j : Nat) : slAt (some (a.add k)) j = slAt (some a) (k + j) := by
  obtain ⟨b, o, s⟩ := a
  simp only at ha; subst ha
  simp only [slAt, Option.getD_some, addr_add, Nat.add_assoc]
theorem Sl.drop {a : Option Addr} {xs : List Value} (h : Sl W0 H a xs) (k : Nat) : Sl W0 H (a.map (·.add k)) (xs.drop k) := by
  cases a with
  | none => rw [h.1 rfl]; exact ⟨fun _ => (by simp), fun _ p hp => (by cases hp), fun j x hj => (by simp at hj)⟩
  | some p =>
    by_cases h0 : xs.drop k = []
    · exact ⟨(fun h => by cases h), fun hne => absurd h0 hne, fun j x hj => by rw [h0] at hj; simp at hj⟩
    have hp := h.2.1 (fun e => h0 (by rw [e]; simp)) p rfl
    obtain ⟨b, o, s⟩ := p
    simp only at hp; subst hp
    refine ⟨(fun h => by cases h), (fun _ p hp => by simp only [Option.map_some, Option.some.injEq, addr_add] at hp; subst hp; rfl), fun j x hj => ?_⟩
    rw [List.getElem?_drop] at hj
    simp only [Option.map_some]
    rw [slAt_add _ rfl]
    exact h.2.2 (k + j) x hj

/-! ### Indexes -/
theorem elI_slice {t e : TypeId} {g : Bool} {sz : Nat} (h : elI P t = some (none, e, g, sz)) : P.underlying t = some (.slice e) ∧ tyI P e = some (g, sz) := by
  unfold elI at h
  split at h
  · split at h <;> simp at h
  · rename_i e' hu
    split at h
    · rename_i d i hd hi
      simp only [Option.some.injEq, Prod.mk.injEq] at h
      obtain ⟨_, rfl, h3, h4⟩ := h
      exact ⟨hu, by simp [tyI, hd, hi, h3, h4]⟩
    · cases h
  · cases h
theorem elI_array {t e : TypeId} {g : Bool} {m sz : Nat} (h : elI P t = some (some m, e, g, sz)) : P.underlying t = some (.array m e) ∧ tyI P e = some (g, sz) := by
  unfold elI at h
  split at h
  · rename_i m' e' hu
    split at h
    · rename_i d i hd hi
      simp only [Option.some.injEq, Prod.mk.injEq] at h
      obtain ⟨rfl, rfl, h3, h4⟩ := h
      exact ⟨hu, by simp [tyI, hd, hi, h3, h4]⟩
    · cases h
  · split at h <;> simp at h
  · cases h

theorem OpP.indexSl {d ty pos aft gd} {t e : TypeId} {x y : Operand} {a : Option Addr} {len cap sz : Nat} {g : Bool} {k : IntKind} {j : Int} (hx : kop kn x = some (.slice a len cap)) (hy : kop kn y = some (.int k j))
    (he : elI P t = some (none, e, g, sz)) (h0 : 0 ≤ j) (h1 : j < len) (ha : a ≠ none) :
    OpP P W0 n kn H ⟨d, .indexAddr t x y, ty, pos, aft, gd⟩ (.pointer (some (slAt a (j.toNat * sz)))) := fun act w hF hS => by
  obtain ⟨hu, he'⟩ := elI_slice he
  cases a with
  | none => exact absurd rfl ha
  | some p => simp [execOp, hF.eval hx, hF.eval hy, Instr.indexAt, asIntOf, underlying, hu, h0, h1, run_sizeOf_ty he', slAt]
theorem OpP.indexS {d ty pos aft gd} {t e : TypeId} {x y : Operand} {b o len cap sz : Nat} {g : Bool} {k : IntKind} {j : Int} (hx : kop kn x = some (.slice (some ⟨b, o, none⟩) len cap)) (hy : kop kn y = some (.int k j))
    (he : elI P t = some (none, e, g, sz)) (h0 : 0 ≤ j) (h1 : j < len) :
    OpP P W0 n kn H ⟨d, .indexAddr t x y, ty, pos, aft, gd⟩ (.pointer (some ⟨b, o + j.toNat * sz, none⟩)) := by
  have := OpP.indexSl (P := P) (W0 := W0) (n := n) (H := H) (d := d) (ty := ty) (pos := pos) (aft := aft) (gd := gd) hx hy he h0 h1 (by simp)
  simpa [slAt, addr_add] using this
theorem OpP.indexA {d ty pos aft gd} {t e : TypeId} {x y : Operand} {b o m sz : Nat} {g : Bool} {k : IntKind} {j : Int} (hx : kop kn x = some (.pointer (some ⟨b, o, none⟩))) (hy : kop kn y = some (.int k j))
    (he : elI P t = some (some m, e, g, sz)) (h0 : 0 ≤ j) (h1 : j < m) :
    OpP P W0 n kn H ⟨d, .indexAddr t x y, ty, pos, aft, gd⟩ (.pointer (some ⟨b, o + j.toNat * sz, none⟩)) := fun act w hF hS => by
  obtain ⟨hu, he'⟩ := elI_array he
  simp [execOp, hF.eval hx, hF.eval hy, Instr.indexAt, asIntOf, underlying, hu, h0, h1, run_sizeOf_ty he', Instr.sureAddr, addr_add]

/-! ### Lengths, the lesser, the greater -/
theorem OpP.lenSl {d ty pos aft gd} {x : Operand} {t e : TypeId} {a : Option Addr} {m c : Nat} (hx : kop kn x = some (.slice a m c)) (ht : P.underlying t = some (.slice e)) :
    OpP P W0 n kn H ⟨d, .call ⟨.builtin .len, #[x], #[t]⟩, ty, pos, aft, gd⟩ (.int .i64 m) := fun act w hF hS => by
  simp [execOp, resolve, invoke, builtin, Builtin.len_, underlying, ht, hF.eval hx, goInt]
theorem OpP.lenStr {d ty pos aft gd} {x : Operand} {t : TypeId} {s : ByteArray} (hx : kop kn x = some (.string s)) (ht : P.underlying t = some .string) :
    OpP P W0 n kn H ⟨d, .call ⟨.builtin .len, #[x], #[t]⟩, ty, pos, aft, gd⟩ (.int .i64 s.size) := fun act w hF hS => by
  simp [execOp, resolve, invoke, builtin, Builtin.len_, underlying, ht, hF.eval hx, goInt]
theorem OpP.min2 {d ty pos aft gd ts} {x y : Operand} {k k' : IntKind} {i j : Int} (hx : kop kn x = some (.int k i)) (hy : kop kn y = some (.int k' j)) :
    OpP P W0 n kn H ⟨d, .call ⟨.builtin .min, #[x, y], ts⟩, ty, pos, aft, gd⟩ (.int k (min i j)) := fun act w hF hS => by
  have : (if j < i then j else i) = min i j := by omega
  simp [execOp, resolve, invoke, builtin, Builtin.min_, Builtin.min2, hF.eval hx, hF.eval hy, this]
theorem OpP.max2 {d ty pos aft gd ts} {x y : Operand} {k k' : IntKind} {i j : Int} (hx : kop kn x = some (.int k i)) (hy : kop kn y = some (.int k' j)) :
    OpP P W0 n kn H ⟨d, .call ⟨.builtin .max, #[x, y], ts⟩, ty, pos, aft, gd⟩ (.int k (max i j)) := fun act w hF hS => by
  have : (if i < j then j else i) = max i j := by omega
  simp [execOp, resolve, invoke, builtin, Builtin.max_, Builtin.max2, hF.eval hx, hF.eval hy, this]
theorem OpP.neg {d ty pos aft g t} {x : Operand} {k : IntKind} {i : Int} (hx : kop kn x = some (.int k i)) : OpP P W0 n kn H ⟨d, .unOp .neg t x, ty, pos, aft, g⟩ (.int k (k.wrap (-i))) := fun a w hF _ => by
  simp [execOp, hF.eval hx, Op.unary, Op.intArith]
theorem OpP.convI {d ty pos aft g} {s t : TypeId} {x : Operand} {k : IntKind} {i : Int} (hx : kop kn x = some (.int k i)) (hs : P.underlying s = some (.int k)) (ht : P.underlying t = some (.int .i64)) (hb : -9223372036854775808 ≤ i ∧ i ≤ 9223372036854775807) :
    OpP P W0 n kn H ⟨d, .convert s t x, ty, pos, aft, g⟩ (.int .i64 i) := by
  have := OpP.conv (P := P) (W0 := W0) (n := n) (H := H) (d := d) (ty := ty) (pos := pos) (aft := aft) (g := g) hx hs ht
  rwa [IntWalk.i64_in _ hb] at this
/-- Unsigned numbers: the quotient as Lean has it. -/
theorem OpP.quoU {d ty pos aft g t t'} {x y : Operand} {k : IntKind} {i j : Int} (hx : kop kn x = some (.int k i)) (hy : kop kn y = some (.int k j)) (h0 : 0 < j) (hi : 0 ≤ i) (hk : i < 2 ^ k.bits) (hs : k.signed = false) :
    OpP P W0 n kn H ⟨d, .binOp .quo t x y t', ty, pos, aft, g⟩ (.int k (i / j)) := by
  have := OpP.quo (P := P) (W0 := W0) (n := n) (H := H) (d := d) (ty := ty) (pos := pos) (aft := aft) (g := g) (t := t) (t' := t') hx hy (by omega)
  rw [Int.tdiv_eq_ediv_of_nonneg hi] at this
  have h1 : 0 ≤ i / j := Int.ediv_nonneg hi (by omega)
  have h2 : i / j ≤ i := Int.ediv_le_self j hi
  have e : k.wrap (i / j) = i / j := by
    simp only [IntKind.wrap, hs, Bool.false_and, Bool.false_eq_true, if_false]
    exact Int.emod_eq_of_lt h1 (by omega)
  rwa [e] at this

/-! ### Cuts -/
theorem elem_of {t e : TypeId} (h : P.underlying t = some (.slice e)) : P.underlying t = some (.slice (P.elem t)) ∧ P.elem t = e := by
  have : P.elem t = e := by simp [Program.elem, h]
  rw [this]; exact ⟨h, rfl⟩

/-- x[l:h], x[l:], x[:h], x[:], x[l:h:m]. -/
theorem OpP.slice {d ty pos aft gd} {t e : TypeId} {x : Operand} {lo hi mx : Option Operand} {a : Option Addr} {len cap sz by_ : Nat} {l h m : Int} (hx : kop kn x = some (.slice a len cap)) (ht : slI P t = some (e, sz, by_))
    (hl : match lo with | some y => ∃ k, kop kn y = some (.int k l) | none => l = 0) (hm : match mx with | some y => ∃ k, kop kn y = some (.int k m) | none => m = cap)
    (hh : match hi with | some y => ∃ k, kop kn y = some (.int k h) | none => h = len ∧ mx = none) (h0 : 0 ≤ l) (h1 : l ≤ h) (h2 : h ≤ m) (h3 : m ≤ cap) :
    OpP P W0 n kn H ⟨d, .slice t x lo hi mx, ty, pos, aft, gd⟩ (.slice (if m = l then a else a.map (·.add (l.toNat * sz))) (h - l).toNat (m - l).toNat) := fun act w hF hS => by
  obtain ⟨i, z, hu, hi', hz, hsz, _, _⟩ := slI_spec ht
  obtain ⟨hu', he⟩ := elem_of hu
  have hs : (sizeOf e).run P w = .ok sz w := by rw [run_sizeOf_info hi', hsz]
  have eif : (m.toNat = l.toNat) ↔ (m = l) := by omega
  have es : ∀ (X Y : Option Addr), (if m.toNat = l.toNat then X else Y) = (if m = l then X else Y) := fun X Y => by
    by_cases hml : m = l
    · rw [if_pos (eif.2 hml), if_pos hml]
    · rw [if_neg (fun h => hml (eif.1 h)), if_neg hml]
  have key : ∀ (vlo vhi vmx : Option Value), (vlo = none ∧ l = 0 ∨ ∃ k, vlo = some (.int k l)) → (vmx = none ∧ m = cap ∨ ∃ k, vmx = some (.int k m)) → (vhi = none ∧ h = len ∧ vmx = none ∨ ∃ k, vhi = some (.int k h)) →
      (Instr.slice t (.slice a len cap) vlo vhi vmx).run P w = .ok (.slice (if m = l then a else a.map (·.add (l.toNat * sz))) (h - l).toNat (m - l).toNat) w := by
    intro vlo vhi vmx hvl hvm hvh
    have eh : (h - l).toNat = h.toNat - l.toNat := by omega
    have em : (m - l).toNat = m.toNat - l.toNat := by omega
    have bl : ∀ (k : IntKind) (i : Int) (y : Nat) (c : BoundsCode), 0 ≤ i → i ≤ y → (Instr.sliceBound (.int k i) y c).run P w = .ok i.toNat w := fun k i y c a b => run_sliceBound w k i y c a b
    have nh : (h.toNat : Int) = h := Int.toNat_of_nonneg (by omega)
    have nm : (m.toNat : Int) = m := Int.toNat_of_nonneg (by omega)
    have hb : (Instr.sliceBounds true len cap vlo vhi vmx).run P w = .ok (l.toNat, h.toNat, m.toNat) w := by
      rcases hvm with ⟨rfl, rfl⟩ | ⟨km, rfl⟩
      · rcases hvh with ⟨rfl, rfl, _⟩ | ⟨kh, rfl⟩
        · rcases hvl with ⟨rfl, rfl⟩ | ⟨kl, rfl⟩
          · simp [Instr.sliceBounds]
          · simp [Instr.sliceBounds, bl kl l len .sliceB h0 (by omega)]
        · rcases hvl with ⟨rfl, rfl⟩ | ⟨kl, rfl⟩
          · simp [Instr.sliceBounds, bl kh h cap .sliceAcap (by omega) (by omega)]
          · simp [Instr.sliceBounds, bl kh h cap .sliceAcap (by omega) (by omega), bl kl l h.toNat .sliceB h0 (by omega)]
      · rcases hvh with ⟨_, _, hc⟩ | ⟨kh, rfl⟩
        · cases hc
        · rcases hvl with ⟨rfl, rfl⟩ | ⟨kl, rfl⟩
          · simp [Instr.sliceBounds, bl km m cap .slice3Acap (by omega) h3, bl kh h m.toNat .slice3B (by omega) (by omega)]
          · simp [Instr.sliceBounds, bl km m cap .slice3Acap (by omega) h3, bl kh h m.toNat .slice3B (by omega) (by omega), bl kl l h.toNat .slice3C h0 (by omega)]
    rw [run_slice_any w t a len cap hu', hb]
    simp only [Result.andThen_ok, he, hs, sliced, es, eh, em]
  have hlo : (lo.map act.eval = none ∧ l = 0 ∨ ∃ k, lo.map act.eval = some (.int k l)) := by
    cases lo with
    | none => exact .inl ⟨rfl, hl⟩
    | some y => obtain ⟨k, hk⟩ := hl; exact .inr ⟨k, by simp [hF.eval hk]⟩
  have hmx : (mx.map act.eval = none ∧ m = cap ∨ ∃ k, mx.map act.eval = some (.int k m)) := by
    cases mx with
    | none => exact .inl ⟨rfl, hm⟩
    | some y => obtain ⟨k, hk⟩ := hm; exact .inr ⟨k, by simp [hF.eval hk]⟩
  have hhi : (hi.map act.eval = none ∧ h = len ∧ mx.map act.eval = none ∨ ∃ k, hi.map act.eval = some (.int k h)) := by
    cases hi with
    | none => exact .inl ⟨rfl, hh.1, by rw [hh.2]; rfl⟩
    | some y => obtain ⟨k, hk⟩ := hh; exact .inr ⟨k, by simp [hF.eval hk]⟩
  have := key _ _ _ hlo hmx hhi
  simp [execOp, hF.eval hx, run_sliceAt_slice w t _ _ _ _ hu', this]

/-! ### Appends onto a slice of the call's own -/
/-- A slice of n elements of sz cells each that the call owns: nil, or the first cells of a block. -/
def OwnS (T : TypeId) (sz : Nat) (v : Value) (n : Nat) (cs : List Value) (seg : Hp) : Prop :=
  cs.length = n * sz ∧ ((v = .slice none 0 0 ∧ n = 0 ∧ seg = []) ∨
  ∃ b l cap, v = .slice (some ⟨b, 0, none⟩) n cap ∧ seg = [(b, cl l T)] ∧ l.length = cap * sz ∧ n ≤ cap ∧ cap ≤ maxLen ∧ l.take (n * sz) = cs)

theorem OwnS.nil (T : TypeId) (sz : Nat) : OwnS T sz (.slice none 0 0) 0 [] [] := ⟨by simp, .inl ⟨rfl, rfl, rfl⟩⟩
theorem OwnS.empty (T : TypeId) (sz b : Nat) : OwnS T sz (.slice (some ⟨b, 0, none⟩) 0 0) 0 [] [(b, cl [] T)] := ⟨by simp, .inr ⟨b, [], 0, rfl, rfl, by simp, by omega, by simp [maxLen], by simp⟩⟩
/-- Its value, and what it reads as. -/
theorem OwnS.val {T : TypeId} {sz m : Nat} {v : Value} {cs : List Value} {seg : Hp} (h : OwnS T sz v m cs seg) : ∃ a cap, v = .slice a m cap ∧ m ≤ cap ∧ cap ≤ maxLen ∧ ∀ W0 R, Sl W0 (seg ++ R) a cs := by
  obtain ⟨h1, ⟨rfl, rfl, rfl⟩ | ⟨b, l, cap, rfl, rfl, h2, h3, h4, h5⟩⟩ := h
  · have : cs = [] := List.eq_nil_of_length_eq_zero (by simpa using h1)
    subst this
    exact ⟨none, 0, rfl, Nat.le_refl _, by simp [maxLen], fun W0 R => Sl.nil _⟩
  · refine ⟨_, cap, rfl, h3, h4, fun W0 R => Sl.own (List.mem_cons_self) (fun j x hj => ?_)⟩
    rw [← h5, List.getElem?_take] at hj
    split at hj
    · simpa using hj
    · cases hj

theorem run_builtin {o : Oper} {b : Builtin} {xs : Array Operand} {ts : Array TypeId} (ho : o.op = .call ⟨.builtin b, xs, ts⟩) (ρ : Operand → Value) (w : World) :
    ∃ cs, (execOp ρ o).run P w = (builtin b ts o.type cs (xs.map ρ)).run P w := by
  exact ⟨_, by
    simp only [execOp, ho, resolve]
    simp [invoke]
    rfl⟩

theorem WL.append {o : Oper} {rest : List Oper} {x y : Operand} {t e : TypeId} {sz by_ m k c : Nat} {v : Value} {a : Option Addr} {cs news : List Value} {seg R : Hp}
    (ho : o.op = .call ⟨.builtin .append, #[x, y], #[t, t]⟩) (hg : Wn n ops kn o true) (hd : dok n o.dst = true) (ht : slI P t = some (e, sz, by_))
    (hx : kop kn x = some v) (hy : kop kn y = some (.slice a k c)) (hown : OwnS e sz v m cs seg) (hsl : Sl W0 (seg ++ R) a news) (hl : news.length = k * sz) (h1 : ∀ u ∈ news, u.oneCell' = true) (hsz : 0 < sz)
    (h63 : m + k ≤ maxLen) (hby : (m + k) * by_ ≤ 140737488355328)
    (kk : ∀ v' seg', OwnS e sz v' (m + k) (cs ++ news) seg' → (v' = .slice none 0 0 → m + k = 0) → WL P W0 n ops Q (kset kn o.dst v') (seg' ++ R) rest) : WL P W0 n ops Q kn (seg ++ R) (o :: rest) := by
  refine WL.x (R := fun v' H' => ∃ seg', H' = seg' ++ R ∧ OwnS e sz v' (m + k) (cs ++ news) seg' ∧ (v' = .slice none 0 0 → m + k = 0)) hg hd (fun act w hF hS => ?_) (fun v' H' ⟨seg', e1, e2, e3⟩ => by subst e1; exact kk v' seg' e2 e3)
  obtain ⟨i, z, hu, hi, hz, hsi, hbi, hzs⟩ := slI_spec ht
  subst hsi hbi
  have hrun : (execOp act.eval o).run P w = ((Builtin.append_ #[t, t] o.type #[v, .slice a k c]).run P w).andThen fun v w' => .ok (.value v) w' := by
    obtain ⟨q, hq⟩ := run_builtin (P := P) ho act.eval w
    rw [hq]
    simp [builtin, hF.eval hx, hF.eval hy]
  have hsmall : m + k ≤ 9223372036854775807 := by simp only [maxLen] at h63; omega
  have hlen : (cs ++ news).length = (m + k) * i.size := by rw [List.length_append, hown.1, hl, Nat.add_mul]
  have grown : ∀ (old : Nat) (R' : Hp), St W0 w R' → old < m + k → ∃ b l cap, St W0 (w.drew.alloc (.cells (cs.toArray ++ news.toArray ++ Builtin.zeroCells z.cells (grownCap w (m + k) old e - (m + k))) e)) ((b, cl l e) :: R') ∧
      (Value.slice (some ⟨w.heap.size, 0, none⟩) (m + k) (grownCap w (m + k) old e)) = .slice (some ⟨b, 0, none⟩) (m + k) cap ∧ l.length = cap * i.size ∧ m + k ≤ cap ∧ cap ≤ maxLen ∧ l.take ((m + k) * i.size) = cs ++ news := by
    intro old R' hR ho'
    have hge := grownCap_ge w (m + k) old e
    have hcm : grownCap w (m + k) old e ≤ maxLen := grownCap_le_maxLen w (m + k) old e h63
    refine ⟨w.heap.size, (cs.toArray ++ news.toArray ++ Builtin.zeroCells z.cells (grownCap w (m + k) old e - (m + k))).toList, grownCap w (m + k) old e, ?_, rfl, ?_, hge, hcm, ?_⟩
    · exact hR.drew.alloc _
    · simp only [Array.length_toList, Array.size_append, List.size_toArray, size_zeroCells, hzs, hown.1, hl, ← Nat.add_mul]
      congr 1
      omega
    · simp only [Array.toList_append, List.append_assoc]
      rw [← List.append_assoc, ← hlen]
      exact List.take_left
  have hsrc : k ≠ 0 → ∃ p, a = some p ∧ ∀ j u, news[j]? = some u → w.cell? (p.add j) = some u := by
    intro hk
    cases a with
    | none =>
      have := hsl.1 rfl
      subst this
      simp only [List.length_nil] at hl
      have : k * i.size ≠ 0 := Nat.mul_ne_zero hk (by omega)
      omega
    | some p => exact ⟨p, rfl, fun j u hj => hsl.2.2 j u hj w hS⟩
  obtain ⟨hcl, ⟨rfl, rfl, rfl⟩ | ⟨b, l, cap, rfl, rfl, h2, h3, h4, h5⟩⟩ := hown
  · have hcs : cs = [] := List.eq_nil_of_length_eq_zero (by simpa using hcl)
    subst hcs
    by_cases hk : k = 0
    · subst hk
      have hn : news = [] := List.eq_nil_of_length_eq_zero (by simpa using hl)
      subst hn
      refine ⟨.slice none 0 0, w, [] ++ R, ?_, ⟨[], rfl, OwnS.nil _ _, fun _ => rfl⟩, hS⟩
      rw [hrun]
      cases a <;> simp [Builtin.append_, run_underlying hu, sizeOf, typeInfo, hi, Builtin.lenOf, Builtin.firstCells, loadCells, loadCellsFrom]
    · obtain ⟨p, rfl, hs2⟩ := hsrc hk
      have hr := run_append_nil (P := P) w t o.type e i z hu hi hz p k c news hl hs2 (by omega) (by omega) (by simp only [Nat.zero_add] at hby; omega)
      obtain ⟨b, l, cap, g1, g2, g3, g4, g5, g6⟩ := grown 0 R hS (by omega)
      simp only [Nat.zero_add, List.nil_append, Array.empty_append] at g1 g2 g3 g4 g6 hlen ⊢
      refine ⟨_, _, (b, cl l e) :: R, by rw [hrun, hr]; rfl, ⟨[(b, cl l e)], rfl, ⟨hlen, .inr ⟨b, l, cap, g2, rfl, g3, g4, g5, g6⟩⟩, fun h => by cases h⟩, g1⟩
  · have hb := (hS.own (b, cl l e) List.mem_cons_self).2
    by_cases hroom : m + k ≤ cap
    · by_cases hk : k = 0
      · subst hk
        have hn : news = [] := List.eq_nil_of_length_eq_zero (by simpa using hl)
        subst hn
        refine ⟨.slice (some ⟨b, 0, none⟩) m cap, w, [(b, cl l e)] ++ R, ?_, ⟨[(b, cl l e)], rfl, ⟨by simpa using hlen, .inr ⟨b, l, cap, rfl, rfl, h2, h3, h4, by simpa using h5⟩⟩, fun h => by cases h⟩, hS⟩
        rw [hrun]
        cases a <;> simp [Builtin.append_, run_underlying hu, sizeOf, typeInfo, hi, Builtin.lenOf, Builtin.firstCells, loadCells, loadCellsFrom, h3, storeCells]
      · obtain ⟨p, rfl, hs2⟩ := hsrc hk
        have hfit : m * i.size + news.length ≤ l.length := by rw [hl, h2, ← Nat.add_mul]; exact Nat.mul_le_mul_right _ hroom
        have hf := run_firstCells_some (P := P) w i.size k p k c news hl hs2
        have hst := run_storeCells_blk (P := P) news w b (m * i.size) 0 l e hb (by omega) (by simpa [List.all_eq_true] using h1)
        simp only [Nat.add_zero] at hst
        have hr : (Builtin.append_ #[t, t] o.type #[.slice (some ⟨b, 0, none⟩) m cap, .slice (some p) k c]).run P w = .ok (.slice (some ⟨b, 0, none⟩) (m + k) cap) (World.setBlk w b (cl (spl l (m * i.size) news) e)) := by
          simp [Builtin.append_, run_underlying hu, sizeOf, typeInfo, hi, Builtin.lenOf, hroom, hf, addr_add, hst]
        refine ⟨_, _, _, by rw [hrun, hr]; rfl, ⟨[(b, cl (spl l (m * i.size) news) e)], rfl, ⟨hlen, .inr ⟨b, _, cap, rfl, rfl, by rw [spl_length]; exact h2, hroom, h4, ?_⟩⟩, fun h => by cases h⟩, hS.setBlk (i := 0) rfl⟩
        rw [spl_eq _ _ _ hfit, h5, ← hlen]
        exact List.take_left
    · have holds : ∀ j u, cs[j]? = some u → w.cell? ((⟨b, 0, none⟩ : Addr).add j) = some u := fun j u hj => by
        rw [addr_add]
        refine Rd.own (W0 := W0) (H := (b, cl l e) :: R) List.mem_cons_self ?_ w hS
        rw [← h5, List.getElem?_take] at hj
        split at hj
        · simpa using hj
        · cases hj
      have hk : k ≠ 0 := by omega
      obtain ⟨p, rfl, hs2⟩ := hsrc hk
      have hr := run_append_grow (P := P) w t o.type e i z hu hi hz ⟨b, 0, none⟩ m cap cs hcl holds p k c news hl hs2 (by omega) (by omega) (growslice_fits (by omega) hby)
      obtain ⟨b', l', cap', g1, g2, g3, g4, g5, g6⟩ := grown cap R hS.drop (by omega)
      exact ⟨_, _, (b', cl l' e) :: R, by rw [hrun, hr]; rfl, ⟨[(b', cl l' e)], rfl, ⟨hlen, .inr ⟨b', l', cap', g2, rfl, g3, g4, g5, g6⟩⟩, fun h => by cases h⟩, g1⟩

/-! ### Slice literals, makes -/
def kopsI (kn : Kn) : List (Nat × Operand) → Option (List (Nat × Value))
  | [] => some []
  | (i, x) :: r => match kop kn x, kopsI kn r with
    | some v, some vs => some ((i, v) :: vs)
    | _, _ => none

theorem kI0 : kopsI kn [] = some [] := rfl
theorem kI {i : Nat} {x : Operand} {v : Value} {r : List (Nat × Operand)} {vs : List (Nat × Value)} (h : kop kn x = some v) (h2 : kopsI kn r = some vs) : kopsI kn ((i, x) :: r) = some ((i, v) :: vs) := by simp [kopsI, h, h2]
theorem Fr.evalsI {a : Act} (h : Fr a n kn) : ∀ {xs : List (Nat × Operand)} {vs : List (Nat × Value)}, kopsI kn xs = some vs → xs.map (fun p => (p.1, a.eval p.2)) = vs
  | [], vs, he => by simp [kopsI] at he; simp [he]
  | (i, x) :: r, vs, he => by
    simp only [kopsI] at he
    split at he
    · rename_i v us hv hus
      simp only [Option.some.injEq] at he
      subst he
      simp [h.eval hv, Fr.evalsI h hus]
    · simp at he

theorem Fr.evalsA {a : Act} (h : Fr a n kn) {xs : Array (Nat × Operand)} {vs : List (Nat × Value)} (he : kopsI kn xs.toList = some vs) : (xs.map fun (i, x) => (i, a.eval x)) = vs.toArray := by
  apply Array.ext'
  simpa using h.evalsI he

theorem WL.buildSlice {d ty pos aft} {t e : TypeId} {len sz by_ : Nat} {parts : Array (Nat × Operand)} {vs : List (Nat × Value)} {l : List Value} {rest : List Oper} (ht : slI P t = some (e, sz, by_)) (hd : dok n d = true)
    (hp : kopsI kn parts.toList = some vs) (hsm : len * sz ≤ 2 ^ 24)
    (hf : ∀ z : Array Value, z.size = sz → Instr.fill (fun i => some (i * sz, sz)) ((Array.range (len * sz)).map (z[· % z.size]!)) vs = some ⟨l⟩)
    (k : ∀ b, WL P W0 n ops Q (kset kn d (.slice (some ⟨b, 0, none⟩) len len)) ((b, cl l e) :: H) rest) : WL P W0 n ops Q kn H (⟨d, .buildSlice t len parts, ty, pos, aft, none⟩ :: rest) := by
  refine WL.x (R := fun v H' => ∃ b, v = .slice (some ⟨b, 0, none⟩) len len ∧ H' = (b, cl l e) :: H) (.none rfl) hd (fun a w hF hS => ?_) (fun v H' ⟨b, e1, e2⟩ => by subst e1 e2; exact k b)
  obtain ⟨i, z, hu, hi, hz, hsi, hbi, hzs⟩ := slI_spec ht
  have hpl := hF.evalsA hp
  refine ⟨_, _, _, ?_, ⟨w.heap.size, rfl, rfl⟩, hS.alloc _⟩
  have hsm' : ¬ (len * i.size > 2 ^ 24) := by rw [hsi]; omega
  have hff := hf z.cells hzs
  subst hsi
  by_cases h0 : len * i.size = 0
  · have hr0 : Array.range (len * i.size) = #[] := by rw [h0]; rfl
    have hff0 := hf z.cells hzs
    rw [hr0] at hff0
    simp only [Array.map_empty] at hff0
    have hr1 : Array.range 0 = #[] := rfl
    simp only [execOp]
    rw [hpl]
    simp [Instr.buildSlice, run_underlying hu, run_sizeOf_info hi, h0, hr1, hff0, newRow]
  · simp only [execOp]
    rw [hpl]
    have hff' : Instr.fill (fun i_1 => some (i_1 * i.size, i.size)) ((Array.range (len * i.size)).map (z.cells[· % z.cells.size]!)) vs.toArray.toList = some ⟨l⟩ := by simpa using hff
    simp only [Instr.buildSlice, Sem.run_bind, run_underlying hu, Result.andThen_ok, run_sizeOf_info hi, if_neg hsm', if_neg h0, Sem.run_pure, zeroValue, typeInfo, run_program, hi, hz]
    rw [hff']
    simp [newRow]

theorem fill_one (pl : Nat → Option (Nat × Nat)) (hpl : ∀ i, pl i = some (i, 1)) : ∀ (xs : List Value) (k : Nat) (cs : Array Value), xs.all Value.oneCell' = true → k + xs.length = cs.size →
    Instr.fill pl cs ((List.range' k xs.length).zip xs) = some ⟨cs.toList.take k ++ xs⟩
  | [], k, cs, _, h => by
    simp only [List.length_nil, Nat.add_zero] at h
    simp only [List.length_nil, List.range'_zero, List.zip_nil_left, Instr.fill, List.append_nil, Option.some.injEq]
    apply Array.ext'
    simp [h, List.take_of_length_le]
  | x :: xs, k, cs, h1, h => by
    simp only [List.length_cons] at h
    simp only [List.all_cons, Bool.and_eq_true] at h1
    have hx : x.cells = #[x] := by cases x <;> first | rfl | simp [Value.oneCell'] at h1
    have ih := fill_one pl hpl xs (k + 1) (cs.setIfInBounds k x) h1.2 (by simp; omega)
    simp only [List.length_cons, List.range'_succ, List.zip_cons_cons, Instr.fill, hx, hpl]
    have hc : ¬ (k + 1 > cs.size) := by omega
    simp only [List.size_toArray, List.length_cons, List.length_nil, ne_eq, Nat.zero_add, not_true_eq_false, decide_false, Bool.false_or, hc]
    have e : (#[x].zipIdx.foldl (fun cs (p : Value × Nat) => cs.setIfInBounds (k + p.2) p.1) cs) = cs.setIfInBounds k x := by simp [Array.zipIdx]
    have e2 : (fun (cs : Array Value) (p : Value × Nat) => cs.setIfInBounds (k + p.2) p.1) = (fun (cs : Array Value) (x : Value × Nat) => match x with | (c, j) => cs.setIfInBounds (k + j) c) := rfl
    rw [e2] at e
    rw [e, ih]
    simp only [Bool.false_eq_true, if_false, Option.some.injEq]
    apply Array.ext'
    simp only [Array.toList_setIfInBounds]
    rw [List.take_set, List.take_succ_eq_append_getElem (by simp; omega), List.set_append]
    have : ¬ k < (cs.toList.take k).length := by simp; omega
    simp only [this, if_false, List.length_take, Array.length_toList]
    rw [show min k cs.size = k from by omega]
    simp

/-- A literal of one-cell elements, all of them given. -/
theorem WL.buildSlice1 {d ty pos aft} {t e : TypeId} {len by_ : Nat} {parts : Array (Nat × Operand)} {vs : List (Nat × Value)} {xs : List Value} {rest : List Oper} (ht : slI P t = some (e, 1, by_)) (hd : dok n d = true)
    (hp : kopsI kn parts.toList = some vs) (hsm : len * 1 ≤ 2 ^ 24) (hx : vs.map Prod.snd = xs) (hi : vs.map Prod.fst = List.range' 0 len) (h1 : xs.all Value.oneCell' = true)
    (k : ∀ b, WL P W0 n ops Q (kset kn d (.slice (some ⟨b, 0, none⟩) len len)) ((b, cl xs e) :: H) rest) : WL P W0 n ops Q kn H (⟨d, .buildSlice t len parts, ty, pos, aft, none⟩ :: rest) := by
  have hlen : xs.length = len := by
    have h2 := congrArg List.length hi
    rw [← hx]; simpa using h2
  have hz : vs = (List.range' 0 xs.length).zip xs := by
    rw [hlen, ← hi, ← hx]
    clear hp hi hx hlen k
    induction vs with
    | nil => rfl
    | cons p vs ih => simp [← ih]
  refine WL.buildSlice ht hd hp hsm (fun z hzz => ?_) k
  rw [hz]
  have := fill_one (fun i => some (i * 1, 1)) (fun i => by simp) xs 0 ((Array.range (len * 1)).map (z[· % z.size]!)) h1 (by simp; omega)
  simpa using this

/-- Where the fields of a struct lie, and the struct's zero cells. -/
def bldS (P : Program) (t : TypeId) : Option (List (Nat × Nat) × List Value) := match P.underlying t, zI P t with
  | some (.struct fs), some z => if fs.toList.all (fun f => (P.info? f.type).isSome) then some (fs.toList.map fun f => (f.offset, P.cellsOf f.type), z) else none
  | _, _ => none

theorem run_places : ∀ (fs : List Field), (fs.all fun f => (P.info? f.type).isSome) = true → ∀ w, (fs.mapM fun f => (do pure (f.offset, ← sizeOf f.type) : Sem (Nat × Nat))).run P w = .ok (fs.map fun f => (f.offset, P.cellsOf f.type)) w
  | [], _, w => by simp
  | f :: fs, h, w => by
    simp only [List.all_cons, Bool.and_eq_true] at h
    obtain ⟨i, hi⟩ := Option.isSome_iff_exists.1 h.1
    have ih := run_places fs h.2 w
    simp only [List.mapM_cons]
    simp [run_sizeOf_info hi, Program.cellsOf, hi]
    simp at ih
    simp [ih, Program.cellsOf]

theorem OpP.buildS {d ty pos aft gd} {t : TypeId} {parts : Array (Nat × Operand)} {pl : List (Nat × Nat)} {z l : List Value} {vs : List (Nat × Value)} (hb : bldS P t = some (pl, z)) (hp : kopsI kn parts.toList = some vs)
    (hf : Instr.fill (fun i => pl[i]?) ⟨z⟩ vs = some ⟨l⟩) : OpP P W0 n kn H ⟨d, .build t parts, ty, pos, aft, gd⟩ (.agg ⟨l⟩) := fun a w hF hS => by
  have hpl := hF.evalsA hp
  unfold bldS at hb
  split at hb
  · rename_i fs z' hu hz
    split at hb
    · rename_i hall
      simp only [Option.some.injEq, Prod.mk.injEq] at hb
      obtain ⟨rfl, rfl⟩ := hb
      unfold zI at hz
      cases hi : P.info? t with
      | none => simp [hi] at hz
      | some i =>
        simp only [hi, Option.bind_some, Option.map_eq_some_iff] at hz
        obtain ⟨zv, hz1, hz2⟩ := hz
        have e : zv.cells = ⟨z'⟩ := by rw [← hz2]
        have hrp := run_places (P := P) fs.toList hall w
        have hrp' : (fs.mapM fun f => (do pure (f.offset, ← sizeOf f.type) : Sem (Nat × Nat))).run P w = .ok (fs.toList.map fun f => (f.offset, P.cellsOf f.type)).toArray w := by
          rw [← Array.toArray_toList (xs := fs), List.mapM_toArray]
          simp only [Sem.run_map, hrp, Result.andThen_ok]
        simp only [execOp]
        rw [hpl]
        have hf' : Instr.fill (fun x => (fs.toList.map fun f => (f.offset, P.cellsOf f.type)).toArray[x]?) ⟨z'⟩ vs.toArray.toList = some ⟨l⟩ := by
          rw [← hf]; simp
        simp only [Instr.build, Sem.run_bind, zeroValue, typeInfo, run_program, Result.andThen_ok, hi, hz1, Sem.run_pure, underlying, hu, hrp', e]
        rw [hf']
        simp
    · cases hb
  · cases hb

/-- A made slice of one-cell elements. -/
theorem WL.makeSlice {d ty pos aft} {t e : TypeId} {x y : Operand} {by_ m : Nat} {k k' : IntKind} {z : Value} {rest : List Oper} (ht : slI P t = some (e, 1, by_)) (hze : zI P e = some [z]) (hd : dok n d = true)
    (hx : kop kn x = some (.int k m)) (hy : kop kn y = some (.int k' m)) (hb : by_ * m ≤ 281474976710656) (h63 : m ≤ 9223372036854775807)
    (kk : ∀ b, WL P W0 n ops Q (kset kn d (.slice (some ⟨b, 0, none⟩) m m)) ((b, cl (List.replicate m z) e) :: H) rest) : WL P W0 n ops Q kn H (⟨d, .makeSlice t x y, ty, pos, aft, none⟩ :: rest) := by
  refine WL.x (R := fun v H' => ∃ b, v = .slice (some ⟨b, 0, none⟩) m m ∧ H' = (b, cl (List.replicate m z) e) :: H) (.none rfl) hd (fun a w hF hS => ?_) (fun v H' ⟨b, e1, e2⟩ => by subst e1 e2; exact kk b)
  obtain ⟨i, zv, hu, hi, hz, hsi, hbi, hzs⟩ := slI_spec ht
  have hzc : zv.cells = ⟨[z]⟩ := by
    unfold zI at hze
    simp only [hi, hz, Option.bind_some, Option.map_some, Option.some.injEq] at hze
    rw [← hze]
  have hr := run_make (P := P) w t e i zv hu hi hz k k' m m (by omega) (Int.le_refl _) (by rw [hbi]; omega) (by omega)
  refine ⟨_, _, _, ?_, ⟨w.heap.size, rfl, rfl⟩, hS.alloc _⟩
  have hm : madeCells zv.cells (m * i.size) = ⟨List.replicate m z⟩ := by
    rw [hsi, hzc, Nat.mul_one]
    apply Array.ext'
    simp only [madeCells, Array.toList_map, Array.toList_range]
    apply List.ext_getElem?
    intro j
    by_cases hj : j < m
    · simp [hj, Nat.mod_one]
    · simp [hj]
  simp only [Int.toNat_natCast] at hr
  rw [hm] at hr
  simp [execOp, hF.eval hx, hF.eval hy, hr]
  rfl

/-! ### Scopes -/
theorem WC.scope {c : Code} (h : WC P W0 n (Exit.noGoto Q) kn H c) : WC P W0 n Q kn H (.scope c) := fun a w hF hS => wp_scope_straight (h a w hF hS)
theorem WC.label {l : Nat} (h : EQ W0 n .normal Q kn H) : WC P W0 n Q kn H (.label l) := fun a w hF hS => wp_label (h a w hF hS)
theorem EQ.scopeN' (h : EQ W0 n .normal Q kn H) : EQ W0 n .normal (Exit.noGoto Q) kn H := h
theorem EQ.scopeR (h : EQ W0 n .ret Q kn H) : EQ W0 n .ret (Exit.noGoto Q) kn H := h
theorem EQ.scopeE {i : Nat} (h : EQ W0 n (.exit i) Q kn H) : EQ W0 n (.exit i) (Exit.noGoto Q) kn H := h
end
end Go.Sx
