/- Alv: walks of functions of the program, each over the rules of Sx. No conditions but those in the theorems' heads. -/
import Derived.Test.YtmeimjpjelmchaaNx
import Derived.Test.YtmeimjpjelmchaaProg
set_option linter.unusedVariables false
set_option linter.unusedSimpArgs false
namespace Go.Proofs.Ytmeimjpjelmchaa
open Go.RowKit Go.Sx
namespace Alv
theorem fld_34_3 : fldI Try.prog 34 3 = some (3, true, 32) := by kernel_rfl
theorem k_12 : Cal Try.prog 12 := ⟨_, _, Try.func12, by kernel_rfl, rfl⟩
theorem k_17 : Cal Try.prog 17 := ⟨_, _, Try.func17, by kernel_rfl, rfl⟩
theorem k_18 : Cal Try.prog 18 := ⟨_, _, Try.func18, by kernel_rfl, rfl⟩
theorem k_23 : Cal Try.prog 23 := ⟨_, _, Try.func23, by kernel_rfl, rfl⟩
theorem k_25 : Cal Try.prog 25 := ⟨_, _, Try.func25, by kernel_rfl, rfl⟩
theorem k_27 : Cal Try.prog 27 := ⟨_, _, Try.func27, by kernel_rfl, rfl⟩
theorem k_28 : Cal Try.prog 28 := ⟨_, _, Try.func28, by kernel_rfl, rfl⟩
theorem k_45 : Cal Try.prog 45 := ⟨_, _, Try.func45, by kernel_rfl, rfl⟩
theorem k_46 : Cal Try.prog 46 := ⟨_, _, Try.func46, by kernel_rfl, rfl⟩
theorem k_9 : Cal Try.prog 9 := ⟨_, _, Try.func9, by kernel_rfl, rfl⟩
theorem sl_23 : slI Try.prog 23 = some (5, 1, 1) := by kernel_rfl
theorem sl_87 : slI Try.prog 87 = some (23, 1, 24) := by kernel_rfl
theorem ty_38 : tyI Try.prog 38 = some (true, 2) := by kernel_rfl
theorem z_38 : zI Try.prog 38 = some [.int .i64 0, .int .u64 0] := by kernel_rfl
theorem z_5 : zI Try.prog 5 = some [.int .u8 0] := by kernel_rfl
end Alv
open Alv

theorem With20 {W0 : World} {H : Hp} : CxD Try.prog W0 46 #[mv 2 0, .int .i64 0] H (.tuple #[mv 2 1, .int .i64 0]) H := by
  have e := With_c (W0 := W0) (H := H) (n := 2) (b := 0) (i := 0) (by omega) (by omega) (by decide +kernel) (by omega) (by omega)
  rwa [show (0 : Int) + (if mBit 0 0 = true then 0 else 2 ^ (0 : Int).toNat) = 1 from by decide +kernel] at e
/-- Senders of two chunks. -/
structure Two (x : Snd) (b p : Int) : Prop where
  made : x.made = true
  gone : x.gone = false
  n : x.n = 2
  bits : x.bits = b
  pos : x.pos = p
theorem Two.next {x : Snd} {b p : Int} (h : Two x b p) : x.next = if mRight 2 b && decide (b = mAll 2) then -1 else nextOf (missL 2 b) p := by
  unfold Snd.next Snd.state Snd.full
  rw [h.made, h.gone, h.n, h.bits, h.pos]
  cases mRight 2 b && decide (b = mAll 2) <;> simp
theorem Two.next0 {x : Snd} (h : Two x 0 0) : x.next = 0 := by rw [h.next]; decide +kernel
theorem Two.next1 {x : Snd} (h : Two x 1 1) : x.next = 1 := by rw [h.next]; decide +kernel
theorem Two.next2 {x : Snd} (h : Two x 1 2) : x.next = 1 := by rw [h.next]; decide +kernel
theorem Two.right0 {x : Snd} {p : Int} (h : Two x 0 p) : mRight x.n x.bits = true := by rw [h.n, h.bits]; decide +kernel
theorem Two.right1 {x : Snd} {p : Int} (h : Two x 1 p) : mRight x.n x.bits = true := by rw [h.n, h.bits]; decide +kernel
theorem Two.ask {x : Snd} {p : Int} (h : Two x 0 p) : x.ask 2 1 = 0 := by
  unfold Snd.ask
  rw [h.made, h.gone, h.n]
  decide +kernel
theorem Two.left {x : Snd} {p : Int} (h : Two x 1 p) : x.left = 1 := by
  unfold Snd.left
  rw [h.gone, h.n, h.bits]
  decide +kernel
theorem Two.state {x : Snd} {p : Int} (h : Two x 1 p) : x.state = 0 := by
  unfold Snd.state Snd.full
  rw [h.gone, h.n, h.bits, h.made]
  decide +kernel
theorem len0 : lengthAt 65 0 = 64 := by decide +kernel
theorem len1 : lengthAt 65 1 = 1 := by decide +kernel
theorem chunks65 : chunks 65 = 2 := by decide +kernel
/-- What Next gives of a sender of 65 bytes, in two chunks. -/
theorem NextTwo_c {W0 : World} {R ds : Hp} {g : Nat} {x : Snd} {b p k : Int} {L : Nat} (h : Two x b p) (hb : 0 ≤ b) (hb2 : b < 4) (hr : mRight x.n x.bits = true) (hk : x.next = k) (hk0 : 0 ≤ k) (hL : (lengthAt 65 k).toNat = L) (hsz : x.size = 65) (hbl : x.bl = 65)
    (hbc : 65 ≤ x.bc) (hbc2 : x.bc ≤ 9223372036854775807) (hbs : ∀ R, Sl W0 (ds ++ R) x.ba (iv .u8 (List.replicate 65 0))) :
    CxX Try.prog W0 17 #[.pointer (some ⟨g, 0, none⟩)] ((g, x.obj) :: (ds ++ R)) (fun v H' => ∃ pa pc, v = .tuple #[.int .i64 k, .slice pa L pc, .bool true] ∧ H' = (g, { x with pos := k + 1 }.obj) :: (ds ++ R)) := by
  have e := Next_c (W0 := W0) (H := (g, x.obj) :: (ds ++ R)) (g := g) (i := 0) (x := x) at0 (by rw [h.bits]; exact hb) (by rw [h.bits]; omega) hr (bd := List.replicate 65 0) (by simp [hbl]) (by rw [hsz, hbl]; rfl) (by rw [h.n, hsz, chunks65]) (by omega) hbc2 (fun o => (hbs R).cons)
  intro w hS
  refine (e w hS).mono fun en w' ⟨v, H', he, hR, hS'⟩ => ?_
  dsimp only at hR
  rw [if_neg (by omega)] at hR
  obtain ⟨d2, pa, pc, rfl, rfl, _⟩ := hR
  subst hk
  rw [hsz, hL] at he
  exact ⟨_, _, he, ⟨pa, pc, rfl, rfl⟩, hS'.sublist (List.sublist_append_right _ _)⟩
theorem KnowTwo_c {W0 : World} {R : Hp} {g : Nat} {x : Snd} {p : Int} {q : Nat × Obj} (h : Two x 0 p) : CxD Try.prog W0 18 #[.pointer (some ⟨g, 0, none⟩), mv 2 1] (q :: (g, x.obj) :: R) (.int .i64 0) (q :: (g, { x with bits := 1 }.obj) :: R) := by
  have e := Know_c (W0 := W0) (H := q :: (g, x.obj) :: R) (g := g) (i := 1) (x := x) (ats at0) (by rw [h.bits]; omega) (by rw [h.bits]; omega) (n := 2) (b := 1) (by omega) (by omega) h.right0
  rw [h.ask, if_pos rfl, show Go.bits .or .u64 x.bits 1 = 1 from by rw [h.bits]; decide +kernel] at e
  exact e
theorem PeekTwo_c {W0 : World} {R : Hp} {g : Nat} {x : Snd} (h : Two x 1 2) (hsz : x.size = 65) : CxD Try.prog W0 12 #[.pointer (some ⟨g, 0, none⟩)] ((g, x.obj) :: R) (.tuple #[.int .i64 1, .bool true]) ((g, x.obj) :: R) := by
  have e := Peek_c (W0 := W0) (H := (g, x.obj) :: R) (g := g) (i := 0) (x := x) at0 (by rw [h.bits]; omega) (by rw [h.bits]; omega) h.right1
  rw [h.next2, hsz, len1] at e
  exact e
theorem LeftTwo_c {W0 : World} {H : Hp} {g i : Nat} {x : Snd} (h : Two x 1 2) (hi : H[i]? = some (g, x.obj)) : CxD Try.prog W0 23 #[.pointer (some ⟨g, 0, none⟩)] H (.int .i64 1) H := by
  have e := Left_c (W0 := W0) hi (by rw [h.bits]; omega) (by rw [h.bits]; omega) (by rw [h.n]; omega)
  rw [h.left] at e
  exact e
theorem StateTwo_c {W0 : World} {H : Hp} {g i : Nat} {x : Snd} (h : Two x 1 2) (hi : H[i]? = some (g, x.obj)) : CxD Try.prog W0 25 #[.pointer (some ⟨g, 0, none⟩)] H (.int .i64 0) H := by
  have e := State_c (W0 := W0) hi (by rw [h.bits]; omega) (by rw [h.bits]; omega)
  rw [h.state] at e
  exact e
/-- Sixty-five zeros. -/
abbrev z65 : List Int := List.replicate 65 0
theorem Sl.z65 {W0 : World} {H : Hp} {b : Nat} (h : (b, cl (List.replicate 65 (.int .u8 0)) 5) ∈ H) : Sl W0 H (some ⟨b, 0, none⟩) (iv .u8 z65) := Sl.own h (fun j x hj => by simpa [z65] using hj)

theorem eqBytes_same (w : World) (d : Nat) (t e : TypeId) (n : Nat) (ht : Try.prog.underlying t = some (.array n e)) (he : Try.prog.underlying e = some (.int .u8)) (hsz : ∀ w, (sizeOf e).run Try.prog w = .ok 1 w) (l : List Int) (hl : l.length = n) :
    (Op.equalIn (d + 2) t (.agg ⟨iv .u8 l⟩) (.agg ⟨iv .u8 l⟩)).run Try.prog w = .ok true w := by
  rw [Op.equalIn]
  simp only [Sem.run_bind, run_underlying ht, Result.andThen_ok, hsz, Std.Legacy.Range.forIn_eq_forIn_range', Std.Legacy.Range.size, Nat.sub_zero, Nat.add_sub_cancel, Nat.div_one]
  have hr : ∀ i ∈ List.range' 0 n 1, i < n := fun i hi => by simpa using (List.mem_range'_1.1 hi).2
  generalize List.range' 0 n 1 = r at hr ⊢
  induction r with
  | nil => simp
  | cons i r ih =>
    have hi : i < n := hr i (by simp)
    have px : (part e ⟨iv .u8 l⟩ (i * 1)).run Try.prog w = .ok (.int .u8 (l.getD i 0)) w := by
      simp [part, isAgg, run_underlying he, List.getD, List.getElem?_eq_getElem (show i < l.length by omega)]
    have pe : (Op.equalIn (d + 1) e (.int .u8 (l.getD i 0)) (.int .u8 (l.getD i 0))).run Try.prog w = .ok true w := by
      rw [run_equalIn_int w d e .u8 .u8 _ _ he]
      simp
    simp only [List.forIn_cons, Sem.run_bind, px, pe, Result.andThen_ok]
    simp only [Bool.not_true, Bool.false_eq_true, if_false, Sem.run_pure, Result.andThen_ok]
    exact ih fun j hj => hr j (by simp [hj])
theorem sumL_iv (s : Nat → Int) : sumL s = iv .u8 ((List.range 32).map s) := by
  rw [sumL_range]; simp
theorem eqSum_same (s : Nat → Int) (w : World) : (binOp .eql 32 (.agg ⟨sumL s⟩) (.agg ⟨sumL s⟩)).run Try.prog w = .ok (.bool true) w := by
  rw [run_eql_struct, sumL_iv, eqBytes_same w 9998 32 5 32 Try.underlying32 Try.underlying5 (fun w => run_sizeOf_ty (P := Try.prog) (g := false) (by kernel_rfl) w) _ (by simp)]
  rfl
theorem _root_.Go.Sx.OpP.eqlAgg_32 {W0 : World} {n : Nat} {kn : Kn} {H : Hp} {d ty pos aft g} {t' : TypeId} {x y : Operand} {s s2 : Nat → Int} (hx : kop kn x = some (.agg ⟨sumL s⟩)) (hy : kop kn y = some (.agg ⟨sumL s2⟩)) (he : s = s2) :
    OpP Try.prog W0 n kn H ⟨d, .binOp .eql 32 x y t', ty, pos, aft, g⟩ (.bool true) := by
  subst he
  exact OpP.binR hx hy (eqGuard_agg _ _ _ _ _ _ (by kernel_rfl)) (fun w => eqSum_same s w)

set_option maxRecDepth 100000 in
theorem alive_c {W0 : World} {H : Hp} : CxD Try.prog W0 8 #[] H (.bool true) H := by
  refine enter Try.func8 rfl Try.ntmps8 rfl ?_
  refine WC.seq ?_
  refine WC.region ?_
  refine WL.p (.none rfl) rfl (OpP.assign rfl) ?_
  refine WL.nil ?_
  refine EQ.sub ((Sub.cons (i := 0) rfl (Sub.nil _))) ?_
  refine EQ.code ?_
  refine WC.seq ?_
  refine WC.region ?_
  refine WL.makeSlice sl_23 z_5 rfl rfl rfl (by first | omega | decide) (by first | omega | decide) (fun b18 => ?_)
  refine WL.call rfl (.none rfl) rfl k_9 rfl (FNew_c (l := z65) rfl (by decide) (by omega) (Sl.z65 List.mem_cons_self)) ?_
  rintro _ _ hnew
  rw [if_pos (by decide +kernel)] at hnew
  obtain ⟨g, ds, ba, bc, rfl, rfl, hown⟩ := hnew
  have hval := hown.val
  obtain ⟨a1, c1, hv1, hbc, hbc2, hbs⟩ := hval
  cases hv1
  generalize hx : newSnd 7 _ 65 (sumF z65) ba bc = x0
  have h0 : Two x0 0 0 := by subst hx; exact ⟨rfl, rfl, chunks65, rfl, rfl⟩
  have hsz : x0.size = 65 := by subst hx; rfl
  have hbl : x0.bl = 65 := by subst hx; rfl
  have hxc : 65 ≤ x0.bc := by subst hx; exact hbc
  have hxc2 : x0.bc ≤ 9223372036854775807 := by subst hx; exact hbc2
  have hxs : ∀ R, Sl W0 (ds ++ R) x0.ba (iv .u8 z65) := by subst hx; exact hbs W0
  have hsum : x0.sum = sumF z65 := by subst hx; rfl
  clear hx
  refine WL.p (.none rfl) rfl (OpP.move rfl) ?_
  refine WL.p (.none rfl) rfl (OpP.extract rfl rfl) ?_
  refine WL.p (.none rfl) rfl (OpP.extract rfl rfl) ?_
  refine WL.p (.none rfl) rfl (OpP.assign rfl) ?_
  refine WL.p (.none rfl) rfl (OpP.assign rfl) ?_
  refine WL.nil ?_
  refine EQ.sub ((Sub.cons (i := 0) rfl (Sub.cons (i := 1) rfl (Sub.cons (i := 2) rfl (Sub.nil _))))) ?_
  refine EQ.code ?_
  refine WC.seq ?_
  refine WC.seq ?_
  refine WC.region ?_
  refine WL.p (.none rfl) rfl (OpP.move rfl) ?_
  refine WL.p (.none rfl) rfl (OpP.neqI rfl rfl) ?_
  refine WL.p (.none rfl) rfl (OpP.move rfl) ?_
  refine WL.p (.yes rfl rfl rfl) rfl (OpP.move rfl) ?_
  refine WL.p (.yes rfl rfl rfl) rfl (OpP.eqlNil rfl rfl Try.underlying26) ?_
  refine WL.p (.none rfl) rfl (OpP.por rfl rfl rfl) ?_
  refine WL.nil ?_
  refine EQ.sub ((Sub.cons (i := 0) rfl (Sub.cons (i := 1) rfl (Sub.cons (i := 27) rfl (Sub.nil _))))) ?_
  refine EQ.code ?_
  refine WC.condF rfl ?_
  refine WC.skip ?_
  refine EQ.code ?_
  refine WC.seq ?_
  refine WC.region ?_
  refine WL.p (.none rfl) rfl (OpP.move rfl) ?_
  refine WL.call rfl (.none rfl) rfl k_17 rfl (NextTwo_c (R := (b18, cl (List.replicate 65 (.int .u8 0)) 5) :: H) (ds := ds) (g := g) (x := x0) h0 (by omega) (by omega) h0.right0 h0.next0 (by omega) (by rw [len0]; first | done | rfl) hsz hbl hxc hxc2 hxs) ?_
  rintro _ _ ⟨pa1, pc1, rfl, rfl⟩
  have h1 : Two { x0 with pos := 0 + 1 } 0 1 := ⟨h0.made, h0.gone, h0.n, h0.bits, rfl⟩
  refine WL.p (.none rfl) rfl (OpP.move rfl) ?_
  refine WL.p (.none rfl) rfl (OpP.extract rfl rfl) ?_
  refine WL.p (.none rfl) rfl (OpP.extract rfl rfl) ?_
  refine WL.p (.none rfl) rfl (OpP.extract rfl rfl) ?_
  refine WL.p (.none rfl) rfl (OpP.assign rfl) ?_
  refine WL.p (.none rfl) rfl (OpP.assign rfl) ?_
  refine WL.p (.none rfl) rfl (OpP.assign rfl) ?_
  refine WL.nil ?_
  refine EQ.sub ((Sub.cons (i := 0) rfl (Sub.cons (i := 1) rfl (Sub.cons (i := 3) rfl (Sub.cons (i := 4) rfl (Sub.cons (i := 5) rfl (Sub.nil _))))))) ?_
  refine EQ.code ?_
  refine WC.seq ?_
  refine WC.region ?_
  refine WL.callD rfl (.none rfl) rfl k_45 rfl (NewIn_c (by omega)) ?_
  refine WL.p (.none rfl) rfl (OpP.move rfl) ?_
  refine WL.p (.none rfl) rfl (OpP.extract rfl rfl) ?_
  refine WL.p (.none rfl) rfl (OpP.extract rfl rfl) ?_
  refine WL.allocX z_38 rfl (fun b6 => ?_)
  first | (refine WL.s (.none rfl) rfl (OpS.storeAll rfl rfl ty_38 (by repeat (first | assumption | exact at0 | exact set_hit (by first | assumption | exact set_hit (by assumption)) | apply ats)) (by rfl) (by rfl) (by rfl) (by rfl)) ?_) | (refine WL.s (.none rfl) rfl (OpS.store rfl rfl ty_38 (by repeat (first | assumption | exact at0 | exact set_hit (by first | assumption | exact set_hit (by assumption)) | apply ats)) (by rfl) (by rfl) (by rfl) (by rfl)) ?_)
  refine WL.p (.none rfl) rfl (OpP.assign rfl) ?_
  refine WL.nil ?_
  refine EQ.sub ((Sub.cons (i := 0) rfl (Sub.cons (i := 1) rfl (Sub.cons (i := 3) rfl (Sub.cons (i := 4) rfl (Sub.cons (i := 5) rfl (Sub.cons (i := 6) rfl (Sub.nil _)))))))) ?_
  refine EQ.code ?_
  refine WC.seq ?_
  refine WC.region ?_
  refine WL.p (.none rfl) rfl (OpP.loadB rfl ty_38 (by repeat (first | assumption | exact List.mem_cons_self | exact List.mem_of_getElem? (by assumption) | exact set_mem (by first | assumption | exact set_hit (by assumption)) | apply List.mem_cons_of_mem | apply List.mem_append_right)) (by rfl)) ?_
  refine WL.callD rfl (.none rfl) rfl k_46 rfl (With20) ?_
  refine WL.p (.none rfl) rfl (OpP.move rfl) ?_
  refine WL.p (.none rfl) rfl (OpP.extract rfl rfl) ?_
  refine WL.p (.none rfl) rfl (OpP.extract rfl rfl) ?_
  first | (refine WL.s (.none rfl) rfl (OpS.storeAll rfl rfl ty_38 (by repeat (first | assumption | exact at0 | exact set_hit (by first | assumption | exact set_hit (by assumption)) | apply ats)) (by rfl) (by rfl) (by rfl) (by rfl)) ?_) | (refine WL.s (.none rfl) rfl (OpS.store rfl rfl ty_38 (by repeat (first | assumption | exact at0 | exact set_hit (by first | assumption | exact set_hit (by assumption)) | apply ats)) (by rfl) (by rfl) (by rfl) (by rfl)) ?_)
  refine WL.nil ?_
  refine EQ.sub ((Sub.cons (i := 0) rfl (Sub.cons (i := 1) rfl (Sub.cons (i := 3) rfl (Sub.cons (i := 4) rfl (Sub.cons (i := 5) rfl (Sub.cons (i := 6) rfl (Sub.nil _)))))))) ?_
  refine EQ.code ?_
  refine WC.seq ?_
  refine WC.region ?_
  refine WL.p (.none rfl) rfl (OpP.move rfl) ?_
  refine WL.p (.none rfl) rfl (OpP.loadB rfl ty_38 (by repeat (first | assumption | exact List.mem_cons_self | exact List.mem_of_getElem? (by assumption) | exact set_mem (by first | assumption | exact set_hit (by assumption)) | apply List.mem_cons_of_mem | apply List.mem_append_right)) (by rfl)) ?_
  refine WL.call rfl (.none rfl) rfl k_18 rfl (KnowTwo_c h1) ?_
  rintro _ _ ⟨rfl, rfl⟩
  refine WL.hp (fun _ h => h.drop) ?_
  have h2 : Two { x0 with pos := 0 + 1, bits := 1 } 1 1 := ⟨h0.made, h0.gone, h0.n, rfl, rfl⟩
  refine WL.p (.none rfl) rfl (OpP.assign rfl) ?_
  refine WL.nil ?_
  refine EQ.sub ((Sub.cons (i := 0) rfl (Sub.cons (i := 1) rfl (Sub.cons (i := 3) rfl (Sub.cons (i := 4) rfl (Sub.cons (i := 5) rfl (Sub.cons (i := 8) rfl (Sub.nil _)))))))) ?_
  refine EQ.code ?_
  refine WC.seq ?_
  refine WC.region ?_
  refine WL.p (.none rfl) rfl (OpP.move rfl) ?_
  refine WL.call rfl (.none rfl) rfl k_17 rfl (NextTwo_c (R := (b18, cl (List.replicate 65 (.int .u8 0)) 5) :: H) (ds := ds) (g := g) (x := { x0 with pos := 0 + 1, bits := 1 }) h2 (by omega) (by omega) h2.right1 h2.next1 (by omega) (by rw [len1]; first | done | rfl) hsz hbl hxc hxc2 hxs) ?_
  rintro _ _ ⟨pa2, pc2, rfl, rfl⟩
  have h3 : Two { x0 with pos := 1 + 1, bits := 1 } 1 2 := ⟨h0.made, h0.gone, h0.n, rfl, rfl⟩
  refine WL.p (.none rfl) rfl (OpP.move rfl) ?_
  refine WL.p (.none rfl) rfl (OpP.extract rfl rfl) ?_
  refine WL.p (.none rfl) rfl (OpP.extract rfl rfl) ?_
  refine WL.p (.none rfl) rfl (OpP.extract rfl rfl) ?_
  refine WL.p (.none rfl) rfl (OpP.assign rfl) ?_
  refine WL.p (.none rfl) rfl (OpP.assign rfl) ?_
  refine WL.p (.none rfl) rfl (OpP.assign rfl) ?_
  refine WL.nil ?_
  refine EQ.sub ((Sub.cons (i := 0) rfl (Sub.cons (i := 1) rfl (Sub.cons (i := 3) rfl (Sub.cons (i := 4) rfl (Sub.cons (i := 5) rfl (Sub.cons (i := 8) rfl (Sub.cons (i := 9) rfl (Sub.cons (i := 10) rfl (Sub.cons (i := 11) rfl (Sub.nil _))))))))))) ?_
  refine EQ.code ?_
  refine WC.seq ?_
  refine WC.region ?_
  refine WL.p (.none rfl) rfl (OpP.move rfl) ?_
  refine WL.call rfl (.none rfl) rfl k_17 rfl (NextTwo_c (R := (b18, cl (List.replicate 65 (.int .u8 0)) 5) :: H) (ds := ds) (g := g) (x := { x0 with pos := 1 + 1, bits := 1 }) h3 (by omega) (by omega) h3.right1 h3.next2 (by omega) (by rw [len1]; first | done | rfl) hsz hbl hxc hxc2 hxs) ?_
  rintro _ _ ⟨pa3, pc3, rfl, rfl⟩
  refine WL.p (.none rfl) rfl (OpP.move rfl) ?_
  refine WL.p (.none rfl) rfl (OpP.extract rfl rfl) ?_
  refine WL.p (.none rfl) rfl (OpP.extract rfl rfl) ?_
  refine WL.p (.none rfl) rfl (OpP.extract rfl rfl) ?_
  refine WL.p (.none rfl) rfl (OpP.assign rfl) ?_
  refine WL.p (.none rfl) rfl (OpP.assign rfl) ?_
  refine WL.p (.none rfl) rfl (OpP.assign rfl) ?_
  refine WL.nil ?_
  refine EQ.sub ((Sub.cons (i := 0) rfl (Sub.cons (i := 1) rfl (Sub.cons (i := 3) rfl (Sub.cons (i := 4) rfl (Sub.cons (i := 5) rfl (Sub.cons (i := 8) rfl (Sub.cons (i := 9) rfl (Sub.cons (i := 10) rfl (Sub.cons (i := 11) rfl (Sub.cons (i := 12) rfl (Sub.cons (i := 14) rfl (Sub.nil _))))))))))))) ?_
  refine EQ.code ?_
  refine WC.seq ?_
  refine WC.region ?_
  refine WL.p (.none rfl) rfl (OpP.move rfl) ?_
  refine WL.callD rfl (.none rfl) rfl k_12 rfl (PeekTwo_c h3 hsz) ?_
  refine WL.p (.none rfl) rfl (OpP.move rfl) ?_
  refine WL.p (.none rfl) rfl (OpP.extract rfl rfl) ?_
  refine WL.p (.none rfl) rfl (OpP.extract rfl rfl) ?_
  refine WL.p (.none rfl) rfl (OpP.assign rfl) ?_
  refine WL.p (.none rfl) rfl (OpP.assign rfl) ?_
  refine WL.nil ?_
  refine EQ.sub ((Sub.cons (i := 0) rfl (Sub.cons (i := 1) rfl (Sub.cons (i := 3) rfl (Sub.cons (i := 4) rfl (Sub.cons (i := 5) rfl (Sub.cons (i := 8) rfl (Sub.cons (i := 9) rfl (Sub.cons (i := 10) rfl (Sub.cons (i := 11) rfl (Sub.cons (i := 12) rfl (Sub.cons (i := 14) rfl (Sub.cons (i := 15) rfl (Sub.cons (i := 16) rfl (Sub.nil _))))))))))))))) ?_
  refine EQ.code ?_
  refine WC.seq ?_
  refine WC.mix (by kernel_rfl) ?_
  refine AJ.p (i := 0) rfl (by kernel_rfl) (.none rfl) rfl (OpP.move rfl) ?_
  refine AJ.p (i := 1) rfl (by kernel_rfl) (.none rfl) rfl (OpP.eqlI rfl rfl) ?_
  refine AJ.p (i := 2) rfl (by kernel_rfl) (.none rfl) rfl (OpP.move rfl) ?_
  refine AJ.p (i := 3) rfl (by kernel_rfl) (.yes rfl rfl rfl) rfl (OpP.move rfl) ?_
  refine AJ.p (i := 4) rfl (by kernel_rfl) (.yes rfl rfl rfl) rfl (OpP.lenSl rfl Try.underlying23) ?_
  refine AJ.p (i := 5) rfl (by kernel_rfl) (.yes rfl rfl rfl) rfl (OpP.eqlI rfl rfl) ?_
  refine AJ.p (i := 6) rfl (by kernel_rfl) (.none rfl) rfl (OpP.pand rfl rfl rfl) ?_
  refine AJ.p (i := 7) rfl (by kernel_rfl) (.none rfl) rfl (OpP.move rfl) ?_
  refine AJ.p (i := 8) rfl (by kernel_rfl) (.yes rfl rfl rfl) rfl (OpP.move rfl) ?_
  refine AJ.p (i := 9) rfl (by kernel_rfl) (.none rfl) rfl (OpP.pand rfl rfl rfl) ?_
  refine AJ.p (i := 10) rfl (by kernel_rfl) (.none rfl) rfl (OpP.move rfl) ?_
  refine AJ.p (i := 11) rfl (by kernel_rfl) (.yes rfl rfl rfl) rfl (OpP.move rfl) ?_
  refine AJ.p (i := 12) rfl (by kernel_rfl) (.yes rfl rfl rfl) rfl (OpP.eqlI rfl rfl) ?_
  refine AJ.p (i := 13) rfl (by kernel_rfl) (.none rfl) rfl (OpP.pand rfl rfl rfl) ?_
  refine AJ.p (i := 14) rfl (by kernel_rfl) (.none rfl) rfl (OpP.move rfl) ?_
  refine AJ.p (i := 15) rfl (by kernel_rfl) (.yes rfl rfl rfl) rfl (OpP.move rfl) ?_
  refine AJ.p (i := 16) rfl (by kernel_rfl) (.yes rfl rfl rfl) rfl (OpP.eqlI rfl rfl) ?_
  refine AJ.p (i := 17) rfl (by kernel_rfl) (.none rfl) rfl (OpP.pand rfl rfl rfl) ?_
  refine AJ.p (i := 18) rfl (by kernel_rfl) (.none rfl) rfl (OpP.move rfl) ?_
  refine AJ.p (i := 19) rfl (by kernel_rfl) (.yes rfl rfl rfl) rfl (OpP.move rfl) ?_
  refine AJ.p (i := 20) rfl (by kernel_rfl) (.yes rfl rfl rfl) rfl (OpP.lenSl rfl Try.underlying23) ?_
  refine AJ.p (i := 21) rfl (by kernel_rfl) (.yes rfl rfl rfl) rfl (OpP.eqlI rfl rfl) ?_
  refine AJ.p (i := 22) rfl (by kernel_rfl) (.none rfl) rfl (OpP.pand rfl rfl rfl) ?_
  refine AJ.p (i := 23) rfl (by kernel_rfl) (.none rfl) rfl (OpP.move rfl) ?_
  refine AJ.p (i := 24) rfl (by kernel_rfl) (.yes rfl rfl rfl) rfl (OpP.move rfl) ?_
  refine AJ.p (i := 25) rfl (by kernel_rfl) (.none rfl) rfl (OpP.pand rfl rfl rfl) ?_
  refine AJ.p (i := 26) rfl (by kernel_rfl) (.none rfl) rfl (OpP.move rfl) ?_
  refine AJ.p (i := 27) rfl (by kernel_rfl) (.yes rfl rfl rfl) rfl (OpP.move rfl) ?_
  refine AJ.p (i := 28) rfl (by kernel_rfl) (.yes rfl rfl rfl) rfl (OpP.eqlI rfl rfl) ?_
  refine AJ.p (i := 29) rfl (by kernel_rfl) (.none rfl) rfl (OpP.pand rfl rfl rfl) ?_
  refine AJ.p (i := 30) rfl (by kernel_rfl) (.none rfl) rfl (OpP.move rfl) ?_
  refine AJ.p (i := 31) rfl (by kernel_rfl) (.yes rfl rfl rfl) rfl (OpP.move rfl) ?_
  refine AJ.p (i := 32) rfl (by kernel_rfl) (.none rfl) rfl (OpP.pand rfl rfl rfl) ?_
  refine AJ.p (i := 33) rfl (by kernel_rfl) (.none rfl) rfl (OpP.move rfl) ?_
  refine AJ.p (i := 34) rfl (by kernel_rfl) (.yes rfl rfl rfl) rfl (OpP.move rfl) ?_
  refine AJ.p (i := 35) rfl (by kernel_rfl) (.yes rfl rfl rfl) rfl (OpP.eqlI rfl rfl) ?_
  refine AJ.p (i := 36) rfl (by kernel_rfl) (.none rfl) rfl (OpP.pand rfl rfl rfl) ?_
  refine AJ.p (i := 37) rfl (by kernel_rfl) (.none rfl) rfl (OpP.move rfl) ?_
  refine AJ.p (i := 38) rfl (by kernel_rfl) (.yes rfl rfl rfl) rfl (OpP.move rfl) ?_
  refine AJ.p (i := 39) rfl (by kernel_rfl) (.none rfl) rfl (OpP.pand rfl rfl rfl) ?_
  refine AJ.p (i := 40) rfl (by kernel_rfl) (.none rfl) rfl (OpP.move rfl) ?_
  refine AJ.p (i := 41) rfl (by kernel_rfl) (.yes rfl rfl rfl) rfl (OpP.move rfl) ?_
  refine AJ.one 42 rfl (by kernel_rfl) (by intro _ h; first | exact h | exact h.drop | exact h.drop.drop | exact h.sublist (List.sublist_append_right _ _) | exact h.drop.sublist (List.sublist_append_right _ _)) ?_
  refine WL.callD rfl (.yes rfl rfl rfl) rfl k_23 rfl (LeftTwo_c h3 (by first | exact at0 | exact ats at0 | exact ats (ats at0))) ?_
  refine WL.nil ?_
  refine EQ.an ?_
  refine AJ.p (i := 43) rfl (by kernel_rfl) (.yes rfl rfl rfl) rfl (OpP.eqlI rfl rfl) ?_
  refine AJ.p (i := 44) rfl (by kernel_rfl) (.none rfl) rfl (OpP.pand rfl rfl rfl) ?_
  refine AJ.p (i := 45) rfl (by kernel_rfl) (.none rfl) rfl (OpP.move rfl) ?_
  refine AJ.p (i := 46) rfl (by kernel_rfl) (.yes rfl rfl rfl) rfl (OpP.move rfl) ?_
  refine AJ.one 47 rfl (by kernel_rfl) (by intro _ h; first | exact h | exact h.drop | exact h.drop.drop | exact h.sublist (List.sublist_append_right _ _) | exact h.drop.sublist (List.sublist_append_right _ _)) ?_
  refine WL.callD rfl (.yes rfl rfl rfl) rfl k_25 rfl (StateTwo_c h3 (by first | exact at0 | exact ats at0 | exact ats (ats at0))) ?_
  refine WL.nil ?_
  refine EQ.an ?_
  refine AJ.p (i := 48) rfl (by kernel_rfl) (.yes rfl rfl rfl) rfl (OpP.eqlI rfl rfl) ?_
  refine AJ.p (i := 49) rfl (by kernel_rfl) (.none rfl) rfl (OpP.pand rfl rfl rfl) ?_
  refine AJ.p (i := 50) rfl (by kernel_rfl) (.none rfl) rfl (OpP.move rfl) ?_
  refine AJ.p (i := 51) rfl (by kernel_rfl) (.yes rfl rfl rfl) rfl (OpP.move rfl) ?_
  refine AJ.two 52 54 rfl rfl (by kernel_rfl) (by intro _ h; first | exact h | exact h.drop | exact h.drop.drop | exact h.sublist (List.sublist_append_right _ _) | exact h.drop.sublist (List.sublist_append_right _ _)) ?_ ?_
  · -- 52 first
    refine WL.callD rfl (.yes rfl rfl rfl) rfl k_27 rfl (Info_c (by first | exact at0 | exact ats at0 | exact ats (ats at0))) ?_
    refine WL.nil ?_
    refine EQ.an ?_
    refine AJ.p (i := 53) rfl (by kernel_rfl) (.yes rfl rfl rfl) rfl (OpP.fieldA rfl fld_34_3) ?_
    refine AJ.one 54 rfl (by kernel_rfl) (by intro _ h; first | exact h | exact h.drop | exact h.drop.drop | exact h.sublist (List.sublist_append_right _ _) | exact h.drop.sublist (List.sublist_append_right _ _)) ?_
    refine WL.unguard (.yes rfl rfl rfl) ?_
    refine WL.makeSlice sl_23 z_5 rfl rfl rfl (by first | omega | decide) (by first | omega | decide) (fun b117 => ?_)
    refine WL.nil ?_
    refine EQ.an ?_
    refine AJ.one 55 rfl (by kernel_rfl) (by intro _ h; first | exact h | exact h.drop | exact h.drop.drop | exact h.sublist (List.sublist_append_right _ _) | exact h.drop.sublist (List.sublist_append_right _ _)) ?_
    refine WL.unguard (.yes rfl rfl rfl) ?_
    refine WL.buildSlice1 sl_87 rfl rfl (by decide) rfl rfl (by rfl) (fun b118 => ?_)
    refine WL.nil ?_
    refine EQ.an ?_
    refine AJ.one 56 rfl (by kernel_rfl) (by intro _ h; first | exact h | exact h.drop | exact h.drop.drop | exact h.sublist (List.sublist_append_right _ _) | exact h.drop.sublist (List.sublist_append_right _ _)) ?_
    refine WL.callD rfl (.yes rfl rfl rfl) rfl k_28 rfl (Of_c (a := some ⟨b117, 0, none⟩) (m := 65) (cp := 65) (l := z65) rfl (by decide) (by omega) (Sl.z65 (List.mem_cons_of_mem _ List.mem_cons_self)) (Sl.own List.mem_cons_self (fun j x hj => by simpa using hj))) ?_
    refine WL.nil ?_
    refine EQ.an ?_
    refine AJ.p (i := 57) rfl (by kernel_rfl) (.yes rfl rfl rfl) rfl (OpP.eqlAgg_32 (s := x0.sum) (s2 := sumF z65) (by kernel_rfl) rfl hsum) ?_
    refine AJ.p (i := 58) rfl (by kernel_rfl) (.none rfl) rfl (OpP.pand rfl rfl rfl) ?_
    refine AJ.p (i := 59) rfl (by kernel_rfl) (.none rfl) rfl (OpP.assign rfl) ?_
    refine AJ.done (by kernel_rfl) (by intro _ h; first | exact h | exact h.drop | exact h.drop.drop | exact h.sublist (List.sublist_append_right _ _) | exact h.drop.sublist (List.sublist_append_right _ _)) ?_
    refine EQ.sub ((Sub.cons (i := 0) rfl (Sub.nil _))) ?_
    refine EQ.code ?_
    refine WC.ret ?_
    refine EQ.finD (H' := H) (res1 rfl (.tmp rfl)) (by intro _ h; exact (h.drop.drop.drop).sublist ((List.sublist_cons_self _ _).trans (List.sublist_append_right ds _))) ?_
    exact ⟨rfl, rfl⟩
  · -- 54 first
    refine WL.unguard (.yes rfl rfl rfl) ?_
    refine WL.makeSlice sl_23 z_5 rfl rfl rfl (by first | omega | decide) (by first | omega | decide) (fun b117 => ?_)
    refine WL.nil ?_
    refine EQ.an ?_
    refine AJ.two 52 55 rfl rfl (by kernel_rfl) (by intro _ h; first | exact h | exact h.drop | exact h.drop.drop | exact h.sublist (List.sublist_append_right _ _) | exact h.drop.sublist (List.sublist_append_right _ _)) ?_ ?_
    · -- 52 first
      refine WL.callD rfl (.yes rfl rfl rfl) rfl k_27 rfl (Info_c (by first | exact at0 | exact ats at0 | exact ats (ats at0))) ?_
      refine WL.nil ?_
      refine EQ.an ?_
      refine AJ.p (i := 53) rfl (by kernel_rfl) (.yes rfl rfl rfl) rfl (OpP.fieldA rfl fld_34_3) ?_
      refine AJ.one 55 rfl (by kernel_rfl) (by intro _ h; first | exact h | exact h.drop | exact h.drop.drop | exact h.sublist (List.sublist_append_right _ _) | exact h.drop.sublist (List.sublist_append_right _ _)) ?_
      refine WL.unguard (.yes rfl rfl rfl) ?_
      refine WL.buildSlice1 sl_87 rfl rfl (by decide) rfl rfl (by rfl) (fun b118 => ?_)
      refine WL.nil ?_
      refine EQ.an ?_
      refine AJ.one 56 rfl (by kernel_rfl) (by intro _ h; first | exact h | exact h.drop | exact h.drop.drop | exact h.sublist (List.sublist_append_right _ _) | exact h.drop.sublist (List.sublist_append_right _ _)) ?_
      refine WL.callD rfl (.yes rfl rfl rfl) rfl k_28 rfl (Of_c (a := some ⟨b117, 0, none⟩) (m := 65) (cp := 65) (l := z65) rfl (by decide) (by omega) (Sl.z65 (List.mem_cons_of_mem _ List.mem_cons_self)) (Sl.own List.mem_cons_self (fun j x hj => by simpa using hj))) ?_
      refine WL.nil ?_
      refine EQ.an ?_
      refine AJ.p (i := 57) rfl (by kernel_rfl) (.yes rfl rfl rfl) rfl (OpP.eqlAgg_32 (s := x0.sum) (s2 := sumF z65) (by kernel_rfl) rfl hsum) ?_
      refine AJ.p (i := 58) rfl (by kernel_rfl) (.none rfl) rfl (OpP.pand rfl rfl rfl) ?_
      refine AJ.p (i := 59) rfl (by kernel_rfl) (.none rfl) rfl (OpP.assign rfl) ?_
      refine AJ.done (by kernel_rfl) (by intro _ h; first | exact h | exact h.drop | exact h.drop.drop | exact h.sublist (List.sublist_append_right _ _) | exact h.drop.sublist (List.sublist_append_right _ _)) ?_
      refine EQ.sub ((Sub.cons (i := 0) rfl (Sub.nil _))) ?_
      refine EQ.code ?_
      refine WC.ret ?_
      refine EQ.finD (H' := H) (res1 rfl (.tmp rfl)) (by intro _ h; exact (h.drop.drop.drop).sublist ((List.sublist_cons_self _ _).trans (List.sublist_append_right ds _))) ?_
      exact ⟨rfl, rfl⟩
    · -- 55 first
      refine WL.unguard (.yes rfl rfl rfl) ?_
      refine WL.buildSlice1 sl_87 rfl rfl (by decide) rfl rfl (by rfl) (fun b118 => ?_)
      refine WL.nil ?_
      refine EQ.an ?_
      refine AJ.one 52 rfl (by kernel_rfl) (by intro _ h; first | exact h | exact h.drop | exact h.drop.drop | exact h.sublist (List.sublist_append_right _ _) | exact h.drop.sublist (List.sublist_append_right _ _)) ?_
      refine WL.callD rfl (.yes rfl rfl rfl) rfl k_27 rfl (Info_c (by first | exact at0 | exact ats at0 | exact ats (ats at0))) ?_
      refine WL.nil ?_
      refine EQ.an ?_
      refine AJ.p (i := 53) rfl (by kernel_rfl) (.yes rfl rfl rfl) rfl (OpP.fieldA rfl fld_34_3) ?_
      refine AJ.one 56 rfl (by kernel_rfl) (by intro _ h; first | exact h | exact h.drop | exact h.drop.drop | exact h.sublist (List.sublist_append_right _ _) | exact h.drop.sublist (List.sublist_append_right _ _)) ?_
      refine WL.callD rfl (.yes rfl rfl rfl) rfl k_28 rfl (Of_c (a := some ⟨b117, 0, none⟩) (m := 65) (cp := 65) (l := z65) rfl (by decide) (by omega) (Sl.z65 (List.mem_cons_of_mem _ List.mem_cons_self)) (Sl.own List.mem_cons_self (fun j x hj => by simpa using hj))) ?_
      refine WL.nil ?_
      refine EQ.an ?_
      refine AJ.p (i := 57) rfl (by kernel_rfl) (.yes rfl rfl rfl) rfl (OpP.eqlAgg_32 (s := x0.sum) (s2 := sumF z65) (by kernel_rfl) rfl hsum) ?_
      refine AJ.p (i := 58) rfl (by kernel_rfl) (.none rfl) rfl (OpP.pand rfl rfl rfl) ?_
      refine AJ.p (i := 59) rfl (by kernel_rfl) (.none rfl) rfl (OpP.assign rfl) ?_
      refine AJ.done (by kernel_rfl) (by intro _ h; first | exact h | exact h.drop | exact h.drop.drop | exact h.sublist (List.sublist_append_right _ _) | exact h.drop.sublist (List.sublist_append_right _ _)) ?_
      refine EQ.sub ((Sub.cons (i := 0) rfl (Sub.nil _))) ?_
      refine EQ.code ?_
      refine WC.ret ?_
      refine EQ.finD (H' := H) (res1 rfl (.tmp rfl)) (by intro _ h; exact (h.drop.drop.drop).sublist ((List.sublist_cons_self _ _).trans (List.sublist_append_right ds _))) ?_
      exact ⟨rfl, rfl⟩

end Go.Proofs.Ytmeimjpjelmchaa
