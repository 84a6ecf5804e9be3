/- Sa: walks of functions of the program, each over the rules of Sx. No conditions but those in the theorems' heads. -/
import Derived.Test.YtmeimjpjelmchaaSp
import Derived.Test.YtmeimjpjelmchaaProg
set_option linter.unusedVariables false
set_option linter.unusedSimpArgs false
namespace Go.Proofs.Ytmeimjpjelmchaa
open Go.RowKit Go.Sx
namespace Sa
theorem bld_34 : bldS Try.prog 34 = some ([(0, 1), (1, 1), (2, 1), (3, 32)], [.int .u64 0, .string ⟨#[]⟩, .int .i64 0, .int .u8 0, .int .u8 0, .int .u8 0, .int .u8 0, .int .u8 0, .int .u8 0, .int .u8 0, .int .u8 0, .int .u8 0, .int .u8 0, .int .u8 0, .int .u8 0, .int .u8 0, .int .u8 0, .int .u8 0, .int .u8 0, .int .u8 0, .int .u8 0, .int .u8 0, .int .u8 0, .int .u8 0, .int .u8 0, .int .u8 0, .int .u8 0, .int .u8 0, .int .u8 0, .int .u8 0, .int .u8 0, .int .u8 0, .int .u8 0, .int .u8 0, .int .u8 0]) := by kernel_rfl
theorem bld_65 : bldS Try.prog 65 = some ([(0, 1), (1, 1), (2, 1), (3, 32)], [.int .u64 0, .string ⟨#[]⟩, .int .i64 0, .int .u8 0, .int .u8 0, .int .u8 0, .int .u8 0, .int .u8 0, .int .u8 0, .int .u8 0, .int .u8 0, .int .u8 0, .int .u8 0, .int .u8 0, .int .u8 0, .int .u8 0, .int .u8 0, .int .u8 0, .int .u8 0, .int .u8 0, .int .u8 0, .int .u8 0, .int .u8 0, .int .u8 0, .int .u8 0, .int .u8 0, .int .u8 0, .int .u8 0, .int .u8 0, .int .u8 0, .int .u8 0, .int .u8 0, .int .u8 0, .int .u8 0, .int .u8 0]) := by kernel_rfl
theorem fld_34_0 : fldI Try.prog 34 0 = some (0, false, 1) := by kernel_rfl
theorem fld_34_1 : fldI Try.prog 34 1 = some (1, false, 1) := by kernel_rfl
theorem fld_34_2 : fldI Try.prog 34 2 = some (2, false, 1) := by kernel_rfl
theorem fld_34_3 : fldI Try.prog 34 3 = some (3, true, 32) := by kernel_rfl
theorem fld_38_0 : fldI Try.prog 38 0 = some (0, false, 1) := by kernel_rfl
theorem fld_65_0 : fldI Try.prog 65 0 = some (0, false, 1) := by kernel_rfl
theorem fld_65_1 : fldI Try.prog 65 1 = some (1, false, 1) := by kernel_rfl
theorem fld_65_2 : fldI Try.prog 65 2 = some (2, false, 1) := by kernel_rfl
theorem k_10 : Cal Try.prog 10 := ⟨_, _, Try.func10, by kernel_rfl, rfl⟩
theorem k_28 : Cal Try.prog 28 := ⟨_, _, Try.func28, by kernel_rfl, rfl⟩
theorem k_30 : Cal Try.prog 30 := ⟨_, _, Try.func30, by kernel_rfl, rfl⟩
theorem k_31 : Cal Try.prog 31 := ⟨_, _, Try.func31, by kernel_rfl, rfl⟩
theorem k_32 : Cal Try.prog 32 := ⟨_, _, Try.func32, by kernel_rfl, rfl⟩
theorem k_33 : Cal Try.prog 33 := ⟨_, _, Try.func33, by kernel_rfl, rfl⟩
theorem k_34 : Cal Try.prog 34 := ⟨_, _, Try.func34, by kernel_rfl, rfl⟩
theorem k_35 : Cal Try.prog 35 := ⟨_, _, Try.func35, by kernel_rfl, rfl⟩
theorem k_36 : Cal Try.prog 36 := ⟨_, _, Try.func36, by kernel_rfl, rfl⟩
theorem k_37 : Cal Try.prog 37 := ⟨_, _, Try.func37, by kernel_rfl, rfl⟩
theorem k_38 : Cal Try.prog 38 := ⟨_, _, Try.func38, by kernel_rfl, rfl⟩
theorem k_40 : Cal Try.prog 40 := ⟨_, _, Try.func40, by kernel_rfl, rfl⟩
theorem k_41 : Cal Try.prog 41 := ⟨_, _, Try.func41, by kernel_rfl, rfl⟩
theorem k_42 : Cal Try.prog 42 := ⟨_, _, Try.func42, by kernel_rfl, rfl⟩
theorem sl_23 : slI Try.prog 23 = some (5, 1, 1) := by kernel_rfl
theorem sl_87 : slI Try.prog 87 = some (23, 1, 24) := by kernel_rfl
theorem ty_22 : tyI Try.prog 22 = some (false, 1) := by kernel_rfl
theorem ty_3 : tyI Try.prog 3 = some (false, 1) := by kernel_rfl
theorem ty_32 : tyI Try.prog 32 = some (true, 32) := by kernel_rfl
theorem ty_34 : tyI Try.prog 34 = some (true, 35) := by kernel_rfl
theorem ty_38 : tyI Try.prog 38 = some (true, 2) := by kernel_rfl
theorem ty_65 : tyI Try.prog 65 = some (true, 35) := by kernel_rfl
theorem ty_9 : tyI Try.prog 9 = some (false, 1) := by kernel_rfl
theorem z_34 : zI Try.prog 34 = some [.int .u64 0, .string ⟨#[]⟩, .int .i64 0, .int .u8 0, .int .u8 0, .int .u8 0, .int .u8 0, .int .u8 0, .int .u8 0, .int .u8 0, .int .u8 0, .int .u8 0, .int .u8 0, .int .u8 0, .int .u8 0, .int .u8 0, .int .u8 0, .int .u8 0, .int .u8 0, .int .u8 0, .int .u8 0, .int .u8 0, .int .u8 0, .int .u8 0, .int .u8 0, .int .u8 0, .int .u8 0, .int .u8 0, .int .u8 0, .int .u8 0, .int .u8 0, .int .u8 0, .int .u8 0, .int .u8 0, .int .u8 0] := by kernel_rfl
theorem z_38 : zI Try.prog 38 = some [.int .i64 0, .int .u64 0] := by kernel_rfl
theorem z_5 : zI Try.prog 5 = some [.int .u8 0] := by kernel_rfl
theorem z_65 : zI Try.prog 65 = some [.int .u64 0, .string ⟨#[]⟩, .int .i64 0, .int .u8 0, .int .u8 0, .int .u8 0, .int .u8 0, .int .u8 0, .int .u8 0, .int .u8 0, .int .u8 0, .int .u8 0, .int .u8 0, .int .u8 0, .int .u8 0, .int .u8 0, .int .u8 0, .int .u8 0, .int .u8 0, .int .u8 0, .int .u8 0, .int .u8 0, .int .u8 0, .int .u8 0, .int .u8 0, .int .u8 0, .int .u8 0, .int .u8 0, .int .u8 0, .int .u8 0, .int .u8 0, .int .u8 0, .int .u8 0, .int .u8 0, .int .u8 0] := by kernel_rfl
end Sa
open Sa

theorem CxX.pre {P : Program} {W0 : World} {f : FuncId} {args : Array Value} {H H1 : Hp} {R : Value → Hp → Prop} (hp : H.Perm H1) (h : CxX P W0 f args H1 R) : CxX P W0 f args H R := fun w hS => h w (hS.perm hp)
theorem Sl.via {W0 : World} {H : Hp} {a : Option Addr} {xs : List Value} (h : Sl W0 H a xs) : ∀ H', (∀ w, St W0 w H' → St W0 w H) → Sl W0 H' a xs := fun H' hh => h.of hh
def aX (FF : Nat → Int) : FileM := { id := 3, nm := ⟨#[102]⟩, size := 65, sum := FF, ch := [] }
def aF1 (FF : Nat → Int) : FileM := (fresh (aX FF)).put 1 [0]
def aF2 (FF : Nat → Int) : FileM := (aF1 FF).put 0 (List.replicate 64 0)
def aF3 (FF : Nat → Int) : FileM := (aF2 FF).dmg 1 0 1
theorem good_fresh {X : FileM} {b : List Int} (h : X.size = b.length) : Good (fresh X) b := ⟨h, fun i c hc => by simp [FileM.look, fresh] at hc⟩
theorem aGood (FF : Nat → Int) : Good (aF2 FF) z65 := by
  have h0 : Good (fresh (aX FF)) z65 := good_fresh (by simp [aX])
  have e1 : chunkB z65 1 = [0] := by decide +kernel
  have e0 : chunkB z65 0 = List.replicate 64 0 := by decide +kernel
  have h1 := h0.put 1
  rw [e1] at h1
  have h2 := h1.put 0
  rw [e0] at h2
  exact h2
theorem aLook0 (FF : Nat → Int) : (aF2 FF).look 0 = some ⟨0, List.replicate 64 0, crcOf (List.replicate 64 0)⟩ := by unfold aF2; rw [look_put, if_pos rfl]
theorem aLook1 (FF : Nat → Int) : (aF2 FF).look 1 = some ⟨1, [0], crcOf [0]⟩ := by unfold aF2; rw [look_put, if_neg (by decide)]; unfold aF1; rw [look_put, if_pos rfl]
theorem aWhole2 {FF : Nat → Int} (hF : FF = sumF z65) : (aF2 FF).wholeE = 0 ∧ (aF2 FF).cat = z65 := by
  refine (aGood FF).whole (by simp) hF (fun i hi => ?_)
  have hl : (z65.length : Int) = 65 := by simp
  rw [hl, chunks65] at hi
  rw [(aGood FF).snd]
  match i, hi with
  | 0, _ => rw [show ((0 : Nat) : Int) = 0 from rfl, aLook0]; rfl
  | 1, _ => rw [show ((1 : Nat) : Int) = 1 from rfl, aLook1]; rfl
  | i + 2, hi => omega
theorem aWhole3 (FF : Nat → Int) : (aF3 FF).wholeE = 10 := by
  have hsz : (aF3 FF).size = 65 := by unfold aF3 FileM.dmg; rw [aLook1]; rfl
  refine not_all (i := 1) (by rw [hsz, chunks65]; decide) ?_
  exact dmg_snd (aLook1 FF) rfl (by intro x hx; simp at hx; subst hx; decide) (by decide) (by decide) (by decide)
theorem aId (FF : Nat → Int) : (aF1 FF).id = 3 ∧ (aF2 FF).id = 3 ∧ (aF3 FF).id = 3 ∧ (aF1 FF).size = 65 ∧ (aF2 FF).size = 65 ∧ (aF3 FF).size = 65 := by
  refine ⟨rfl, rfl, ?_, rfl, rfl, ?_⟩ <;> (unfold aF3 FileM.dmg; rw [aLook1]; rfl)
theorem isB_rep (n : Nat) : IsB (List.replicate n 0) := fun x hx => by
  have := (List.mem_replicate.1 hx).2
  subst this; decide

set_option maxRecDepth 100000 in
theorem alive25_c {W0 : World} {H : Hp} : CxD Try.prog W0 30 #[] H (.bool true) H := by
  refine enter Try.func30 rfl Try.ntmps30 rfl ?_
  refine WC.seq ?_
  refine WC.region ?_
  refine WL.p (.none rfl) rfl (OpP.assign rfl) ?_
  refine WL.nil ?_
  refine EQ.sub ((Sub.cons (i := 0) rfl (Sub.nil _))) ?_
  refine EQ.code ?_
  refine WC.seq ?_
  refine WC.region ?_
  refine WL.call rfl (.none rfl) rfl k_37 rfl (sNew_c) ?_
  rintro _ _ ⟨g, ds0, rfl, rfl, hs0⟩
  refine WL.p (.none rfl) rfl (OpP.assign rfl) ?_
  refine WL.nil ?_
  refine EQ.sub ((Sub.cons (i := 0) rfl (Sub.cons (i := 1) rfl (Sub.nil _)))) ?_
  refine EQ.code ?_
  refine WC.seq ?_
  refine WC.region ?_
  refine WL.makeSlice sl_23 z_5 rfl rfl rfl (by first | omega | decide) (by first | omega | decide) (fun b13 => ?_)
  refine WL.buildSlice1 sl_87 rfl rfl (by decide) rfl rfl (by rfl) (fun b14 => ?_)
  refine WL.callD rfl (.none rfl) rfl k_28 rfl (Of_c (a := some ⟨b13, 0, none⟩) (m := 65) (cp := 65) (l := z65) rfl (by decide) (by omega) (Sl.z65 (List.mem_cons_of_mem _ List.mem_cons_self)) (Sl.own List.mem_cons_self (fun j x hj => by simpa using hj))) ?_
  obtain ⟨FF, hFF⟩ : ∃ FF, FF = sumF z65 := ⟨_, rfl⟩
  rw [← hFF]
  refine WL.p (.none rfl) rfl (OpP.buildS (l := infoL (aX FF)) bld_34 (kI rfl (kI rfl (kI rfl (kI rfl kI0)))) (by kernel_rfl)) ?_
  refine WL.allocX z_34 rfl (fun b2 => ?_)
  first | (refine WL.s (.none rfl) rfl (OpS.storeAll rfl rfl ty_34 (by repeat (first | assumption | exact at0 | exact set_hit (by first | assumption | exact set_hit (by assumption)) | apply ats)) (by rfl) (by rfl) (by rfl) (by rfl)) ?_) | (refine WL.s (.none rfl) rfl (OpS.store rfl rfl ty_34 (by repeat (first | assumption | exact at0 | exact set_hit (by first | assumption | exact set_hit (by assumption)) | apply ats)) (by rfl) (by rfl) (by rfl) (by rfl)) ?_)
  refine WL.nil ?_
  refine EQ.sub ((Sub.cons (i := 0) rfl (Sub.cons (i := 1) rfl (Sub.cons (i := 2) rfl (Sub.nil _))))) ?_
  refine EQ.code ?_
  refine WC.seq ?_
  refine WC.region ?_
  refine WL.p (.none rfl) rfl (OpP.move rfl) ?_
  refine WL.p (.none rfl) rfl (OpP.loadB rfl ty_34 (by repeat (first | assumption | exact List.mem_cons_self | exact List.mem_of_getElem? (by assumption) | exact set_mem (by first | assumption | exact set_hit (by assumption)) | apply List.mem_cons_of_mem | apply List.mem_append_right)) (by rfl)) ?_
  refine WL.call rfl (.none rfl) rfl k_38 rfl (CxX.pre (List.perm_append_comm_assoc [_, _, _] ds0 H) (Open2_new (X := aX FF) hs0 (show infoOk 3 ⟨#[102]⟩ 65 = true by decide +kernel) rfl (by decide))) ?_
  rintro _ _ ⟨rfl, ds1, rfl, hs1⟩
  rw [show chunks (aX FF).size = 2 from chunks65]
  refine WL.p (.none rfl) rfl (OpP.move rfl) ?_
  refine WL.p (.none rfl) rfl (OpP.extract rfl rfl) ?_
  refine WL.p (.none rfl) rfl (OpP.extract rfl rfl) ?_
  refine WL.allocX z_38 rfl (fun b3 => ?_)
  first | (refine WL.s (.none rfl) rfl (OpS.storeAll rfl rfl ty_38 (by repeat (first | assumption | exact at0 | exact set_hit (by first | assumption | exact set_hit (by assumption)) | apply ats)) (by rfl) (by rfl) (by rfl) (by rfl)) ?_) | (refine WL.s (.none rfl) rfl (OpS.store rfl rfl ty_38 (by repeat (first | assumption | exact at0 | exact set_hit (by first | assumption | exact set_hit (by assumption)) | apply ats)) (by rfl) (by rfl) (by rfl) (by rfl)) ?_)
  refine WL.p (.none rfl) rfl (OpP.assign rfl) ?_
  refine WL.nil ?_
  refine EQ.sub ((Sub.cons (i := 0) rfl (Sub.cons (i := 1) rfl (Sub.cons (i := 3) rfl (Sub.cons (i := 4) rfl (Sub.nil _)))))) ?_
  refine EQ.code ?_
  refine WC.seq ?_
  refine WC.region ?_
  refine WL.p (.none rfl) rfl (OpP.move rfl) ?_
  refine WL.buildSlice1 sl_23 rfl rfl (by decide) rfl rfl (by rfl) (fun b24 => ?_)
  refine WL.call rfl (.none rfl) rfl k_40 rfl (CxX.pre (List.perm_append_comm_assoc [_, _] ds1 _) (Write_ok (i := 1) (F := fresh (aX FF)) hs1 rfl (by unfold wOk; exact ⟨by decide, by show (1 : Int) < chunks 65; rw [chunks65]; decide, by show ((1 : Nat) : Int) = lengthAt 65 1; decide +kernel⟩) (l := [0]) rfl (isB_rep 1) (Sl.via (Sl.own (List.mem_append_right _ List.mem_cons_self) (fun j x hj => by simpa using hj))))) ?_
  rintro _ _ ⟨rfl, ds2, rfl, hs2⟩
  have hs2 : SR [aF1 FF] g ds2 := by have h9 := hs2; rwa [show fSet ([] ++ [fresh (aX FF)]) ((fresh (aX FF)).put 1 [0]) = [aF1 FF] from fSet_one rfl] at h9
  refine WL.p (.none rfl) rfl (OpP.assign rfl) ?_
  refine WL.nil ?_
  refine EQ.sub ((Sub.cons (i := 0) rfl (Sub.cons (i := 1) rfl (Sub.cons (i := 3) rfl (Sub.cons (i := 4) rfl (Sub.cons (i := 5) rfl (Sub.nil _))))))) ?_
  refine EQ.code ?_
  refine WC.seq ?_
  refine WC.region ?_
  refine WL.p (.none rfl) rfl (OpP.move rfl) ?_
  refine WL.makeSlice sl_23 z_5 rfl rfl rfl (by first | omega | decide) (by first | omega | decide) (fun b27 => ?_)
  refine WL.call rfl (.none rfl) rfl k_40 rfl (CxX.pre (List.perm_append_comm_assoc [_] ds2 _) (Write_ok (i := 0) (F := aF1 FF) hs2 rfl (by unfold wOk; exact ⟨by decide, by show (0 : Int) < chunks 65; rw [chunks65]; decide, by show ((64 : Nat) : Int) = lengthAt 65 0; decide +kernel⟩) (l := List.replicate 64 0) (by simp) (isB_rep 64) (Sl.via (Sl.own (List.mem_append_right _ List.mem_cons_self) (fun j x hj => by simpa using hj))))) ?_
  rintro _ _ ⟨rfl, ds3, rfl, hs3⟩
  have hs3 : SR [aF2 FF] g ds3 := by have h9 := hs3; rwa [show fSet [aF1 FF] ((aF1 FF).put 0 (List.replicate 64 0)) = [aF2 FF] from fSet_one rfl] at h9
  refine WL.p (.none rfl) rfl (OpP.assign rfl) ?_
  refine WL.nil ?_
  refine EQ.sub ((Sub.cons (i := 0) rfl (Sub.cons (i := 1) rfl (Sub.cons (i := 3) rfl (Sub.cons (i := 4) rfl (Sub.cons (i := 5) rfl (Sub.cons (i := 6) rfl (Sub.nil _)))))))) ?_
  refine EQ.code ?_
  refine WC.seq ?_
  refine WC.region ?_
  refine WL.p (.none rfl) rfl (OpP.move rfl) ?_
  refine WL.call rfl (.none rfl) rfl k_41 rfl (Whole2_c hs3 (fFind_one (aId FF).2.1)) ?_
  rintro _ _ ⟨wa, wn, wc, d5, rfl, rfl, hw1, _⟩
  obtain ⟨hw2, _⟩ := hw1 (aWhole2 hFF).1
  rw [(aWhole2 hFF).2] at hw2
  obtain rfl : wn = 65 := hw2
  rw [(aWhole2 hFF).1]
  refine WL.p (.none rfl) rfl (OpP.move rfl) ?_
  refine WL.p (.none rfl) rfl (OpP.extract rfl rfl) ?_
  refine WL.p (.none rfl) rfl (OpP.extract rfl rfl) ?_
  refine WL.p (.none rfl) rfl (OpP.assign rfl) ?_
  refine WL.p (.none rfl) rfl (OpP.assign rfl) ?_
  refine WL.nil ?_
  refine EQ.sub ((Sub.cons (i := 0) rfl (Sub.cons (i := 1) rfl (Sub.cons (i := 3) rfl (Sub.cons (i := 4) rfl (Sub.cons (i := 5) rfl (Sub.cons (i := 6) rfl (Sub.cons (i := 7) rfl (Sub.cons (i := 8) rfl (Sub.nil _)))))))))) ?_
  refine EQ.code ?_
  refine WC.seq ?_
  refine WC.region ?_
  refine WL.p (.none rfl) rfl (OpP.move rfl) ?_
  refine WL.call rfl (.none rfl) rfl k_42 rfl (CxX.pre (List.perm_append_comm_assoc d5 ds3 _) (Damage_ok (i := 1) (j := 0) (b := 1) (F := aF2 FF) hs3 (fFind_one (aId FF).2.1) (aLook1 FF) (by decide) (by decide))) ?_
  rintro _ _ ⟨rfl, ds4, rfl, hs4⟩
  have hs4 : SR [aF3 FF] g ds4 := by have h9 := hs4; rwa [show fSet [aF2 FF] ((aF2 FF).dmg 1 0 1) = [aF3 FF] from fSet_one (aId FF).2.2.1.symm] at h9
  refine WL.p (.none rfl) rfl (OpP.assign rfl) ?_
  refine WL.nil ?_
  refine EQ.sub ((Sub.cons (i := 0) rfl (Sub.cons (i := 1) rfl (Sub.cons (i := 3) rfl (Sub.cons (i := 4) rfl (Sub.cons (i := 5) rfl (Sub.cons (i := 6) rfl (Sub.cons (i := 7) rfl (Sub.cons (i := 8) rfl (Sub.cons (i := 9) rfl (Sub.nil _))))))))))) ?_
  refine EQ.code ?_
  refine WC.seq ?_
  refine WC.region ?_
  refine WL.p (.none rfl) rfl (OpP.move rfl) ?_
  refine WL.call rfl (.none rfl) rfl k_41 rfl (Whole2_c hs4 (fFind_one (aId FF).2.2.1)) ?_
  rintro _ _ ⟨wa2, wn2, wc2, d6, rfl, rfl, _, _⟩
  rw [aWhole3 FF]
  refine WL.p (.none rfl) rfl (OpP.move rfl) ?_
  refine WL.p (.none rfl) rfl (OpP.extract rfl rfl) ?_
  refine WL.p (.none rfl) rfl (OpP.extract rfl rfl) ?_
  refine WL.p (.none rfl) rfl (OpP.assign rfl) ?_
  refine WL.p (.none rfl) rfl (OpP.assign rfl) ?_
  refine WL.nil ?_
  refine EQ.sub ((Sub.cons (i := 0) rfl (Sub.cons (i := 1) rfl (Sub.cons (i := 3) rfl (Sub.cons (i := 4) rfl (Sub.cons (i := 5) rfl (Sub.cons (i := 6) rfl (Sub.cons (i := 7) rfl (Sub.cons (i := 8) rfl (Sub.cons (i := 9) rfl (Sub.cons (i := 11) rfl (Sub.nil _)))))))))))) ?_
  refine EQ.code ?_
  refine WC.seq ?_
  refine WC.region ?_
  refine WL.p (.none rfl) rfl (OpP.move rfl) ?_
  refine WL.p (.none rfl) rfl (OpP.eqlI rfl rfl) ?_
  refine WL.p (.none rfl) rfl (OpP.move rfl) ?_
  refine WL.p (.yes rfl rfl rfl) rfl (OpP.fieldAddr rfl fld_38_0) ?_
  refine WL.p (.yes rfl rfl rfl) rfl (OpP.load rfl ty_3 (Rd.own (by repeat (first | assumption | exact List.mem_cons_self | exact List.mem_of_getElem? (by assumption) | exact set_mem (by first | assumption | exact set_hit (by assumption)) | apply List.mem_cons_of_mem | apply List.mem_append_right)) (by rfl))) ?_
  refine WL.p (.yes rfl rfl rfl) rfl (OpP.eqlI rfl rfl) ?_
  refine WL.p (.none rfl) rfl (OpP.pand rfl rfl rfl) ?_
  refine WL.p (.none rfl) rfl (OpP.move rfl) ?_
  refine WL.p (.yes rfl rfl rfl) rfl (OpP.move rfl) ?_
  refine WL.p (.yes rfl rfl rfl) rfl (OpP.eqlI rfl rfl) ?_
  refine WL.p (.none rfl) rfl (OpP.pand rfl rfl rfl) ?_
  refine WL.p (.none rfl) rfl (OpP.move rfl) ?_
  refine WL.p (.yes rfl rfl rfl) rfl (OpP.move rfl) ?_
  refine WL.p (.yes rfl rfl rfl) rfl (OpP.eqlI rfl rfl) ?_
  refine WL.p (.none rfl) rfl (OpP.pand rfl rfl rfl) ?_
  refine WL.p (.none rfl) rfl (OpP.move rfl) ?_
  refine WL.p (.yes rfl rfl rfl) rfl (OpP.move rfl) ?_
  refine WL.p (.yes rfl rfl rfl) rfl (OpP.eqlI rfl rfl) ?_
  refine WL.p (.none rfl) rfl (OpP.pand rfl rfl rfl) ?_
  refine WL.p (.none rfl) rfl (OpP.move rfl) ?_
  refine WL.p (.yes rfl rfl rfl) rfl (OpP.move rfl) ?_
  refine WL.p (.yes rfl rfl rfl) rfl (OpP.lenSl rfl Try.underlying23) ?_
  refine WL.p (.yes rfl rfl rfl) rfl (OpP.eqlI rfl rfl) ?_
  refine WL.p (.none rfl) rfl (OpP.pand rfl rfl rfl) ?_
  refine WL.p (.none rfl) rfl (OpP.move rfl) ?_
  refine WL.p (.yes rfl rfl rfl) rfl (OpP.move rfl) ?_
  refine WL.p (.yes rfl rfl rfl) rfl (OpP.eqlI rfl rfl) ?_
  refine WL.p (.none rfl) rfl (OpP.pand rfl rfl rfl) ?_
  refine WL.p (.none rfl) rfl (OpP.move rfl) ?_
  refine WL.p (.yes rfl rfl rfl) rfl (OpP.move rfl) ?_
  refine WL.p (.yes rfl rfl rfl) rfl (OpP.eqlI rfl rfl) ?_
  refine WL.p (.none rfl) rfl (OpP.pand rfl rfl rfl) ?_
  refine WL.p (.none rfl) rfl (OpP.move rfl) ?_
  refine WL.p (.yes rfl rfl rfl) rfl (OpP.move rfl) ?_
  refine WL.callD rfl (.yes rfl rfl rfl) rfl k_40 rfl (CxD.perm (List.perm_append_comm_assoc d6 ds4 _) (Write_no (i := 1) (F := aF3 FF) (l := []) hs4 (fFind_one (aId FF).2.2.1) (by unfold wOk; rw [(aId FF).2.2.2.2.2]; rintro ⟨_, _, h3⟩; exact absurd h3 (by decide +kernel)) rfl (by decide) IsB.nil (fun H hh => Sl.nil _))) ?_
  refine WL.p (.yes rfl rfl rfl) rfl (OpP.eqlI rfl rfl) ?_
  refine WL.p (.none rfl) rfl (OpP.pand rfl rfl rfl) ?_
  refine WL.p (.none rfl) rfl (OpP.move rfl) ?_
  refine WL.callD rfl (.yes rfl rfl rfl) rfl k_34 rfl (CxD.to (Chunks_c (n := 100)) (show _ = .int .i64 2 by rw [show chunks 100 = 2 by decide +kernel]) rfl) ?_
  refine WL.p (.yes rfl rfl rfl) rfl (OpP.eqlI rfl rfl) ?_
  refine WL.p (.none rfl) rfl (OpP.pand rfl rfl rfl) ?_
  refine WL.p (.none rfl) rfl (OpP.assign rfl) ?_
  refine WL.nil ?_
  refine EQ.sub ((Sub.cons (i := 0) rfl (Sub.nil _))) ?_
  refine EQ.code ?_
  refine WC.ret ?_
  refine EQ.finD (H' := H) (res1 rfl (.tmp rfl)) (by intro _ h; exact h.sublist (by repeat (first | exact List.Sublist.refl _ | exact List.sublist_append_right _ _ | apply List.Sublist.cons | refine List.Sublist.trans ?_ (List.sublist_append_right _ _)))) ?_
  exact ⟨rfl, rfl⟩

set_option maxRecDepth 100000 in
theorem As25_c {W0 : World} {H : Hp} {X : FileM} : CxD Try.prog W0 33 #[.agg ⟨infoL X⟩] H (.agg ⟨infoL X⟩) H := by
  refine enter Try.func33 rfl Try.ntmps33 rfl ?_
  refine WC.seq ?_
  refine WC.region ?_
  refine WL.box rfl rfl rfl (fun b1 => ?_)
  refine WL.allocX z_65 rfl (fun b2 => ?_)
  refine WL.nil ?_
  refine EQ.sub ((Sub.cons (i := 1) rfl (Sub.cons (i := 2) rfl (Sub.nil _)))) ?_
  refine EQ.code ?_
  refine WC.seq ?_
  refine WC.region ?_
  refine WL.p (.none rfl) rfl (OpP.fieldAddr rfl fld_34_0) ?_
  refine WL.p (.none rfl) rfl (OpP.load rfl ty_22 (Rd.own (by repeat (first | assumption | exact List.mem_cons_self | exact List.mem_of_getElem? (by assumption) | exact set_mem (by first | assumption | exact set_hit (by assumption)) | apply List.mem_cons_of_mem | apply List.mem_append_right)) (by rfl))) ?_
  refine WL.p (.none rfl) rfl (OpP.fieldAddr rfl fld_34_1) ?_
  refine WL.p (.none rfl) rfl (OpP.load rfl ty_9 (Rd.own (by repeat (first | assumption | exact List.mem_cons_self | exact List.mem_of_getElem? (by assumption) | exact set_mem (by first | assumption | exact set_hit (by assumption)) | apply List.mem_cons_of_mem | apply List.mem_append_right)) (by rfl))) ?_
  refine WL.p (.none rfl) rfl (OpP.fieldAddr rfl fld_34_2) ?_
  refine WL.p (.none rfl) rfl (OpP.load rfl ty_3 (Rd.own (by repeat (first | assumption | exact List.mem_cons_self | exact List.mem_of_getElem? (by assumption) | exact set_mem (by first | assumption | exact set_hit (by assumption)) | apply List.mem_cons_of_mem | apply List.mem_append_right)) (by rfl))) ?_
  refine WL.p (.none rfl) rfl (OpP.fieldAddr rfl fld_34_3) ?_
  refine WL.p (.none rfl) rfl (OpP.loadB rfl ty_32 (by repeat (first | assumption | exact List.mem_cons_self | exact List.mem_of_getElem? (by assumption) | exact set_mem (by first | assumption | exact set_hit (by assumption)) | apply List.mem_cons_of_mem | apply List.mem_append_right)) (by rfl)) ?_
  refine WL.p (.none rfl) rfl (OpP.buildS (l := infoL X) bld_65 (kI rfl (kI rfl (kI rfl (kI rfl kI0)))) (by kernel_rfl)) ?_
  first | (refine WL.s (.none rfl) rfl (OpS.storeAll rfl rfl ty_65 (by repeat (first | assumption | exact at0 | exact set_hit (by first | assumption | exact set_hit (by assumption)) | apply ats)) (by rfl) (by rfl) (by rfl) (by rfl)) ?_) | (refine WL.s (.none rfl) rfl (OpS.store rfl rfl ty_65 (by repeat (first | assumption | exact at0 | exact set_hit (by first | assumption | exact set_hit (by assumption)) | apply ats)) (by rfl) (by rfl) (by rfl) (by rfl)) ?_)
  refine WL.nil ?_
  refine EQ.sub ((Sub.cons (i := 2) rfl (Sub.nil _))) ?_
  refine EQ.code ?_
  refine WC.ret ?_
  refine EQ.finD (H' := H) (res1 rfl (.cellB rfl ty_65 (by repeat (first | assumption | exact List.mem_cons_self | exact List.mem_of_getElem? (by assumption) | exact set_mem (by first | assumption | exact set_hit (by assumption)) | apply List.mem_cons_of_mem | apply List.mem_append_right)) (by rfl))) (by intro _ h; first | exact h | exact h.drop | exact h.drop.drop | exact h.drop.drop.drop | exact h.drop.drop.drop.drop | exact h.drop.drop.drop.drop.drop | exact h.drop.drop.drop.drop.drop.drop | exact h.drop_mid) ?_
  exact ⟨rfl, rfl⟩

set_option maxRecDepth 100000 in
theorem rRight25_c {W0 : World} {H : Hp} {X : FileM} : CxD Try.prog W0 32 #[.agg ⟨infoL X⟩] H (.bool (infoOk X.id X.nm X.size)) H := by
  refine enter Try.func32 rfl Try.ntmps32 rfl ?_
  refine WC.seq ?_
  refine WC.region ?_
  refine WL.box rfl rfl rfl (fun b1 => ?_)
  refine WL.p (.none rfl) rfl (OpP.assign rfl) ?_
  refine WL.nil ?_
  refine EQ.sub ((Sub.cons (i := 1) rfl (Sub.cons (i := 2) rfl (Sub.nil _)))) ?_
  refine EQ.code ?_
  refine WC.seq ?_
  refine WC.region ?_
  refine WL.p (.none rfl) rfl (OpP.fieldAddr rfl fld_65_0) ?_
  refine WL.p (.none rfl) rfl (OpP.load rfl ty_22 (Rd.own (by repeat (first | assumption | exact List.mem_cons_self | exact List.mem_of_getElem? (by assumption) | exact set_mem (by first | assumption | exact set_hit (by assumption)) | apply List.mem_cons_of_mem | apply List.mem_append_right)) (by rfl))) ?_
  refine WL.p (.none rfl) rfl (OpP.gtr rfl rfl) ?_
  refine WL.p (.none rfl) rfl (OpP.move rfl) ?_
  refine WL.g (.bool rfl rfl rfl) rfl (fun hg => OpP.fieldAddr rfl fld_65_0) ?_
  refine WL.g (.bool rfl rfl rfl) rfl (fun hg => OpP.load (gk hg rfl) ty_22 (Rd.own (by repeat (first | assumption | exact List.mem_cons_self | exact List.mem_of_getElem? (by assumption) | exact set_mem (by first | assumption | exact set_hit (by assumption)) | apply List.mem_cons_of_mem | apply List.mem_append_right)) (by rfl))) ?_
  refine WL.g (.bool rfl rfl rfl) rfl (fun hg => OpP.leq (gk hg rfl) rfl) ?_
  refine WL.p (.none rfl) rfl (OpP.pand rfl rfl rfl) ?_
  refine WL.p (.none rfl) rfl (OpP.move rfl) ?_
  refine WL.g (.bool rfl rfl rfl) rfl (fun hg => OpP.fieldAddr rfl fld_65_1) ?_
  refine WL.g (.bool rfl rfl rfl) rfl (fun hg => OpP.load (gk hg rfl) ty_9 (Rd.own (by repeat (first | assumption | exact List.mem_cons_self | exact List.mem_of_getElem? (by assumption) | exact set_mem (by first | assumption | exact set_hit (by assumption)) | apply List.mem_cons_of_mem | apply List.mem_append_right)) (by rfl))) ?_
  refine WL.g (.bool rfl rfl rfl) rfl (fun hg => OpP.lenStr (gk hg rfl) Try.underlying9) ?_
  refine WL.g (.bool rfl rfl rfl) rfl (fun hg => OpP.gtr (gk hg rfl) rfl) ?_
  refine WL.p (.none rfl) rfl (OpP.pand rfl rfl rfl) ?_
  refine WL.p (.none rfl) rfl (OpP.move rfl) ?_
  refine WL.g (.bool rfl rfl rfl) rfl (fun hg => OpP.fieldAddr rfl fld_65_1) ?_
  refine WL.g (.bool rfl rfl rfl) rfl (fun hg => OpP.load (gk hg rfl) ty_9 (Rd.own (by repeat (first | assumption | exact List.mem_cons_self | exact List.mem_of_getElem? (by assumption) | exact set_mem (by first | assumption | exact set_hit (by assumption)) | apply List.mem_cons_of_mem | apply List.mem_append_right)) (by rfl))) ?_
  refine WL.g (.bool rfl rfl rfl) rfl (fun hg => OpP.lenStr (gk hg rfl) Try.underlying9) ?_
  refine WL.g (.bool rfl rfl rfl) rfl (fun hg => OpP.lss (gk hg rfl) rfl) ?_
  refine WL.p (.none rfl) rfl (OpP.pand rfl rfl rfl) ?_
  refine WL.p (.none rfl) rfl (OpP.move rfl) ?_
  refine WL.g (.bool rfl rfl rfl) rfl (fun hg => OpP.fieldAddr rfl fld_65_2) ?_
  refine WL.g (.bool rfl rfl rfl) rfl (fun hg => OpP.load (gk hg rfl) ty_3 (Rd.own (by repeat (first | assumption | exact List.mem_cons_self | exact List.mem_of_getElem? (by assumption) | exact set_mem (by first | assumption | exact set_hit (by assumption)) | apply List.mem_cons_of_mem | apply List.mem_append_right)) (by rfl))) ?_
  refine WL.g (.bool rfl rfl rfl) rfl (fun hg => OpP.geq (gk hg rfl) rfl) ?_
  refine WL.p (.none rfl) rfl (OpP.pand rfl rfl rfl) ?_
  refine WL.p (.none rfl) rfl (OpP.move rfl) ?_
  refine WL.g (.bool rfl rfl rfl) rfl (fun hg => OpP.fieldAddr rfl fld_65_2) ?_
  refine WL.g (.bool rfl rfl rfl) rfl (fun hg => OpP.load (gk hg rfl) ty_3 (Rd.own (by repeat (first | assumption | exact List.mem_cons_self | exact List.mem_of_getElem? (by assumption) | exact set_mem (by first | assumption | exact set_hit (by assumption)) | apply List.mem_cons_of_mem | apply List.mem_append_right)) (by rfl))) ?_
  refine WL.g (.bool rfl rfl rfl) rfl (fun hg => OpP.leq (gk hg rfl) rfl) ?_
  refine WL.p (.none rfl) rfl (OpP.pand rfl rfl rfl) ?_
  refine WL.p (.none rfl) rfl (OpP.assign rfl) ?_
  refine WL.nil ?_
  refine EQ.sub ((Sub.cons (i := 2) rfl (Sub.nil _))) ?_
  refine EQ.code ?_
  refine WC.ret ?_
  refine EQ.finD (H' := H) (res1 rfl (.tmp rfl)) (by intro _ h; first | exact h | exact h.drop | exact h.drop.drop | exact h.drop.drop.drop | exact h.drop.drop.drop.drop | exact h.drop.drop.drop.drop.drop | exact h.drop.drop.drop.drop.drop.drop | exact h.drop_mid) ?_
  refine ⟨congrArg Value.bool ?_, rfl⟩
  unfold infoOk
  rw [Bool.eq_iff_iff]
  simp only [Bool.and_eq_true, decide_eq_true_eq]
  omega

set_option maxRecDepth 100000 in
theorem Length_any {W0 : World} {H : Hp} {n i : Int} : CxD Try.prog W0 35 #[.int .i64 n, .int .i64 i] H (.int .i64 (lengthAt n i)) H := by
  have hch := chunks_bd n
  have hch2 : chunks n ≠ 0 → 0 ≤ n ∧ n ≤ 4096 := by unfold chunks; split <;> omega
  refine enter Try.func35 rfl Try.ntmps35 rfl ?_
  refine WC.seq ?_
  refine WC.region ?_
  refine WL.p (.none rfl) rfl (OpP.assign rfl) ?_
  refine WL.nil ?_
  refine EQ.sub ((Sub.cons (i := 0) rfl (Sub.cons (i := 1) rfl (Sub.cons (i := 4) rfl (Sub.nil _))))) ?_
  refine EQ.code ?_
  refine WC.seq ?_
  refine WC.seq ?_
  refine WC.region ?_
  refine WL.p (.none rfl) rfl (OpP.move rfl) ?_
  refine WL.p (.none rfl) rfl (OpP.lss rfl rfl) ?_
  refine WL.p (.none rfl) rfl (OpP.move rfl) ?_
  refine WL.g (.bool rfl rfl rfl) rfl (fun hg => OpP.move rfl) ?_
  refine WL.g (.bool rfl rfl rfl) rfl (fun hg => OpP.move rfl) ?_
  refine WL.gcall rfl (.bool rfl rfl rfl) rfl k_34 (fun hg => kops1 (gk hg rfl)) (fun hg => Chunks_c) ?_
  refine WL.g (.bool rfl rfl rfl) rfl (fun hg => OpP.geq (gk hg rfl) (gk hg rfl)) ?_
  refine WL.p (.none rfl) rfl (OpP.por rfl rfl rfl) ?_
  refine WL.nil ?_
  refine EQ.sub ((Sub.cons (i := 0) rfl (Sub.cons (i := 1) rfl (Sub.cons (i := 4) rfl (Sub.cons (i := 12) rfl (Sub.nil _)))))) ?_
  refine EQ.code ?_
  refine WC.cond rfl (fun hc0 => ?_) (fun hc0 => ?_)
  · -- cond 0 t
    (try simp only [decide_eq_true_eq, decide_eq_false_iff_not, Bool.not_eq_true', Bool.not_eq_false', Bool.or_eq_true, Bool.and_eq_true, Bool.or_eq_false_iff, Bool.and_eq_false_imp, Option.isNone_some, Bool.false_eq_true, false_or, true_and] at hc0)
    refine WC.seq ?_
    refine WC.region ?_
    refine WL.p (.none rfl) rfl (OpP.assign rfl) ?_
    refine WL.nil ?_
    refine EQ.sub ((Sub.cons (i := 0) rfl (Sub.cons (i := 1) rfl (Sub.cons (i := 4) rfl (Sub.nil _))))) ?_
    refine EQ.code ?_
    refine WC.ret ?_
    refine EQ.thenR ?_
    refine EQ.fin (res1 rfl (.tmp rfl)) ?_
    exact ⟨by unfold lengthAt; rw [if_neg (by omega)], rfl⟩
  · -- cond 0 f
    (try simp only [decide_eq_true_eq, decide_eq_false_iff_not, Bool.not_eq_true', Bool.not_eq_false', Bool.or_eq_true, Bool.and_eq_true, Bool.or_eq_false_iff, Bool.and_eq_false_imp, Option.isNone_some, Bool.false_eq_true, false_or, true_and] at hc0)
    refine WC.skip ?_
    refine EQ.code ?_
    refine WC.seq ?_
    refine WC.region ?_
    refine WL.p (.none rfl) rfl (OpP.move rfl) ?_
    refine WL.p (.none rfl) rfl (OpP.move rfl) ?_
    first | (refine WL.p (.none rfl) rfl (OpP.mul64 rfl rfl (by omega)) ?_) | (refine WL.p (.none rfl) rfl (OpP.mul rfl rfl) ?_)
    first | (refine WL.p (.none rfl) rfl (OpP.sub64 rfl rfl (by omega)) ?_) | (refine WL.p (.none rfl) rfl (OpP.sub rfl rfl) ?_)
    refine WL.p (.none rfl) rfl (OpP.min2 rfl rfl) ?_
    refine WL.p (.none rfl) rfl (OpP.assign rfl) ?_
    refine WL.nil ?_
    refine EQ.sub ((Sub.cons (i := 4) rfl (Sub.nil _))) ?_
    refine EQ.code ?_
    refine WC.ret ?_
    refine EQ.fin (res1 rfl (.tmp rfl)) ?_
    exact ⟨by unfold lengthAt; rw [if_pos (by omega)], rfl⟩

set_option maxRecDepth 100000 in
theorem StoreSizes_c {W0 : World} {H : Hp} {X : FileM} {i : Int} (hi1 : -9223372036854775808 ≤ i) (hi2 : i ≤ 9223372036854775807) (hs1 : -9223372036854775808 ≤ X.size) (hs2 : X.size ≤ 9223372036854775807) : CxD Try.prog W0 5 #[.agg ⟨infoL X⟩, .int .i64 i] H (.bool true) H := by
  refine enter Try.func5 rfl Try.ntmps5 rfl ?_
  refine WC.seq ?_
  refine WC.region ?_
  refine WL.box rfl rfl rfl (fun b2 => ?_)
  refine WL.p (.none rfl) rfl (OpP.assign rfl) ?_
  refine WL.nil ?_
  refine EQ.sub ((Sub.cons (i := 1) rfl (Sub.cons (i := 2) rfl (Sub.cons (i := 4) rfl (Sub.nil _))))) ?_
  refine EQ.code ?_
  refine WC.seq ?_
  refine WC.seq ?_
  refine WC.region ?_
  refine WL.p (.none rfl) rfl (OpP.fieldAddr rfl fld_34_1) ?_
  refine WL.p (.none rfl) rfl (OpP.load rfl ty_9 (Rd.own (by repeat (first | assumption | exact List.mem_cons_self | exact List.mem_of_getElem? (by assumption) | exact set_mem (by first | assumption | exact set_hit (by assumption)) | apply List.mem_cons_of_mem | apply List.mem_append_right)) (by rfl))) ?_
  refine WL.p (.none rfl) rfl (OpP.lenStr rfl Try.underlying9) ?_
  refine WL.p (.none rfl) rfl (OpP.gtr rfl rfl) ?_
  refine WL.nil ?_
  refine EQ.sub ((Sub.cons (i := 1) rfl (Sub.cons (i := 2) rfl (Sub.cons (i := 4) rfl (Sub.cons (i := 9) rfl (Sub.nil _)))))) ?_
  refine EQ.code ?_
  refine WC.cond rfl (fun hc0 => ?_) (fun hc0 => ?_)
  · -- cond 0 t
    (try simp only [decide_eq_true_eq, decide_eq_false_iff_not, Bool.not_eq_true', Bool.not_eq_false', Bool.or_eq_true, Bool.and_eq_true, Bool.or_eq_false_iff, Bool.and_eq_false_imp, Option.isNone_some, Bool.false_eq_true, false_or, true_and] at hc0)
    refine WC.seq ?_
    refine WC.region ?_
    refine WL.callD rfl (.none rfl) rfl k_30 rfl (alive25_c) ?_
    refine WL.p (.none rfl) rfl (OpP.assign rfl) ?_
    refine WL.nil ?_
    refine EQ.sub ((Sub.cons (i := 1) rfl (Sub.cons (i := 2) rfl (Sub.cons (i := 4) rfl (Sub.nil _))))) ?_
    refine EQ.code ?_
    refine WC.ret ?_
    refine EQ.thenR ?_
    refine EQ.finD (H' := H) (res1 rfl (.tmp rfl)) (by intro _ h; first | exact h | exact h.drop | exact h.drop.drop | exact h.drop.drop.drop | exact h.drop.drop.drop.drop | exact h.drop.drop.drop.drop.drop | exact h.drop.drop.drop.drop.drop.drop | exact h.drop_mid) ?_
    exact ⟨rfl, rfl⟩
  · -- cond 0 f
    (try simp only [decide_eq_true_eq, decide_eq_false_iff_not, Bool.not_eq_true', Bool.not_eq_false', Bool.or_eq_true, Bool.and_eq_true, Bool.or_eq_false_iff, Bool.and_eq_false_imp, Option.isNone_some, Bool.false_eq_true, false_or, true_and] at hc0)
    refine WC.skip ?_
    refine EQ.code ?_
    refine WC.seq ?_
    refine WC.region ?_
    refine WL.p (.none rfl) rfl (OpP.assign rfl) ?_
    refine WL.nil ?_
    refine EQ.sub ((Sub.cons (i := 1) rfl (Sub.cons (i := 2) rfl (Sub.cons (i := 4) rfl (Sub.cons (i := 5) rfl (Sub.nil _)))))) ?_
    refine EQ.code ?_
    refine WC.seq ?_
    refine WC.seq ?_
    refine WC.region ?_
    refine WL.p (.none rfl) rfl (OpP.fieldAddr rfl fld_34_2) ?_
    refine WL.p (.none rfl) rfl (OpP.load rfl ty_3 (Rd.own (by repeat (first | assumption | exact List.mem_cons_self | exact List.mem_of_getElem? (by assumption) | exact set_mem (by first | assumption | exact set_hit (by assumption)) | apply List.mem_cons_of_mem | apply List.mem_append_right)) (by rfl))) ?_
    refine WL.p (.none rfl) rfl (OpP.geq rfl rfl) ?_
    refine WL.p (.none rfl) rfl (OpP.move rfl) ?_
    refine WL.g (.bool rfl rfl rfl) rfl (fun hg => OpP.fieldAddr rfl fld_34_2) ?_
    refine WL.g (.bool rfl rfl rfl) rfl (fun hg => OpP.load (gk hg rfl) ty_3 (Rd.own (by repeat (first | assumption | exact List.mem_cons_self | exact List.mem_of_getElem? (by assumption) | exact set_mem (by first | assumption | exact set_hit (by assumption)) | apply List.mem_cons_of_mem | apply List.mem_append_right)) (by rfl))) ?_
    refine WL.g (.bool rfl rfl rfl) rfl (fun hg => OpP.leq (gk hg rfl) rfl) ?_
    refine WL.p (.none rfl) rfl (OpP.pand rfl rfl rfl) ?_
    refine WL.nil ?_
    refine EQ.sub ((Sub.cons (i := 1) rfl (Sub.cons (i := 2) rfl (Sub.cons (i := 4) rfl (Sub.cons (i := 5) rfl (Sub.cons (i := 18) rfl (Sub.nil _))))))) ?_
    refine EQ.code ?_
    refine WC.cond rfl (fun hc1 => ?_) (fun hc1 => ?_)
    · -- cond 1 t
      (try simp only [decide_eq_true_eq, decide_eq_false_iff_not, Bool.not_eq_true', Bool.not_eq_false', Bool.or_eq_true, Bool.and_eq_true, Bool.or_eq_false_iff, Bool.and_eq_false_imp, Option.isNone_some, Bool.false_eq_true, false_or, true_and] at hc1)
      refine WC.region ?_
      refine WL.p (.none rfl) rfl (OpP.fieldAddr rfl fld_34_2) ?_
      refine WL.p (.none rfl) rfl (OpP.load rfl ty_3 (Rd.own (by repeat (first | assumption | exact List.mem_cons_self | exact List.mem_of_getElem? (by assumption) | exact set_mem (by first | assumption | exact set_hit (by assumption)) | apply List.mem_cons_of_mem | apply List.mem_append_right)) (by rfl))) ?_
      refine WL.callD rfl (.none rfl) rfl k_31 rfl (rChunks_c) ?_
      refine WL.p (.none rfl) rfl (OpP.assign rfl) ?_
      refine WL.nil ?_
      refine EQ.sub ((Sub.cons (i := 1) rfl (Sub.cons (i := 2) rfl (Sub.cons (i := 4) rfl (Sub.cons (i := 5) rfl (Sub.nil _)))))) ?_
      refine EQ.code ?_
      refine WC.seq ?_
      refine WC.draw (by kernel_rfl) (by kernel_rfl) ?_
      refine WQ.callD rfl (.none rfl) rfl k_30 rfl (alive25_c) ?_
      refine WQ.p (.none rfl) rfl (OpP.move rfl) ?_
      refine WQ.p (.yes rfl rfl rfl) rfl (OpP.loadB rfl ty_34 (by repeat (first | assumption | exact List.mem_cons_self | exact List.mem_of_getElem? (by assumption) | exact set_mem (by first | assumption | exact set_hit (by assumption)) | apply List.mem_cons_of_mem | apply List.mem_append_right)) (by rfl)) ?_
      refine WQ.callD rfl (.yes rfl rfl rfl) rfl k_10 rfl (StRight_c (id := X.id) (n := X.size) (nm := X.nm) (s := X.sum)) ?_
      refine WQ.p (.yes rfl rfl rfl) rfl (OpP.loadB rfl ty_34 (by repeat (first | assumption | exact List.mem_cons_self | exact List.mem_of_getElem? (by assumption) | exact set_mem (by first | assumption | exact set_hit (by assumption)) | apply List.mem_cons_of_mem | apply List.mem_append_right)) (by rfl)) ?_
      refine WQ.callD rfl (.yes rfl rfl rfl) rfl k_33 rfl (As25_c) ?_
      refine WQ.callD rfl (.yes rfl rfl rfl) rfl k_32 rfl (rRight25_c) ?_
      refine WQ.p (.yes rfl rfl rfl) rfl (OpP.eqlB rfl rfl Try.underlying4) ?_
      refine WQ.p (.none rfl) rfl (OpP.pand rfl rfl rfl) ?_
      refine WQ.p (.none rfl) rfl (OpP.move rfl) ?_
      refine WQ.g (.bool rfl rfl rfl) rfl (fun hg => OpP.fieldAddr rfl fld_34_2) ?_
      refine WQ.g (.bool rfl rfl rfl) rfl (fun hg => OpP.load (gk hg rfl) ty_3 (Rd.own (by repeat (first | assumption | exact List.mem_cons_self | exact List.mem_of_getElem? (by assumption) | exact set_mem (by first | assumption | exact set_hit (by assumption)) | apply List.mem_cons_of_mem | apply List.mem_append_right)) (by rfl))) ?_
      refine WQ.gcall rfl (.bool rfl rfl rfl) rfl k_34 (fun hg => kops1 (gk hg rfl)) (fun hg => Chunks_c) ?_
      refine WQ.g (.bool rfl rfl rfl) rfl (fun hg => OpP.move rfl) ?_
      refine WQ.g (.bool rfl rfl rfl) rfl (fun hg => OpP.eqlI (gk hg rfl) (gk hg rfl)) ?_
      refine WQ.p (.none rfl) rfl (OpP.pand rfl rfl rfl) ?_
      refine WQ.p (.none rfl) rfl (OpP.move rfl) ?_
      refine WQ.g (.bool rfl rfl rfl) rfl (fun hg => OpP.fieldAddr rfl fld_34_2) ?_
      refine WQ.g (.bool rfl rfl rfl) rfl (fun hg => OpP.load (gk hg rfl) ty_3 (Rd.own (by repeat (first | assumption | exact List.mem_cons_self | exact List.mem_of_getElem? (by assumption) | exact set_mem (by first | assumption | exact set_hit (by assumption)) | apply List.mem_cons_of_mem | apply List.mem_append_right)) (by rfl))) ?_
      refine WQ.g (.bool rfl rfl rfl) rfl (fun hg => OpP.move rfl) ?_
      refine WQ.gcall rfl (.bool rfl rfl rfl) rfl k_35 (fun hg => kops2 (gk hg rfl) (gk hg rfl)) (fun hg => Length_any) ?_
      refine WQ.g (.bool rfl rfl rfl) rfl (fun hg => OpP.fieldAddr rfl fld_34_2) ?_
      refine WQ.g (.bool rfl rfl rfl) rfl (fun hg => OpP.load (gk hg rfl) ty_3 (Rd.own (by repeat (first | assumption | exact List.mem_cons_self | exact List.mem_of_getElem? (by assumption) | exact set_mem (by first | assumption | exact set_hit (by assumption)) | apply List.mem_cons_of_mem | apply List.mem_append_right)) (by rfl))) ?_
      refine WQ.g (.bool rfl rfl rfl) rfl (fun hg => OpP.move rfl) ?_
      refine WQ.gcall rfl (.bool rfl rfl rfl) rfl k_36 (fun hg => kops2 (gk hg rfl) (gk hg rfl)) (fun hg => rLength_c) ?_
      refine WQ.g (.bool rfl rfl rfl) rfl (fun hg => OpP.eqlI (gk hg rfl) (gk hg rfl)) ?_
      refine WQ.p (.none rfl) rfl (OpP.pand rfl rfl rfl) ?_
      refine WQ.p (.none rfl) rfl (OpP.assign rfl) ?_
      refine WQ.done ?_
      refine EQ.sub ((Sub.cons (i := 4) rfl (Sub.nil _))) ?_
      refine EQ.code ?_
      refine WC.ret ?_
      refine EQ.finD (H' := H) (res1 rfl (.tmp rfl)) (by intro _ h; first | exact h | exact h.drop | exact h.drop.drop | exact h.drop.drop.drop | exact h.drop.drop.drop.drop | exact h.drop.drop.drop.drop.drop | exact h.drop.drop.drop.drop.drop.drop | exact h.drop_mid) ?_
      refine ⟨congrArg Value.bool ?_, rfl⟩
      simp
    · -- cond 1 f
      (try simp only [decide_eq_true_eq, decide_eq_false_iff_not, Bool.not_eq_true', Bool.not_eq_false', Bool.or_eq_true, Bool.and_eq_true, Bool.or_eq_false_iff, Bool.and_eq_false_imp, Option.isNone_some, Bool.false_eq_true, false_or, true_and] at hc1)
      refine WC.skip ?_
      refine EQ.code ?_
      refine WC.seq ?_
      refine WC.draw (by kernel_rfl) (by kernel_rfl) ?_
      refine WQ.callD rfl (.none rfl) rfl k_30 rfl (alive25_c) ?_
      refine WQ.p (.none rfl) rfl (OpP.move rfl) ?_
      refine WQ.p (.yes rfl rfl rfl) rfl (OpP.loadB rfl ty_34 (by repeat (first | assumption | exact List.mem_cons_self | exact List.mem_of_getElem? (by assumption) | exact set_mem (by first | assumption | exact set_hit (by assumption)) | apply List.mem_cons_of_mem | apply List.mem_append_right)) (by rfl)) ?_
      refine WQ.callD rfl (.yes rfl rfl rfl) rfl k_10 rfl (StRight_c (id := X.id) (n := X.size) (nm := X.nm) (s := X.sum)) ?_
      refine WQ.p (.yes rfl rfl rfl) rfl (OpP.loadB rfl ty_34 (by repeat (first | assumption | exact List.mem_cons_self | exact List.mem_of_getElem? (by assumption) | exact set_mem (by first | assumption | exact set_hit (by assumption)) | apply List.mem_cons_of_mem | apply List.mem_append_right)) (by rfl)) ?_
      refine WQ.callD rfl (.yes rfl rfl rfl) rfl k_33 rfl (As25_c) ?_
      refine WQ.callD rfl (.yes rfl rfl rfl) rfl k_32 rfl (rRight25_c) ?_
      refine WQ.p (.yes rfl rfl rfl) rfl (OpP.eqlB rfl rfl Try.underlying4) ?_
      refine WQ.p (.none rfl) rfl (OpP.pand rfl rfl rfl) ?_
      refine WQ.p (.none rfl) rfl (OpP.move rfl) ?_
      refine WQ.g (.bool rfl rfl rfl) rfl (fun hg => OpP.fieldAddr rfl fld_34_2) ?_
      refine WQ.g (.bool rfl rfl rfl) rfl (fun hg => OpP.load (gk hg rfl) ty_3 (Rd.own (by repeat (first | assumption | exact List.mem_cons_self | exact List.mem_of_getElem? (by assumption) | exact set_mem (by first | assumption | exact set_hit (by assumption)) | apply List.mem_cons_of_mem | apply List.mem_append_right)) (by rfl))) ?_
      refine WQ.gcall rfl (.bool rfl rfl rfl) rfl k_34 (fun hg => kops1 (gk hg rfl)) (fun hg => Chunks_c) ?_
      refine WQ.g (.bool rfl rfl rfl) rfl (fun hg => OpP.move rfl) ?_
      refine WQ.g (.bool rfl rfl rfl) rfl (fun hg => OpP.eqlI (gk hg rfl) (gk hg rfl)) ?_
      refine WQ.p (.none rfl) rfl (OpP.pand rfl rfl rfl) ?_
      refine WQ.p (.none rfl) rfl (OpP.move rfl) ?_
      refine WQ.g (.bool rfl rfl rfl) rfl (fun hg => OpP.fieldAddr rfl fld_34_2) ?_
      refine WQ.g (.bool rfl rfl rfl) rfl (fun hg => OpP.load (gk hg rfl) ty_3 (Rd.own (by repeat (first | assumption | exact List.mem_cons_self | exact List.mem_of_getElem? (by assumption) | exact set_mem (by first | assumption | exact set_hit (by assumption)) | apply List.mem_cons_of_mem | apply List.mem_append_right)) (by rfl))) ?_
      refine WQ.g (.bool rfl rfl rfl) rfl (fun hg => OpP.move rfl) ?_
      refine WQ.gcall rfl (.bool rfl rfl rfl) rfl k_35 (fun hg => kops2 (gk hg rfl) (gk hg rfl)) (fun hg => Length_any) ?_
      refine WQ.g (.bool rfl rfl rfl) rfl (fun hg => OpP.fieldAddr rfl fld_34_2) ?_
      refine WQ.g (.bool rfl rfl rfl) rfl (fun hg => OpP.load (gk hg rfl) ty_3 (Rd.own (by repeat (first | assumption | exact List.mem_cons_self | exact List.mem_of_getElem? (by assumption) | exact set_mem (by first | assumption | exact set_hit (by assumption)) | apply List.mem_cons_of_mem | apply List.mem_append_right)) (by rfl))) ?_
      refine WQ.g (.bool rfl rfl rfl) rfl (fun hg => OpP.move rfl) ?_
      refine WQ.gcall rfl (.bool rfl rfl rfl) rfl k_36 (fun hg => kops2 (gk hg rfl) (gk hg rfl)) (fun hg => rLength_c) ?_
      refine WQ.g (.bool rfl rfl rfl) rfl (fun hg => OpP.eqlI (gk hg rfl) (gk hg rfl)) ?_
      refine WQ.p (.none rfl) rfl (OpP.pand rfl rfl rfl) ?_
      refine WQ.p (.none rfl) rfl (OpP.assign rfl) ?_
      refine WQ.done ?_
      refine EQ.sub ((Sub.cons (i := 4) rfl (Sub.nil _))) ?_
      refine EQ.code ?_
      refine WC.ret ?_
      refine EQ.finD (H' := H) (res1 rfl (.tmp rfl)) (by intro _ h; first | exact h | exact h.drop | exact h.drop.drop | exact h.drop.drop.drop | exact h.drop.drop.drop.drop | exact h.drop.drop.drop.drop.drop | exact h.drop.drop.drop.drop.drop.drop | exact h.drop_mid) ?_
      refine ⟨congrArg Value.bool ?_, rfl⟩
      have hch : chunks X.size = 0 := by unfold chunks; rw [if_neg (by omega)]
      simp [hch]

end Go.Proofs.Ytmeimjpjelmchaa
