/- Ja: walks of functions of the program, each over the rules of Sx. No conditions but those in the theorems' heads. -/
import Derived.Test.YtjdkohfgbekheaaJm
import Derived.Test.YtjdkohfgbekheaaProg
set_option linter.unusedVariables false
set_option linter.unusedSimpArgs false
namespace Go.Proofs.Ytjdkohfgbekheaa
open Go.RowKit Go.Sx
namespace Ja
theorem el_25 : elI Try.prog 25 = some (none, 35, true, 4) := by kernel_rfl
theorem k_10 : Cal Try.prog 10 := ⟨_, _, Try.func10, by kernel_rfl, rfl⟩
theorem k_11 : Cal Try.prog 11 := ⟨_, _, Try.func11, by kernel_rfl, rfl⟩
theorem k_7 : Cal Try.prog 7 := ⟨_, _, Try.func7, by kernel_rfl, rfl⟩
theorem k_8 : Cal Try.prog 8 := ⟨_, _, Try.func8, by kernel_rfl, rfl⟩
theorem k_9 : Cal Try.prog 9 := ⟨_, _, Try.func9, by kernel_rfl, rfl⟩
theorem sl_23 : slI Try.prog 23 = some (5, 1, 1) := by kernel_rfl
theorem ty_35 : tyI Try.prog 35 = some (true, 4) := by kernel_rfl
theorem z_5 : zI Try.prog 5 = some [.int .u8 0] := by kernel_rfl
end Ja
open Ja

def zs (n : Nat) : List Int := List.replicate n 0
theorem zs_len (n : Nat) : (zs n).length = n := by simp [zs]
theorem zs_iv (n : Nat) : iv .u8 (zs n) = List.replicate n (.int .u8 0) := by simp [zs, iv]
theorem SplitA_c {W0 : World} {H : Hp} {b : Nat} (hm : (b, cl (List.replicate 500 (.int .u8 0)) 5) ∈ H) :
    CxX Try.prog W0 7 #[.int .u64 3, .slice (some ⟨b, 0, none⟩) 500 500] H (fun v H' => ∃ a1 c1 ds C S, v = .tuple #[.slice (some a1) 2 c1, .int .i64 0] ∧ H' = ds ++ (S.flatten ++ H) ∧ (∀ W R, Sl W (ds ++ R) (some a1) C.flatten) ∧ PL 3 2 (cut (zs 500)) 2 C S) := by
  have hl : (zs 500).length = 500 := zs_len 500
  have h := Split_c (W0 := W0) (H := H) (id := 3) (a := some ⟨b, 0, none⟩) (cp := 500) (l := zs 500) (by rw [hl]; decide) (by decide) (fun H' hh => (Sl.own hm (fun j x hj => by rw [zs_iv] at hj; rw [Nat.zero_add]; exact hj)).of hh)
  rw [hl] at h
  refine CxX.to h (fun v H' hR => ?_)
  obtain ⟨sl, ds, C, S, rfl, rfl, hown, hpl⟩ := hR (by decide) (by decide) (by decide)
  have e2 : (fCount ((500 : Nat) : Int)).toNat = 2 := by decide
  have e3 : fCount ((500 : Nat) : Int) = 2 := by decide
  rw [e2] at hown hpl
  rw [e3] at hpl
  obtain ⟨a1, c1, rfl, _, _, hs⟩ := hown.val
  have hne : C.flatten ≠ [] := fun hz => by
    have := len_flat hpl.cells
    rw [hz, hpl.lc] at this
    simp at this
  cases a1 with
  | none => exact absurd ((hs W0 []).1 rfl) hne
  | some p => exact ⟨p, c1, ds, C, S, rfl, rfl, hs, hpl⟩
theorem cutA0 : (cut (zs 500) 0).length = 480 := by rw [cut_len, zs_len]; decide
theorem cutA1 : (cut (zs 500) 1).length = 20 := by rw [cut_len, zs_len]; decide
theorem pl_get {id n : Int} {d : Nat → List Int} {k : Nat} {C : List (List Value)} {S : List Hp} (h : PL id n d k C S) {i : Nat} (hi : i < k) : ∃ a c, C[i]? = some (ptL id i n a (d i).length c) ∧ ∀ W R, Sl W (S.flatten ++ R) a (iv .u8 (d i)) := by
  obtain ⟨a, c, h1, h2⟩ := h.ent i hi
  have hil : i < C.length := by rw [h.lc]; exact hi
  have his : i < S.length := by rw [h.ls]; exact hi
  refine ⟨a, c, ?_, fun W R => ?_⟩
  · rw [List.getD_eq_getElem?_getD, List.getElem?_eq_getElem hil] at h1
    rw [List.getElem?_eq_getElem hil]
    exact congrArg _ h1
  · refine (h2 W []).of (fun w hS => hS.sublist ?_)
    rw [List.append_nil, List.getD_eq_getElem?_getD, List.getElem?_eq_getElem his]
    exact (List.sublist_flatten_of_mem (List.getElem_mem his)).trans (List.sublist_append_left _ _)
def gA : List (Option (List Int)) := (List.replicate 64 none).set 1 (some (cut (zs 500) 1))
theorem gA_len : gA.length = 64 := by simp [gA]
theorem gA_cnt : gA.countP Option.isSome = 1 := by
  unfold gA
  rw [countP_set (by simp) (rep_get (by decide)), List.countP_replicate]
  rfl
theorem gA_0 : gA.getD 0 none = none := by
  unfold gA
  rw [getD_set _ _ _ _ _ (by simp), if_neg (by decide)]
  exact rep_get (by decide)
theorem catA : (Opn.mk 3 2 (gA.set 0 (some (cut (zs 500) 0)))).cat.length = 500 := by
  have h0 : ((gA.set 0 (some (cut (zs 500) 0))).getD 0 none) = some (cut (zs 500) 0) := by rw [getD_set _ _ _ _ _ (by rw [gA_len]; decide), if_pos rfl]
  have h1 : ((gA.set 0 (some (cut (zs 500) 0))).getD 1 none) = some (cut (zs 500) 1) := by
    rw [getD_set _ _ _ _ _ (by rw [gA_len]; decide), if_neg (by decide)]
    unfold gA
    rw [getD_set _ _ _ _ _ (by simp), if_pos rfl]
  unfold Opn.cat
  show ((List.range 2).flatMap _).length = 500
  simp only [List.range_succ, List.range_zero, List.nil_append, List.flatMap_append, List.flatMap_cons, List.flatMap_nil, List.append_nil, List.length_append, h0, h1, Option.getD_some, cutA0, cutA1]

set_option maxRecDepth 100000 in
theorem alive10_c {W0 : World} {H : Hp} : CxD Try.prog W0 6 #[] H (.bool true) H := by
  refine enter Try.func6 rfl Try.ntmps6 rfl ?_
  refine WC.seq ?_
  refine WC.region ?_
  refine WL.p (.none rfl) rfl (OpP.assign rfl) ?_
  refine WL.nil ?_
  refine EQ.sub ((Sub.cons (i := 0) rfl (Sub.nil _))) ?_
  refine EQ.code ?_
  refine WC.seq ?_
  refine WC.region ?_
  refine WL.call rfl (.none rfl) rfl k_8 rfl (New_c) ?_
  rintro _ _ ⟨g, ds0, rfl, rfl, hT0⟩
  refine WL.p (.none rfl) rfl (OpP.assign rfl) ?_
  refine WL.nil ?_
  refine EQ.sub ((Sub.cons (i := 0) rfl (Sub.cons (i := 1) rfl (Sub.nil _)))) ?_
  refine EQ.code ?_
  refine WC.seq ?_
  refine WC.region ?_
  refine WL.makeSlice sl_23 z_5 rfl rfl rfl (by first | omega | decide) (by first | omega | decide) (fun b15 => ?_)
  refine WL.call rfl (.none rfl) rfl k_7 rfl (SplitA_c (b := b15) List.mem_cons_self) ?_
  rintro _ _ ⟨a1, c1, ds, C, S, rfl, rfl, hs, hpl⟩
  obtain ⟨p0, c2, hC0, hd0⟩ := pl_get hpl (i := 0) (by decide)
  obtain ⟨p1, c3, hC1, hd1⟩ := pl_get hpl (i := 1) (by decide)
  have hd0 : ∀ W R, Sl W (ds ++ (S.flatten ++ R)) p0 (iv .u8 (cut (zs 500) 0)) := fun W R => (hd0 W R).of (fun w h => h.sublist (List.sublist_append_right _ _))
  have hd1 : ∀ W R, Sl W (ds ++ (S.flatten ++ R)) p1 (iv .u8 (cut (zs 500) 1)) := fun W R => (hd1 W R).of (fun w h => h.sublist (List.sublist_append_right _ _))
  refine WL.hp (H' := ds0 ++ (ds ++ (S.flatten ++ ((b15, cl (List.replicate 500 (.int .u8 0)) 5) :: H)))) (fun w h => h.perm ((List.Perm.append_left ds ((List.Perm.append_left S.flatten List.perm_middle.symm).trans (List.perm_append_comm_assoc S.flatten ds0 _))).trans (List.perm_append_comm_assoc ds ds0 _))) ?_
  refine WL.p (.none rfl) rfl (OpP.move rfl) ?_
  refine WL.p (.none rfl) rfl (OpP.extract rfl rfl) ?_
  refine WL.p (.none rfl) rfl (OpP.extract rfl rfl) ?_
  refine WL.p (.none rfl) rfl (OpP.assign rfl) ?_
  refine WL.p (.none rfl) rfl (OpP.assign rfl) ?_
  refine WL.nil ?_
  refine EQ.sub ((Sub.cons (i := 0) rfl (Sub.cons (i := 1) rfl (Sub.cons (i := 2) rfl (Sub.cons (i := 3) rfl (Sub.nil _)))))) ?_
  refine EQ.code ?_
  refine WC.seq ?_
  refine WC.seq ?_
  refine WC.region ?_
  refine WL.p (.none rfl) rfl (OpP.move rfl) ?_
  refine WL.p (.none rfl) rfl (OpP.neqI rfl rfl) ?_
  refine WL.p (.none rfl) rfl (OpP.move rfl) ?_
  refine WL.p (.yes rfl rfl rfl) rfl (OpP.move rfl) ?_
  refine WL.p (.yes rfl rfl rfl) rfl (OpP.lenSl rfl Try.underlying25) ?_
  refine WL.p (.yes rfl rfl rfl) rfl (OpP.neqI rfl rfl) ?_
  refine WL.p (.none rfl) rfl (OpP.por rfl rfl rfl) ?_
  refine WL.nil ?_
  refine EQ.sub ((Sub.cons (i := 0) rfl (Sub.cons (i := 1) rfl (Sub.cons (i := 2) rfl (Sub.cons (i := 25) rfl (Sub.nil _)))))) ?_
  refine EQ.code ?_
  refine WC.condF rfl ?_
  refine WC.skip ?_
  refine EQ.code ?_
  refine WC.seq ?_
  refine WC.region ?_
  refine WL.p (.none rfl) rfl (OpP.move rfl) ?_
  refine WL.p (.none rfl) rfl (OpP.move rfl) ?_
  refine WL.p (.none rfl) rfl (OpP.indexSl rfl rfl el_25 (by decide) (by decide) (by simp)) ?_
  refine WL.p (.none rfl) rfl (OpP.loadSl (a := some a1) (o := 1 * 4) (xs := C.flatten) (vs := ptL 3 ((1 : Nat) : Int) 2 p1 (cut (zs 500) 1).length c3) rfl ty_35 ((hs W0 (S.flatten ++ ((b15, cl (List.replicate 500 (.int .u8 0)) 5) :: H))).of (fun w h => h.sublist (List.sublist_append_right _ _))) (fun i v hv => flat_get hpl.cells 1 _ hC1 i v hv) rfl (by simp)) ?_
  refine WL.call rfl (.none rfl) rfl k_9 rfl (Put_c (R := (ds ++ (S.flatten ++ ((b15, cl (List.replicate 500 (.int .u8 0)) 5) :: H)))) hT0 wf_new (by decide) (by decide) (by decide) (hd1 W0 _ )) ?_
  rintro _ _ ⟨out1, oa1, oc1, is1, e1, T1, dd1, ds1, rfl, rfl, hT1, hput1, hout1⟩
  refine WL.hp (H' := ds1 ++ (ds ++ (S.flatten ++ ((b15, cl (List.replicate 500 (.int .u8 0)) 5) :: H)))) (fun w h => h.sublist (List.sublist_append_right _ _)) ?_
  obtain ⟨hwf1, _, _⟩ := hput1.wf wf_new
  have hp1 := put_mk (g := List.replicate 64 none) (by simp) (show ptOk 3 ((1 : Nat) : Int) 2 (cut (zs 500) 1).length = true by rw [cutA1]; decide) (fun _ => rfl) (by rw [mkT_new]; exact hput1)
  obtain ⟨rfl, rfl, rfl, hT1e⟩ := (hp1.2 (rep_get (by decide))).1 (by rw [List.countP_replicate]; decide)
  rw [show (List.replicate 64 none).set 1 (some (cut (zs 500) 1)) = gA from rfl] at hT1e
  subst hT1e
  refine WL.p (.none rfl) rfl (OpP.move rfl) ?_
  refine WL.p (.none rfl) rfl (OpP.extract rfl rfl) ?_
  refine WL.p (.none rfl) rfl (OpP.extract rfl rfl) ?_
  refine WL.p (.none rfl) rfl (OpP.extract rfl rfl) ?_
  refine WL.p (.none rfl) rfl (OpP.assign rfl) ?_
  refine WL.p (.none rfl) rfl (OpP.assign rfl) ?_
  refine WL.p (.none rfl) rfl (OpP.assign rfl) ?_
  refine WL.nil ?_
  refine EQ.sub ((Sub.cons (i := 0) rfl (Sub.cons (i := 1) rfl (Sub.cons (i := 2) rfl (Sub.cons (i := 5) rfl (Sub.cons (i := 6) rfl (Sub.nil _))))))) ?_
  refine EQ.code ?_
  refine WC.seq ?_
  refine WC.region ?_
  refine WL.p (.none rfl) rfl (OpP.move rfl) ?_
  refine WL.p (.none rfl) rfl (OpP.move rfl) ?_
  refine WL.p (.none rfl) rfl (OpP.indexSl rfl rfl el_25 (by decide) (by decide) (by simp)) ?_
  refine WL.p (.none rfl) rfl (OpP.loadSl (a := some a1) (o := 0 * 4) (xs := C.flatten) (vs := ptL 3 ((0 : Nat) : Int) 2 p0 (cut (zs 500) 0).length c2) rfl ty_35 ((hs W0 (S.flatten ++ ((b15, cl (List.replicate 500 (.int .u8 0)) 5) :: H))).of (fun w h => h.sublist (List.sublist_append_right _ _))) (fun i v hv => flat_get hpl.cells 0 _ hC0 i v hv) rfl (by simp)) ?_
  refine WL.call rfl (.none rfl) rfl k_9 rfl (Put_c (R := (ds ++ (S.flatten ++ ((b15, cl (List.replicate 500 (.int .u8 0)) 5) :: H)))) hT1 hwf1 (by decide) (by decide) (by decide) (hd0 W0 _ )) ?_
  rintro _ _ ⟨out2, oa2, oc2, is2, e2, T2, dd2, ds2, rfl, rfl, hT2, hput2, hout2⟩
  refine WL.hp (H' := ds2 ++ (ds ++ (S.flatten ++ ((b15, cl (List.replicate 500 (.int .u8 0)) 5) :: H)))) (fun w h => h.sublist (List.sublist_append_right _ _)) ?_
  obtain ⟨hwf2, _, _⟩ := hput2.wf hwf1
  have hp2 := put_mk (g := gA) gA_len (show ptOk 3 ((0 : Nat) : Int) 2 (cut (zs 500) 0).length = true by rw [cutA0]; decide) (fun h => by rw [gA_cnt] at h; cases h) hput2
  obtain ⟨rfl, rfl, hout2e, hT2f, hT2fs⟩ := (hp2.2 gA_0).2 (by rw [gA_cnt]; decide)
  have hout2l : out2.length = 500 := by rw [hout2e]; exact catA
  rw [hout2l]
  refine WL.p (.none rfl) rfl (OpP.move rfl) ?_
  refine WL.p (.none rfl) rfl (OpP.extract rfl rfl) ?_
  refine WL.p (.none rfl) rfl (OpP.extract rfl rfl) ?_
  refine WL.p (.none rfl) rfl (OpP.extract rfl rfl) ?_
  refine WL.p (.none rfl) rfl (OpP.assign rfl) ?_
  refine WL.p (.none rfl) rfl (OpP.assign rfl) ?_
  refine WL.p (.none rfl) rfl (OpP.assign rfl) ?_
  refine WL.nil ?_
  refine EQ.sub ((Sub.cons (i := 0) rfl (Sub.cons (i := 1) rfl (Sub.cons (i := 2) rfl (Sub.cons (i := 5) rfl (Sub.cons (i := 6) rfl (Sub.cons (i := 7) rfl (Sub.cons (i := 8) rfl (Sub.cons (i := 9) rfl (Sub.nil _)))))))))) ?_
  refine EQ.code ?_
  refine WC.seq ?_
  refine WC.region ?_
  refine WL.p (.none rfl) rfl (OpP.move rfl) ?_
  refine WL.p (.none rfl) rfl (OpP.move rfl) ?_
  refine WL.p (.none rfl) rfl (OpP.indexSl rfl rfl el_25 (by decide) (by decide) (by simp)) ?_
  refine WL.p (.none rfl) rfl (OpP.loadSl (a := some a1) (o := 0 * 4) (xs := C.flatten) (vs := ptL 3 ((0 : Nat) : Int) 2 p0 (cut (zs 500) 0).length c2) rfl ty_35 ((hs W0 (S.flatten ++ ((b15, cl (List.replicate 500 (.int .u8 0)) 5) :: H))).of (fun w h => h.sublist (List.sublist_append_right _ _))) (fun i v hv => flat_get hpl.cells 0 _ hC0 i v hv) rfl (by simp)) ?_
  refine WL.call rfl (.none rfl) rfl k_9 rfl (Put_c (R := (ds ++ (S.flatten ++ ((b15, cl (List.replicate 500 (.int .u8 0)) 5) :: H)))) hT2 hwf2 (by decide) (by decide) (by decide) (hd0 W0 _ )) ?_
  rintro _ _ ⟨out3, oa3, oc3, is3, e3, T3, dd3, ds3, rfl, rfl, hT3, hput3, hout3⟩
  refine WL.hp (H' := ds3 ++ (ds ++ (S.flatten ++ ((b15, cl (List.replicate 500 (.int .u8 0)) 5) :: H)))) (fun w h => h.sublist (List.sublist_append_right _ _)) ?_
  obtain ⟨hwf3, _, _⟩ := hput3.wf hwf2
  obtain ⟨rfl, rfl, rfl, rfl⟩ := put_old hput3 (show ptOk 3 ((0 : Nat) : Int) 2 (cut (zs 500) 0).length = true by rw [cutA0]; decide) (by rw [hT2f]; decide)
  refine WL.p (.none rfl) rfl (OpP.move rfl) ?_
  refine WL.p (.none rfl) rfl (OpP.extract rfl rfl) ?_
  refine WL.p (.none rfl) rfl (OpP.extract rfl rfl) ?_
  refine WL.p (.none rfl) rfl (OpP.extract rfl rfl) ?_
  refine WL.p (.none rfl) rfl (OpP.assign rfl) ?_
  refine WL.p (.none rfl) rfl (OpP.assign rfl) ?_
  refine WL.p (.none rfl) rfl (OpP.assign rfl) ?_
  refine WL.nil ?_
  refine EQ.sub ((Sub.cons (i := 0) rfl (Sub.cons (i := 1) rfl (Sub.cons (i := 5) rfl (Sub.cons (i := 6) rfl (Sub.cons (i := 7) rfl (Sub.cons (i := 8) rfl (Sub.cons (i := 9) rfl (Sub.cons (i := 12) rfl (Sub.nil _)))))))))) ?_
  refine EQ.code ?_
  refine WC.seq ?_
  refine WC.region ?_
  refine WL.p (.none rfl) rfl (OpP.move rfl) ?_
  refine WL.p (.none rfl) rfl (OpP.not rfl) ?_
  refine WL.p (.none rfl) rfl (OpP.move rfl) ?_
  refine WL.p (.yes rfl rfl rfl) rfl (OpP.move rfl) ?_
  refine WL.p (.yes rfl rfl rfl) rfl (OpP.eqlI rfl rfl) ?_
  refine WL.p (.none rfl) rfl (OpP.pand rfl rfl rfl) ?_
  refine WL.p (.none rfl) rfl (OpP.move rfl) ?_
  refine WL.p (.yes rfl rfl rfl) rfl (OpP.move rfl) ?_
  refine WL.p (.none rfl) rfl (OpP.pand rfl rfl rfl) ?_
  refine WL.p (.none rfl) rfl (OpP.move rfl) ?_
  refine WL.p (.yes rfl rfl rfl) rfl (OpP.move rfl) ?_
  refine WL.p (.yes rfl rfl rfl) rfl (OpP.eqlI rfl rfl) ?_
  refine WL.p (.none rfl) rfl (OpP.pand rfl rfl rfl) ?_
  refine WL.p (.none rfl) rfl (OpP.move rfl) ?_
  refine WL.p (.yes rfl rfl rfl) rfl (OpP.move rfl) ?_
  refine WL.p (.yes rfl rfl rfl) rfl (OpP.lenSl rfl Try.underlying23) ?_
  refine WL.p (.yes rfl rfl rfl) rfl (OpP.eqlI rfl rfl) ?_
  refine WL.p (.none rfl) rfl (OpP.pand rfl rfl rfl) ?_
  refine WL.p (.none rfl) rfl (OpP.move rfl) ?_
  refine WL.p (.yes rfl rfl rfl) rfl (OpP.move rfl) ?_
  refine WL.p (.yes rfl rfl rfl) rfl (OpP.eqlI rfl rfl) ?_
  refine WL.p (.none rfl) rfl (OpP.pand rfl rfl rfl) ?_
  refine WL.p (.none rfl) rfl (OpP.move rfl) ?_
  refine WL.p (.yes rfl rfl rfl) rfl (OpP.move rfl) ?_
  refine WL.callD rfl (.yes rfl rfl rfl) rfl k_10 rfl (CxD.to (Floor2_c hT3) (show _ = Value.int .u64 4 by rw [hT2f]; rfl) rfl) ?_
  refine WL.p (.yes rfl rfl rfl) rfl (OpP.eqlI rfl rfl) ?_
  refine WL.p (.none rfl) rfl (OpP.pand rfl rfl rfl) ?_
  refine WL.p (.none rfl) rfl (OpP.move rfl) ?_
  refine WL.p (.yes rfl rfl rfl) rfl (OpP.move rfl) ?_
  refine WL.call rfl (.yes rfl rfl rfl) rfl k_11 rfl (Waits_c hT3 (by rw [hT2fs]; decide)) ?_
  rintro _ _ ⟨l, wa, wk, dw, rfl, rfl, hlp, _, _⟩
  have hl0 : l.length = 0 := by have := hlp.length_eq; rw [hT2fs] at this; simpa using this
  rw [hl0]
  refine WL.p (.yes rfl rfl rfl) rfl (OpP.lenSl rfl Try.underlying38) ?_
  refine WL.p (.yes rfl rfl rfl) rfl (OpP.eqlI rfl rfl) ?_
  refine WL.p (.none rfl) rfl (OpP.pand rfl rfl rfl) ?_
  refine WL.p (.none rfl) rfl (OpP.assign rfl) ?_
  refine WL.nil ?_
  refine EQ.sub ((Sub.cons (i := 0) rfl (Sub.nil _))) ?_
  refine EQ.code ?_
  refine WC.ret ?_
  refine EQ.finD (H' := H) (res1 rfl (.tmp rfl)) (by intro _ h; exact h.sublist ((((((List.sublist_cons_self _ _).trans (List.sublist_append_right _ _)).trans (List.sublist_append_right _ _)).trans (List.sublist_append_right _ _)).trans (List.sublist_append_right _ _)))) ?_
  exact ⟨rfl, rfl⟩

end Go.Proofs.Ytjdkohfgbekheaa
