/- Sv: walks of functions of the program, each over the rules of Sx. No conditions but those in the theorems' heads. -/
import Derived.Test.YtmeimjpjelmchaaSw
import Derived.Test.YtmeimjpjelmchaaProg
set_option linter.unusedVariables false
set_option linter.unusedSimpArgs false
namespace Go.Proofs.Ytmeimjpjelmchaa
open Go.RowKit Go.Sx
namespace Sv
theorem bld_110 : bldS Try.prog 110 = some ([(0, 1), (1, 1)], [.slice none 0 0, .int .u32 0]) := by kernel_rfl
theorem bld_38 : bldS Try.prog 38 = some ([(0, 1), (1, 1)], [.int .i64 0, .int .u64 0]) := by kernel_rfl
theorem fld_101_0 : fldI Try.prog 101 0 = some (0, true, 35) := by kernel_rfl
theorem fld_101_1 : fldI Try.prog 101 1 = some (35, false, 1) := by kernel_rfl
theorem fld_110_0 : fldI Try.prog 110 0 = some (0, false, 1) := by kernel_rfl
theorem fld_34_2 : fldI Try.prog 34 2 = some (2, false, 1) := by kernel_rfl
theorem fld_34_3 : fldI Try.prog 34 3 = some (3, true, 32) := by kernel_rfl
theorem k_28 : Cal Try.prog 28 := ⟨_, _, Try.func28, by kernel_rfl, rfl⟩
theorem k_34 : Cal Try.prog 34 := ⟨_, _, Try.func34, by kernel_rfl, rfl⟩
theorem k_35 : Cal Try.prog 35 := ⟨_, _, Try.func35, by kernel_rfl, rfl⟩
theorem k_47 : Cal Try.prog 47 := ⟨_, _, Try.func47, by kernel_rfl, rfl⟩
theorem k_59 : Cal Try.prog 59 := ⟨_, _, Try.func59, by kernel_rfl, rfl⟩
theorem k_62 : Cal Try.prog 62 := ⟨_, _, Try.func62, by kernel_rfl, rfl⟩
theorem k_63 : Cal Try.prog 63 := ⟨_, _, Try.func63, by kernel_rfl, rfl⟩
theorem k_64 : Cal Try.prog 64 := ⟨_, _, Try.func64, by kernel_rfl, rfl⟩
theorem map_99 : mapI Try.prog 99 = some (3, .i64, .agg ⟨[.slice none 0 0, .int .u32 0]⟩) := by kernel_rfl
theorem sl_23 : slI Try.prog 23 = some (5, 1, 1) := by kernel_rfl
theorem sl_87 : slI Try.prog 87 = some (23, 1, 24) := by kernel_rfl
theorem ty_3 : tyI Try.prog 3 = some (false, 1) := by kernel_rfl
theorem ty_32 : tyI Try.prog 32 = some (true, 32) := by kernel_rfl
theorem ty_38 : tyI Try.prog 38 = some (true, 2) := by kernel_rfl
theorem ty_99 : tyI Try.prog 99 = some (false, 1) := by kernel_rfl
theorem z_38 : zI Try.prog 38 = some [.int .i64 0, .int .u64 0] := by kernel_rfl
end Sv
open Sv

/-- A file of a store, brought to the front; and back. -/
theorem sr_focus {M : List FileM} {g : Nat} {ds : Hp} (h : SR M g ds) {id : Int} {F : FileM} (hf : fFind M id = some F) : ∃ mb es c fb cb ces cc dC rest, F.id = id ∧ Mok es c ∧ mlook es id = some (.pointer (some ⟨fb, 0, none⟩)) ∧ Mok ces cc ∧ ChR F.ch ces dC ∧
    ds.Perm ((fb, fobj F cb) :: (cb, mobj .i64 ces cc) :: (dC ++ ((g, sobj mb) :: (mb, mobj .u64 es c) :: rest))) ∧
    ∀ (G : FileM) cb' ces' cc' dC', G.id = id → Mok ces' cc' → ChR G.ch ces' dC' → ∃ ds', SR (fSet M G) g ds' ∧ ((fb, fobj G cb') :: (cb', mobj .i64 ces' cc') :: (dC' ++ ((g, sobj mb) :: (mb, mobj .u64 es c) :: rest))).Perm ds' := by
  obtain ⟨mb, es, c, d2, rfl, hM, hF⟩ := h
  obtain ⟨fb, d1, sg, d3, hid, hl, hFR, rfl, hback⟩ := fsr_some hF id F hf
  obtain ⟨cb, ces, cc, dC, rfl, hm, hch⟩ := hFR
  have key : ∀ (sg : Hp), ((g, sobj mb) :: (mb, mobj .u64 es c) :: (d1 ++ (sg ++ d3))).Perm (sg ++ ((g, sobj mb) :: (mb, mobj .u64 es c) :: (d1 ++ d3))) := fun sg =>
    List.perm_append_comm_assoc ((g, sobj mb) :: (mb, mobj .u64 es c) :: d1) sg d3
  refine ⟨mb, es, c, fb, cb, ces, cc, dC, d1 ++ d3, hid, hM, hl, hm, hch, ?_, fun G cb' ces' cc' dC' h1 h2 h3 => ?_⟩
  · exact key ((fb, fobj F cb) :: (cb, mobj .i64 ces cc) :: dC)
  · refine ⟨_, ⟨mb, es, c, _, rfl, hM, hback G _ h1 ⟨cb', ces', cc', dC', rfl, h2, h3⟩⟩, ?_⟩
    exact (key ((fb, fobj G cb') :: (cb', mobj .i64 ces' cc') :: dC')).symm
theorem set_app {α : Type} (ds l : List α) (i : Nat) (v : α) : (ds ++ l).set (ds.length + i) v = ds ++ l.set i v := by
  rw [List.set_append_right _ _ (by omega)]; simp
def wOk (F : FileM) (i : Int) (m : Nat) : Prop := 0 ≤ i ∧ i < chunks F.size ∧ (m : Int) = lengthAt F.size i

set_option maxRecDepth 100000 in
theorem WriteF_c {W0 : World} {F : FileM} {g mb c fb cb cc : Nat} {es ces : List Ent} {id : Int} {R : Hp} (hg : (g, sobj mb) ∈ R) (hm : (mb, mobj .u64 es c) ∈ R) (hl : mlook es id = some (.pointer (some ⟨fb, 0, none⟩))) {i : Int} {a : Option Addr} {m cp : Nat} {l : List Int} (hll : l.length = m) (hm63 : m ≤ 17592186044416) (hb : IsB l) (hsl : ∀ d, Sl W0 (d ++ ((fb, fobj F cb) :: (cb, mobj .i64 ces cc) :: R)) a (iv .u8 l)) :
    CxX Try.prog W0 40 #[.pointer (some ⟨g, 0, none⟩), .int .u64 id, .int .i64 i, .slice a m cp] ((fb, fobj F cb) :: (cb, mobj .i64 ces cc) :: R) (fun v H' => (wOk F i m → ∃ ca c9 sg, v = .int .i64 0 ∧ H' = (fb, fobj F cb) :: (cb, mobj .i64 (mput ces cc i (chV ca m c9 (crcOf l))) (mclk ces cc i)) :: (sg ++ R) ∧ OwnS 5 1 (.slice ca m c9) m (iv .u8 l) sg) ∧ (¬ wOk F i m → v = .int .i64 1 ∧ H' = (fb, fobj F cb) :: (cb, mobj .i64 ces cc) :: R)) := by
  have hch2 := chunks_bd F.size
  refine enter Try.func40 rfl Try.ntmps40 rfl ?_
  refine WC.seq ?_
  refine WC.region ?_
  refine WL.p (.none rfl) rfl (OpP.assign rfl) ?_
  refine WL.nil ?_
  refine EQ.sub ((Sub.cons (i := 0) rfl (Sub.cons (i := 1) rfl (Sub.cons (i := 2) rfl (Sub.cons (i := 3) rfl (Sub.cons (i := 8) rfl (Sub.nil _))))))) ?_
  refine EQ.code ?_
  refine WC.seq ?_
  refine WC.region ?_
  refine WL.p (.none rfl) rfl (OpP.move rfl) ?_
  refine WL.p (.none rfl) rfl (OpP.move rfl) ?_
  refine WL.callD rfl (.none rfl) rfl k_62 rfl (find_some (List.mem_cons_of_mem _ (List.mem_cons_of_mem _ hg)) (List.mem_cons_of_mem _ (List.mem_cons_of_mem _ hm)) hl) ?_
  refine WL.p (.none rfl) rfl (OpP.move rfl) ?_
  refine WL.p (.none rfl) rfl (OpP.extract rfl rfl) ?_
  refine WL.p (.none rfl) rfl (OpP.extract rfl rfl) ?_
  refine WL.p (.none rfl) rfl (OpP.assign rfl) ?_
  refine WL.p (.none rfl) rfl (OpP.assign rfl) ?_
  refine WL.nil ?_
  refine EQ.sub ((Sub.cons (i := 2) rfl (Sub.cons (i := 3) rfl (Sub.cons (i := 8) rfl (Sub.cons (i := 9) rfl (Sub.cons (i := 10) rfl (Sub.nil _))))))) ?_
  refine EQ.code ?_
  refine WC.seq ?_
  refine WC.block ?_
  refine WC.seq ?_
  refine WC.region ?_
  refine WL.p (.none rfl) rfl (OpP.move rfl) ?_
  refine WL.p (.none rfl) rfl (OpP.neqI rfl rfl) ?_
  refine WL.p (.none rfl) rfl (OpP.assign rfl) ?_
  refine WL.nil ?_
  refine EQ.sub ((Sub.cons (i := 2) rfl (Sub.cons (i := 3) rfl (Sub.cons (i := 8) rfl (Sub.cons (i := 9) rfl (Sub.cons (i := 10) rfl (Sub.cons (i := 17) rfl (Sub.nil _)))))))) ?_
  refine EQ.code ?_
  refine WC.condF rfl ?_
  refine WC.seq ?_
  refine WC.region ?_
  refine WL.p (.none rfl) rfl (OpP.move rfl) ?_
  refine WL.p (.none rfl) rfl (OpP.lss rfl rfl) ?_
  refine WL.p (.none rfl) rfl (OpP.move rfl) ?_
  refine WL.g (.bool rfl rfl rfl) rfl (fun hg => OpP.move rfl) ?_
  refine WL.g (.bool rfl rfl rfl) rfl (fun hg => OpP.move rfl) ?_
  refine WL.g (.bool rfl rfl rfl) rfl (fun hg => OpP.nilCheck (gk hg rfl)) ?_
  refine WL.g (.bool rfl rfl rfl) rfl (fun hg => OpP.fieldAddr (gk hg rfl) fld_101_0) ?_
  refine WL.g (.bool rfl rfl rfl) rfl (fun hg => OpP.fieldAddr (gk hg rfl) fld_34_2) ?_
  refine WL.g (.bool rfl rfl rfl) rfl (fun hg => OpP.load (gk hg rfl) ty_3 (Rd.own (by repeat (first | assumption | exact List.mem_cons_self | exact List.mem_of_getElem? (by assumption) | exact set_mem (by first | assumption | exact set_hit (by assumption)) | apply List.mem_cons_of_mem | apply List.mem_append_right)) (by rfl))) ?_
  refine WL.gcall rfl (.bool rfl rfl rfl) rfl k_34 (fun hg => kops1 (gk hg rfl)) (fun hg => Chunks_c) ?_
  refine WL.g (.bool rfl rfl rfl) rfl (fun hg => OpP.geq (gk hg rfl) (gk hg rfl)) ?_
  refine WL.p (.none rfl) rfl (OpP.por rfl rfl rfl) ?_
  refine WL.p (.none rfl) rfl (OpP.move rfl) ?_
  refine WL.g (.bool rfl rfl rfl) rfl (fun hg => OpP.move rfl) ?_
  refine WL.g (.bool rfl rfl rfl) rfl (fun hg => OpP.lenSl (gk hg rfl) Try.underlying23) ?_
  refine WL.g (.bool rfl rfl rfl) rfl (fun hg => OpP.move rfl) ?_
  refine WL.g (.bool rfl rfl rfl) rfl (fun hg => OpP.nilCheck (gk hg rfl)) ?_
  refine WL.g (.bool rfl rfl rfl) rfl (fun hg => OpP.fieldAddr (gk hg rfl) fld_101_0) ?_
  refine WL.g (.bool rfl rfl rfl) rfl (fun hg => OpP.fieldAddr (gk hg rfl) fld_34_2) ?_
  refine WL.g (.bool rfl rfl rfl) rfl (fun hg => OpP.load (gk hg rfl) ty_3 (Rd.own (by repeat (first | assumption | exact List.mem_cons_self | exact List.mem_of_getElem? (by assumption) | exact set_mem (by first | assumption | exact set_hit (by assumption)) | apply List.mem_cons_of_mem | apply List.mem_append_right)) (by rfl))) ?_
  refine WL.g (.bool rfl rfl rfl) rfl (fun hg => OpP.move rfl) ?_
  refine WL.gcall rfl (.bool rfl rfl rfl) rfl k_35 (fun hg => kops2 (gk hg rfl) (gk hg rfl)) (fun hg => Length_c (by simp at hg; omega)) ?_
  refine WL.g (.bool rfl rfl rfl) rfl (fun hg => OpP.neqI (gk hg rfl) (gk hg rfl)) ?_
  refine WL.p (.none rfl) rfl (OpP.por rfl rfl rfl) ?_
  refine WL.p (.none rfl) rfl (OpP.assign rfl) ?_
  refine WL.nil ?_
  refine EQ.sub ((Sub.cons (i := 2) rfl (Sub.cons (i := 3) rfl (Sub.cons (i := 8) rfl (Sub.cons (i := 9) rfl (Sub.cons (i := 21) rfl (Sub.nil _))))))) ?_
  refine EQ.code ?_
  refine WC.cond rfl (fun hc1 => ?_) (fun hc1 => ?_)
  · -- cond 1 t
    (try simp only [decide_eq_true_eq, decide_eq_false_iff_not, Bool.not_eq_true', Bool.not_eq_false', Bool.or_eq_true, Bool.and_eq_true, Bool.or_eq_false_iff, Bool.and_eq_false_imp, Option.isNone_some, Bool.false_eq_true, false_or, true_and] at hc1)
    refine WC.seq ?_
    refine WC.region ?_
    refine WL.p (.none rfl) rfl (OpP.assign rfl) ?_
    refine WL.nil ?_
    refine EQ.sub ((Sub.cons (i := 2) rfl (Sub.cons (i := 3) rfl (Sub.cons (i := 8) rfl (Sub.cons (i := 9) rfl (Sub.nil _)))))) ?_
    refine EQ.code ?_
    refine WC.ret ?_
    refine EQ.blockR ?_
    refine EQ.thenR ?_
    refine EQ.finD (H' := (fb, fobj F cb) :: (cb, mobj .i64 ces cc) :: R) (res1 rfl (.tmp rfl)) (by intro _ h; first | exact h | (rw [set_app] at h; exact h.perm ((List.perm_append_comm_assoc sg [(fb, fobj F cb), (cb, mobj .i64 (mput ces cc i (chV ca m c9 (crcOf l))) (mclk ces cc i))] R)))) ?_
    have hno : ¬ wOk F i m := by unfold wOk; omega
    exact ⟨fun h => absurd h hno, fun _ => ⟨rfl, rfl⟩⟩
  · -- cond 1 f
    (try simp only [decide_eq_true_eq, decide_eq_false_iff_not, Bool.not_eq_true', Bool.not_eq_false', Bool.or_eq_true, Bool.and_eq_true, Bool.or_eq_false_iff, Bool.and_eq_false_imp, Option.isNone_some, Bool.false_eq_true, false_or, true_and] at hc1)
    refine WC.skip ?_
    refine EQ.blockN ?_
    refine EQ.code ?_
    refine WC.seq ?_
    refine WC.mixC ((fb, fobj F cb) :: R) (by kernel_rfl) ?_
    refine AJ.p (i := 0) rfl (by kernel_rfl) (.none rfl) rfl (OpP.move rfl) ?_
    refine AJ.p (i := 1) rfl (by kernel_rfl) (.none rfl) rfl (OpP.nilCheck rfl) ?_
    refine AJ.p (i := 2) rfl (by kernel_rfl) (.none rfl) rfl (OpP.fieldAddr rfl fld_101_1) ?_
    refine AJ.p (i := 3) rfl (by kernel_rfl) (.none rfl) rfl (OpP.load rfl ty_99 (Rd.own (by repeat (first | assumption | exact List.mem_cons_self | exact List.mem_of_getElem? (by assumption) | exact set_mem (by first | assumption | exact set_hit (by assumption)) | apply List.mem_cons_of_mem | apply List.mem_append_right)) (by rfl))) ?_
    refine AJ.p (i := 4) rfl (by kernel_rfl) (.none rfl) rfl (OpP.move rfl) ?_
    refine AJ.p (i := 5) rfl (by kernel_rfl) (.none rfl) rfl (OpP.move rfl) ?_
    refine AJ.p (i := 7) rfl (by kernel_rfl) (.none rfl) rfl (OpP.move rfl) ?_
    refine AJ.one 6 rfl (by kernel_rfl) (by intro _ h; first | exact h.sublist ((List.sublist_cons_self _ _).cons_cons _) | exact h.sublist (((List.sublist_cons_self _ _).cons_cons _).trans (List.sublist_append_right _ _)) | (rw [set_app] at h; exact h.sublist (((List.sublist_cons_self _ _).cons_cons _).trans (List.sublist_append_right _ _)))) ?_
    refine WL.call rfl (.none rfl) rfl k_47 rfl (Clone47_c (l := l) hll (by omega) (hsl [])) ?_
    rintro _ _ ⟨sg, rfl, hown, hnil⟩
    obtain ⟨ca, c9, rfl, hc9, hc9b, hsr⟩ := hown.val
    refine WL.nil ?_
    refine EQ.an ?_
    refine AJ.one 8 rfl (by kernel_rfl) (by intro _ h; first | exact h.sublist ((List.sublist_cons_self _ _).cons_cons _) | exact h.sublist (((List.sublist_cons_self _ _).cons_cons _).trans (List.sublist_append_right _ _)) | (rw [set_app] at h; exact h.sublist (((List.sublist_cons_self _ _).cons_cons _).trans (List.sublist_append_right _ _)))) ?_
    refine WL.callD rfl (.none rfl) rfl k_63 rfl (crcOf_c hll (by omega) hb (hsl sg)) ?_
    refine WL.nil ?_
    refine EQ.an ?_
    refine AJ.p (i := 9) rfl (by kernel_rfl) (.none rfl) rfl (OpP.buildS (l := [.slice ca m c9, .int .u32 ((crcOf l : Nat) : Int)]) bld_110 (kI rfl (kI rfl kI0)) (by kernel_rfl)) ?_
    refine AJ.one 10 rfl (by kernel_rfl) (by intro _ h; first | exact h.sublist ((List.sublist_cons_self _ _).cons_cons _) | exact h.sublist (((List.sublist_cons_self _ _).cons_cons _).trans (List.sublist_append_right _ _)) | (rw [set_app] at h; exact h.sublist (((List.sublist_cons_self _ _).cons_cons _).trans (List.sublist_append_right _ _)))) ?_
    refine WL.s (.none rfl) rfl (OpS.mapUpdate rfl rfl rfl map_99 (atApp (i := 1) rfl sg)) ?_
    refine WL.nil ?_
    refine EQ.an ?_
    refine AJ.done (by kernel_rfl) (by intro _ h; first | exact h.sublist ((List.sublist_cons_self _ _).cons_cons _) | exact h.sublist (((List.sublist_cons_self _ _).cons_cons _).trans (List.sublist_append_right _ _)) | (rw [set_app] at h; exact h.sublist (((List.sublist_cons_self _ _).cons_cons _).trans (List.sublist_append_right _ _)))) ?_
    refine EQ.sub ((Sub.cons (i := 8) rfl (Sub.nil _))) ?_
    refine EQ.code ?_
    refine WC.seq ?_
    refine WC.region ?_
    refine WL.p (.none rfl) rfl (OpP.assign rfl) ?_
    refine WL.nil ?_
    refine EQ.sub ((Sub.cons (i := 8) rfl (Sub.nil _))) ?_
    refine EQ.code ?_
    refine WC.ret ?_
    refine EQ.finD (H' := (fb, fobj F cb) :: (cb, mobj .i64 (mput ces cc i (chV ca m c9 (crcOf l))) (mclk ces cc i)) :: (sg ++ R)) (res1 rfl (.tmp rfl)) (by intro _ h; first | exact h | (rw [set_app] at h; exact h.perm ((List.perm_append_comm_assoc sg [(fb, fobj F cb), (cb, mobj .i64 (mput ces cc i (chV ca m c9 (crcOf l))) (mclk ces cc i))] R)))) ?_
    have hyes : wOk F i m := by unfold wOk; omega
    exact ⟨fun _ => ⟨ca, c9, sg, rfl, rfl, hown⟩, fun h => absurd hyes h⟩

set_option maxRecDepth 100000 in
theorem Write_none {W0 : World} {H : Hp} {g mb c : Nat} {es : List Ent} {id i : Int} {sl : Value} (hg : (g, sobj mb) ∈ H) (hm : (mb, mobj .u64 es c) ∈ H) (hl : mlook es id = none) : CxD Try.prog W0 40 #[.pointer (some ⟨g, 0, none⟩), .int .u64 id, .int .i64 i, sl] H (.int .i64 4) H := by
  refine enter Try.func40 rfl Try.ntmps40 rfl ?_
  refine WC.seq ?_
  refine WC.region ?_
  refine WL.p (.none rfl) rfl (OpP.assign rfl) ?_
  refine WL.nil ?_
  refine EQ.sub ((Sub.cons (i := 0) rfl (Sub.cons (i := 1) rfl (Sub.cons (i := 2) rfl (Sub.cons (i := 3) rfl (Sub.cons (i := 8) rfl (Sub.nil _))))))) ?_
  refine EQ.code ?_
  refine WC.seq ?_
  refine WC.region ?_
  refine WL.p (.none rfl) rfl (OpP.move rfl) ?_
  refine WL.p (.none rfl) rfl (OpP.move rfl) ?_
  refine WL.callD rfl (.none rfl) rfl k_62 rfl (find_none hg hm hl) ?_
  refine WL.p (.none rfl) rfl (OpP.move rfl) ?_
  refine WL.p (.none rfl) rfl (OpP.extract rfl rfl) ?_
  refine WL.p (.none rfl) rfl (OpP.extract rfl rfl) ?_
  refine WL.p (.none rfl) rfl (OpP.assign rfl) ?_
  refine WL.p (.none rfl) rfl (OpP.assign rfl) ?_
  refine WL.nil ?_
  refine EQ.sub ((Sub.cons (i := 2) rfl (Sub.cons (i := 3) rfl (Sub.cons (i := 8) rfl (Sub.cons (i := 9) rfl (Sub.cons (i := 10) rfl (Sub.nil _))))))) ?_
  refine EQ.code ?_
  refine WC.seq ?_
  refine WC.block ?_
  refine WC.seq ?_
  refine WC.region ?_
  refine WL.p (.none rfl) rfl (OpP.move rfl) ?_
  refine WL.p (.none rfl) rfl (OpP.neqI rfl rfl) ?_
  refine WL.p (.none rfl) rfl (OpP.assign rfl) ?_
  refine WL.nil ?_
  refine EQ.sub ((Sub.cons (i := 2) rfl (Sub.cons (i := 3) rfl (Sub.cons (i := 8) rfl (Sub.cons (i := 9) rfl (Sub.cons (i := 10) rfl (Sub.cons (i := 17) rfl (Sub.nil _)))))))) ?_
  refine EQ.code ?_
  refine WC.condT rfl ?_
  refine WC.seq ?_
  refine WC.region ?_
  refine WL.p (.none rfl) rfl (OpP.move rfl) ?_
  refine WL.p (.none rfl) rfl (OpP.assign rfl) ?_
  refine WL.nil ?_
  refine EQ.sub ((Sub.cons (i := 2) rfl (Sub.cons (i := 3) rfl (Sub.cons (i := 8) rfl (Sub.cons (i := 9) rfl (Sub.nil _)))))) ?_
  refine EQ.code ?_
  refine WC.ret ?_
  refine EQ.blockR ?_
  refine EQ.thenR ?_
  refine EQ.fin (res1 rfl (.tmp rfl)) ?_
  exact ⟨rfl, rfl⟩

set_option maxRecDepth 100000 in
theorem Write_nil {W0 : World} {H : Hp} {id i : Int} {sl : Value} : CxD Try.prog W0 40 #[.pointer none, .int .u64 id, .int .i64 i, sl] H (.int .i64 6) H := by
  refine enter Try.func40 rfl Try.ntmps40 rfl ?_
  refine WC.seq ?_
  refine WC.region ?_
  refine WL.p (.none rfl) rfl (OpP.assign rfl) ?_
  refine WL.nil ?_
  refine EQ.sub ((Sub.cons (i := 0) rfl (Sub.cons (i := 1) rfl (Sub.cons (i := 2) rfl (Sub.cons (i := 3) rfl (Sub.cons (i := 8) rfl (Sub.nil _))))))) ?_
  refine EQ.code ?_
  refine WC.seq ?_
  refine WC.region ?_
  refine WL.p (.none rfl) rfl (OpP.move rfl) ?_
  refine WL.p (.none rfl) rfl (OpP.move rfl) ?_
  refine WL.callD rfl (.none rfl) rfl k_62 rfl (find_nil) ?_
  refine WL.p (.none rfl) rfl (OpP.move rfl) ?_
  refine WL.p (.none rfl) rfl (OpP.extract rfl rfl) ?_
  refine WL.p (.none rfl) rfl (OpP.extract rfl rfl) ?_
  refine WL.p (.none rfl) rfl (OpP.assign rfl) ?_
  refine WL.p (.none rfl) rfl (OpP.assign rfl) ?_
  refine WL.nil ?_
  refine EQ.sub ((Sub.cons (i := 2) rfl (Sub.cons (i := 3) rfl (Sub.cons (i := 8) rfl (Sub.cons (i := 9) rfl (Sub.cons (i := 10) rfl (Sub.nil _))))))) ?_
  refine EQ.code ?_
  refine WC.seq ?_
  refine WC.block ?_
  refine WC.seq ?_
  refine WC.region ?_
  refine WL.p (.none rfl) rfl (OpP.move rfl) ?_
  refine WL.p (.none rfl) rfl (OpP.neqI rfl rfl) ?_
  refine WL.p (.none rfl) rfl (OpP.assign rfl) ?_
  refine WL.nil ?_
  refine EQ.sub ((Sub.cons (i := 2) rfl (Sub.cons (i := 3) rfl (Sub.cons (i := 8) rfl (Sub.cons (i := 9) rfl (Sub.cons (i := 10) rfl (Sub.cons (i := 17) rfl (Sub.nil _)))))))) ?_
  refine EQ.code ?_
  refine WC.condT rfl ?_
  refine WC.seq ?_
  refine WC.region ?_
  refine WL.p (.none rfl) rfl (OpP.move rfl) ?_
  refine WL.p (.none rfl) rfl (OpP.assign rfl) ?_
  refine WL.nil ?_
  refine EQ.sub ((Sub.cons (i := 2) rfl (Sub.cons (i := 3) rfl (Sub.cons (i := 8) rfl (Sub.cons (i := 9) rfl (Sub.nil _)))))) ?_
  refine EQ.code ?_
  refine WC.ret ?_
  refine EQ.blockR ?_
  refine EQ.thenR ?_
  refine EQ.fin (res1 rfl (.tmp rfl)) ?_
  exact ⟨rfl, rfl⟩

set_option maxRecDepth 100000 in
theorem Map_c {W0 : World} {H : Hp} {F : FileM} {g mb c fb : Nat} {es : List Ent} {id : Int} (hg : (g, sobj mb) ∈ H) (hm : (mb, mobj .u64 es c) ∈ H) (hl : mlook es id = some (.pointer (some ⟨fb, 0, none⟩))) (hs : See W0 H F fb) : CxD Try.prog W0 43 #[.pointer (some ⟨g, 0, none⟩), .int .u64 id] H (.tuple #[mv (chunks F.size) ((F.mask : Nat) : Int), .int .i64 0]) H := by
  refine enter Try.func43 rfl Try.ntmps43 rfl ?_
  refine WC.seq ?_
  refine WC.region ?_
  refine WL.allocX z_38 rfl (fun b4 => ?_)
  refine WL.p (.none rfl) rfl (OpP.assign rfl) ?_
  refine WL.nil ?_
  refine EQ.sub ((Sub.cons (i := 0) rfl (Sub.cons (i := 1) rfl (Sub.cons (i := 4) rfl (Sub.cons (i := 5) rfl (Sub.nil _)))))) ?_
  refine EQ.code ?_
  refine WC.seq ?_
  refine WC.region ?_
  refine WL.p (.none rfl) rfl (OpP.move rfl) ?_
  refine WL.p (.none rfl) rfl (OpP.move rfl) ?_
  refine WL.callD rfl (.none rfl) rfl k_62 rfl (find_some (List.mem_cons_of_mem _ hg) (List.mem_cons_of_mem _ hm) hl) ?_
  refine WL.p (.none rfl) rfl (OpP.move rfl) ?_
  refine WL.p (.none rfl) rfl (OpP.extract rfl rfl) ?_
  refine WL.p (.none rfl) rfl (OpP.extract rfl rfl) ?_
  refine WL.p (.none rfl) rfl (OpP.assign rfl) ?_
  refine WL.p (.none rfl) rfl (OpP.assign rfl) ?_
  refine WL.nil ?_
  refine EQ.sub ((Sub.cons (i := 4) rfl (Sub.cons (i := 5) rfl (Sub.cons (i := 6) rfl (Sub.cons (i := 7) rfl (Sub.nil _)))))) ?_
  refine EQ.code ?_
  refine WC.seq ?_
  refine WC.seq ?_
  refine WC.region ?_
  refine WL.p (.none rfl) rfl (OpP.move rfl) ?_
  refine WL.p (.none rfl) rfl (OpP.neqI rfl rfl) ?_
  refine WL.nil ?_
  refine EQ.sub ((Sub.cons (i := 4) rfl (Sub.cons (i := 5) rfl (Sub.cons (i := 6) rfl (Sub.cons (i := 7) rfl (Sub.cons (i := 15) rfl (Sub.nil _))))))) ?_
  refine EQ.code ?_
  refine WC.condF rfl ?_
  refine WC.skip ?_
  refine EQ.code ?_
  refine WC.seq ?_
  refine WC.region ?_
  refine WL.p (.none rfl) rfl (OpP.move rfl) ?_
  refine WL.callD rfl (.none rfl) rfl k_59 rfl (bits_c (hs.cons _)) ?_
  refine WL.p (.none rfl) rfl (OpP.extract rfl rfl) ?_
  refine WL.p (.none rfl) rfl (OpP.extract rfl rfl) ?_
  first | (refine WL.s (.none rfl) rfl (OpS.storeAll rfl rfl ty_38 (by repeat (first | assumption | exact at0 | exact set_hit (by first | assumption | exact set_hit (by assumption)) | apply ats)) (by rfl) (by rfl) (by rfl) (by rfl)) ?_) | (refine WL.s (.none rfl) rfl (OpS.store rfl rfl ty_38 (by repeat (first | assumption | exact at0 | exact set_hit (by first | assumption | exact set_hit (by assumption)) | apply ats)) (by rfl) (by rfl) (by rfl) (by rfl)) ?_)
  refine WL.p (.none rfl) rfl (OpP.assign rfl) ?_
  refine WL.nil ?_
  refine EQ.sub ((Sub.cons (i := 4) rfl (Sub.cons (i := 5) rfl (Sub.nil _)))) ?_
  refine EQ.code ?_
  refine WC.ret ?_
  refine EQ.finD (H' := H) (res2 rfl (.cellB rfl ty_38 (by repeat (first | assumption | exact List.mem_cons_self | exact List.mem_of_getElem? (by assumption) | exact set_mem (by first | assumption | exact set_hit (by assumption)) | apply List.mem_cons_of_mem | apply List.mem_append_right)) (by rfl)) (.tmp rfl)) (by intro _ h; first | exact h | exact h.drop | exact h.drop.drop | exact h.drop.drop.drop | exact h.drop.drop.drop.drop | exact h.drop.drop.drop.drop.drop | exact h.drop.drop.drop.drop.drop.drop | exact h.drop_mid) ?_
  exact ⟨rfl, rfl⟩

set_option maxRecDepth 100000 in
theorem Map_none {W0 : World} {H : Hp} {g mb c : Nat} {es : List Ent} {id : Int} (hg : (g, sobj mb) ∈ H) (hm : (mb, mobj .u64 es c) ∈ H) (hl : mlook es id = none) : CxD Try.prog W0 43 #[.pointer (some ⟨g, 0, none⟩), .int .u64 id] H (.tuple #[mv 0 0, .int .i64 4]) H := by
  refine enter Try.func43 rfl Try.ntmps43 rfl ?_
  refine WC.seq ?_
  refine WC.region ?_
  refine WL.allocX z_38 rfl (fun b4 => ?_)
  refine WL.p (.none rfl) rfl (OpP.assign rfl) ?_
  refine WL.nil ?_
  refine EQ.sub ((Sub.cons (i := 0) rfl (Sub.cons (i := 1) rfl (Sub.cons (i := 4) rfl (Sub.cons (i := 5) rfl (Sub.nil _)))))) ?_
  refine EQ.code ?_
  refine WC.seq ?_
  refine WC.region ?_
  refine WL.p (.none rfl) rfl (OpP.move rfl) ?_
  refine WL.p (.none rfl) rfl (OpP.move rfl) ?_
  refine WL.callD rfl (.none rfl) rfl k_62 rfl (find_none (List.mem_cons_of_mem _ hg) (List.mem_cons_of_mem _ hm) hl) ?_
  refine WL.p (.none rfl) rfl (OpP.move rfl) ?_
  refine WL.p (.none rfl) rfl (OpP.extract rfl rfl) ?_
  refine WL.p (.none rfl) rfl (OpP.extract rfl rfl) ?_
  refine WL.p (.none rfl) rfl (OpP.assign rfl) ?_
  refine WL.p (.none rfl) rfl (OpP.assign rfl) ?_
  refine WL.nil ?_
  refine EQ.sub ((Sub.cons (i := 4) rfl (Sub.cons (i := 5) rfl (Sub.cons (i := 6) rfl (Sub.cons (i := 7) rfl (Sub.nil _)))))) ?_
  refine EQ.code ?_
  refine WC.seq ?_
  refine WC.seq ?_
  refine WC.region ?_
  refine WL.p (.none rfl) rfl (OpP.move rfl) ?_
  refine WL.p (.none rfl) rfl (OpP.neqI rfl rfl) ?_
  refine WL.nil ?_
  refine EQ.sub ((Sub.cons (i := 4) rfl (Sub.cons (i := 5) rfl (Sub.cons (i := 6) rfl (Sub.cons (i := 7) rfl (Sub.cons (i := 15) rfl (Sub.nil _))))))) ?_
  refine EQ.code ?_
  refine WC.condT rfl ?_
  refine WC.seq ?_
  refine WC.region ?_
  refine WL.p (.none rfl) rfl (OpP.buildS bld_38 kI0 (by rfl)) ?_
  refine WL.p (.none rfl) rfl (OpP.move rfl) ?_
  first | (refine WL.s (.none rfl) rfl (OpS.storeAll rfl rfl ty_38 (by repeat (first | assumption | exact at0 | exact set_hit (by first | assumption | exact set_hit (by assumption)) | apply ats)) (by rfl) (by rfl) (by rfl) (by rfl)) ?_) | (refine WL.s (.none rfl) rfl (OpS.store rfl rfl ty_38 (by repeat (first | assumption | exact at0 | exact set_hit (by first | assumption | exact set_hit (by assumption)) | apply ats)) (by rfl) (by rfl) (by rfl) (by rfl)) ?_)
  refine WL.p (.none rfl) rfl (OpP.assign rfl) ?_
  refine WL.nil ?_
  refine EQ.sub ((Sub.cons (i := 4) rfl (Sub.cons (i := 5) rfl (Sub.cons (i := 6) rfl (Sub.nil _))))) ?_
  refine EQ.code ?_
  refine WC.ret ?_
  refine EQ.thenR ?_
  refine EQ.finD (H' := H) (res2 rfl (.cellB rfl ty_38 (by repeat (first | assumption | exact List.mem_cons_self | exact List.mem_of_getElem? (by assumption) | exact set_mem (by first | assumption | exact set_hit (by assumption)) | apply List.mem_cons_of_mem | apply List.mem_append_right)) (by rfl)) (.tmp rfl)) (by intro _ h; first | exact h | exact h.drop | exact h.drop.drop | exact h.drop.drop.drop | exact h.drop.drop.drop.drop | exact h.drop.drop.drop.drop.drop | exact h.drop.drop.drop.drop.drop.drop | exact h.drop_mid) ?_
  exact ⟨rfl, rfl⟩

set_option maxRecDepth 100000 in
theorem Map_zero {W0 : World} {H : Hp} {g : Nat} {id : Int} (hg : (g, cl [.map none] 97) ∈ H) : CxD Try.prog W0 43 #[.pointer (some ⟨g, 0, none⟩), .int .u64 id] H (.tuple #[mv 0 0, .int .i64 6]) H := by
  refine enter Try.func43 rfl Try.ntmps43 rfl ?_
  refine WC.seq ?_
  refine WC.region ?_
  refine WL.allocX z_38 rfl (fun b4 => ?_)
  refine WL.p (.none rfl) rfl (OpP.assign rfl) ?_
  refine WL.nil ?_
  refine EQ.sub ((Sub.cons (i := 0) rfl (Sub.cons (i := 1) rfl (Sub.cons (i := 4) rfl (Sub.cons (i := 5) rfl (Sub.nil _)))))) ?_
  refine EQ.code ?_
  refine WC.seq ?_
  refine WC.region ?_
  refine WL.p (.none rfl) rfl (OpP.move rfl) ?_
  refine WL.p (.none rfl) rfl (OpP.move rfl) ?_
  refine WL.callD rfl (.none rfl) rfl k_62 rfl (find_zero (List.mem_cons_of_mem _ hg)) ?_
  refine WL.p (.none rfl) rfl (OpP.move rfl) ?_
  refine WL.p (.none rfl) rfl (OpP.extract rfl rfl) ?_
  refine WL.p (.none rfl) rfl (OpP.extract rfl rfl) ?_
  refine WL.p (.none rfl) rfl (OpP.assign rfl) ?_
  refine WL.p (.none rfl) rfl (OpP.assign rfl) ?_
  refine WL.nil ?_
  refine EQ.sub ((Sub.cons (i := 4) rfl (Sub.cons (i := 5) rfl (Sub.cons (i := 6) rfl (Sub.cons (i := 7) rfl (Sub.nil _)))))) ?_
  refine EQ.code ?_
  refine WC.seq ?_
  refine WC.seq ?_
  refine WC.region ?_
  refine WL.p (.none rfl) rfl (OpP.move rfl) ?_
  refine WL.p (.none rfl) rfl (OpP.neqI rfl rfl) ?_
  refine WL.nil ?_
  refine EQ.sub ((Sub.cons (i := 4) rfl (Sub.cons (i := 5) rfl (Sub.cons (i := 6) rfl (Sub.cons (i := 7) rfl (Sub.cons (i := 15) rfl (Sub.nil _))))))) ?_
  refine EQ.code ?_
  refine WC.condT rfl ?_
  refine WC.seq ?_
  refine WC.region ?_
  refine WL.p (.none rfl) rfl (OpP.buildS bld_38 kI0 (by rfl)) ?_
  refine WL.p (.none rfl) rfl (OpP.move rfl) ?_
  first | (refine WL.s (.none rfl) rfl (OpS.storeAll rfl rfl ty_38 (by repeat (first | assumption | exact at0 | exact set_hit (by first | assumption | exact set_hit (by assumption)) | apply ats)) (by rfl) (by rfl) (by rfl) (by rfl)) ?_) | (refine WL.s (.none rfl) rfl (OpS.store rfl rfl ty_38 (by repeat (first | assumption | exact at0 | exact set_hit (by first | assumption | exact set_hit (by assumption)) | apply ats)) (by rfl) (by rfl) (by rfl) (by rfl)) ?_)
  refine WL.p (.none rfl) rfl (OpP.assign rfl) ?_
  refine WL.nil ?_
  refine EQ.sub ((Sub.cons (i := 4) rfl (Sub.cons (i := 5) rfl (Sub.cons (i := 6) rfl (Sub.nil _))))) ?_
  refine EQ.code ?_
  refine WC.ret ?_
  refine EQ.thenR ?_
  refine EQ.finD (H' := H) (res2 rfl (.cellB rfl ty_38 (by repeat (first | assumption | exact List.mem_cons_self | exact List.mem_of_getElem? (by assumption) | exact set_mem (by first | assumption | exact set_hit (by assumption)) | apply List.mem_cons_of_mem | apply List.mem_append_right)) (by rfl)) (.tmp rfl)) (by intro _ h; first | exact h | exact h.drop | exact h.drop.drop | exact h.drop.drop.drop | exact h.drop.drop.drop.drop | exact h.drop.drop.drop.drop.drop | exact h.drop.drop.drop.drop.drop.drop | exact h.drop_mid) ?_
  exact ⟨rfl, rfl⟩

/-- The bytes of the first k chunks. -/
def FileM.catN (F : FileM) (k : Nat) : List Int := (List.range k).flatMap fun (i : Nat) => ((F.look (i : Int)).map Ch.b).getD []
theorem FileM.catN_succ (F : FileM) (k : Nat) : F.catN (k + 1) = F.catN k ++ ((F.look (k : Int)).map Ch.b).getD [] := by simp [FileM.catN, List.range_succ]
def FileM.cat (F : FileM) : List Int := F.catN (chunks F.size).toNat
def FileM.all (F : FileM) : Bool := (List.range (chunks F.size).toNat).all fun (i : Nat) => F.snd (i : Int)
def sumEq (f h : Nat → Int) : Bool := cellsEq (sumL f) (sumL h)
/-- What Whole tells. -/
def FileM.wholeE (F : FileM) : Int := if F.all then (if sumEq (sumF F.cat) F.sum then 0 else 40) else 10
theorem flat32 : flatT Try.prog 2 32 = some (List.replicate 32 (.i .u8)) := by kernel_rfl
theorem snd_look {F : FileM} {j : Int} (h : F.snd j = true) : ∃ h0, F.look j = some h0 := by
  unfold FileM.snd at h
  cases hl : F.look j with
  | none => rw [hl] at h; cases h
  | some h0 => exact ⟨h0, rfl⟩

set_option maxRecDepth 100000 in
theorem Whole_c {W0 : World} {H : Hp} {F : FileM} {g mb c fb : Nat} {es : List Ent} {id : Int} (hg : (g, sobj mb) ∈ H) (hm : (mb, mobj .u64 es c) ∈ H) (hl : mlook es id = some (.pointer (some ⟨fb, 0, none⟩))) (hs : See W0 H F fb) : CxX Try.prog W0 41 #[.pointer (some ⟨g, 0, none⟩), .int .u64 id] H (fun v H' => ∃ a n c9 ds, H' = ds ++ H ∧ v = .tuple #[.slice a n c9, .int .i64 F.wholeE] ∧ (F.wholeE = 0 → n = F.cat.length ∧ ∀ W R, Sl W (ds ++ R) a (iv .u8 F.cat)) ∧ (F.wholeE ≠ 0 → n = 0)) := by
  have hch2 := chunks_bd F.size
  have hs2 := hs
  obtain ⟨cb, ces, cc, dC, hm1, hm2, hds, hch⟩ := hs2
  refine enter Try.func41 rfl Try.ntmps41 rfl ?_
  refine WC.seq ?_
  refine WC.region ?_
  refine WL.p (.none rfl) rfl (OpP.assign rfl) ?_
  refine WL.p (.none rfl) rfl (OpP.assign rfl) ?_
  refine WL.nil ?_
  refine EQ.sub ((Sub.cons (i := 0) rfl (Sub.cons (i := 1) rfl (Sub.cons (i := 4) rfl (Sub.cons (i := 5) rfl (Sub.nil _)))))) ?_
  refine EQ.code ?_
  refine WC.seq ?_
  refine WC.region ?_
  refine WL.p (.none rfl) rfl (OpP.move rfl) ?_
  refine WL.p (.none rfl) rfl (OpP.move rfl) ?_
  refine WL.callD rfl (.none rfl) rfl k_62 rfl (find_some hg hm hl) ?_
  refine WL.p (.none rfl) rfl (OpP.move rfl) ?_
  refine WL.p (.none rfl) rfl (OpP.extract rfl rfl) ?_
  refine WL.p (.none rfl) rfl (OpP.extract rfl rfl) ?_
  refine WL.p (.none rfl) rfl (OpP.assign rfl) ?_
  refine WL.p (.none rfl) rfl (OpP.assign rfl) ?_
  refine WL.nil ?_
  refine EQ.sub ((Sub.cons (i := 4) rfl (Sub.cons (i := 5) rfl (Sub.cons (i := 6) rfl (Sub.cons (i := 7) rfl (Sub.nil _)))))) ?_
  refine EQ.code ?_
  refine WC.seq ?_
  refine WC.seq ?_
  refine WC.region ?_
  refine WL.p (.none rfl) rfl (OpP.move rfl) ?_
  refine WL.p (.none rfl) rfl (OpP.neqI rfl rfl) ?_
  refine WL.nil ?_
  refine EQ.sub ((Sub.cons (i := 4) rfl (Sub.cons (i := 5) rfl (Sub.cons (i := 6) rfl (Sub.cons (i := 7) rfl (Sub.cons (i := 17) rfl (Sub.nil _))))))) ?_
  refine EQ.code ?_
  refine WC.condF rfl ?_
  refine WC.skip ?_
  refine EQ.code ?_
  refine WC.seq ?_
  refine WC.region ?_
  refine WL.p (.none rfl) rfl (OpP.assign rfl) ?_
  refine WL.nil ?_
  refine EQ.sub ((Sub.cons (i := 4) rfl (Sub.cons (i := 5) rfl (Sub.cons (i := 6) rfl (Sub.cons (i := 8) rfl (Sub.nil _)))))) ?_
  refine EQ.code ?_
  refine WC.seq ?_
  refine WC.seq ?_
  refine WC.region ?_
  refine WL.p (.none rfl) rfl (OpP.move rfl) ?_
  refine WL.p (.none rfl) rfl (OpP.nilCheck rfl) ?_
  refine WL.p (.none rfl) rfl (OpP.fieldAddr rfl fld_101_0) ?_
  refine WL.p (.none rfl) rfl (OpP.fieldAddr rfl fld_34_2) ?_
  refine WL.p (.none rfl) rfl (OpP.load rfl ty_3 (Rd.own (by repeat (first | assumption | exact List.mem_cons_self | exact List.mem_of_getElem? (by assumption) | exact set_mem (by first | assumption | exact set_hit (by assumption)) | apply List.mem_cons_of_mem | apply List.mem_append_right)) (by rfl))) ?_
  refine WL.callD rfl (.none rfl) rfl k_34 rfl (Chunks_c) ?_
  refine WL.p (.none rfl) rfl (OpP.move rfl) ?_
  refine WL.nil ?_
  refine EQ.sub ((Sub.cons (i := 4) rfl (Sub.cons (i := 5) rfl (Sub.cons (i := 6) rfl (Sub.cons (i := 8) rfl (Sub.cons (i := 24) rfl (Sub.cons (i := 25) rfl (Sub.nil _)))))))) ?_
  refine EQ.code ?_
  refine WC.block ?_
  refine WC.loop (σ := Nat × Value × Hp) (fun s => [(6, .pointer (some ⟨fb, 0, none⟩)), (8, s.2.1), (24, .int .i64 (chunks F.size)), (25, .int .i64 (s.1 : Int))]) (fun s => s.2.2 ++ H) (fun s => (s.1 : Int) ≤ chunks F.size ∧ OwnS 5 1 s.2.1 (F.catN s.1).length (iv .u8 (F.catN s.1)) s.2.2 ∧ (F.catN s.1).length ≤ 64 * s.1 ∧ ∀ i, i < s.1 → F.snd (i : Int) = true) (fun s => (chunks F.size).toNat - s.1) (0, .slice none 0 0, []) ⟨hch2.1, OwnS.nil _ _, by simp [FileM.catN], fun i hi => by omega⟩ ((Sub.cons rfl (Sub.cons rfl (Sub.cons rfl (Sub.cons rfl (Sub.nil _)))))) (fun _ h => h) (fun ⟨k, v, d⟩ hinv => ?_)
  (try simp only at hinv ⊢)
  obtain ⟨hk, hown, hlen, hall⟩ := hinv
  refine WC.seq ?_
  refine WC.region ?_
  refine WL.p (.none rfl) rfl (OpP.lss rfl rfl) ?_
  refine WL.nil ?_
  refine EQ.sub ((Sub.cons (i := 6) rfl (Sub.cons (i := 8) rfl (Sub.cons (i := 24) rfl (Sub.cons (i := 25) rfl (Sub.cons (i := 26) rfl (Sub.nil _))))))) ?_
  refine EQ.code ?_
  refine WC.seq ?_
  refine WC.cond rfl (fun hc1 => ?_) (fun hc1 => ?_)
  · -- cond 1 t
    (try simp only [decide_eq_true_eq, decide_eq_false_iff_not, Bool.not_eq_true', Bool.not_eq_false', Bool.or_eq_true, Bool.and_eq_true, Bool.or_eq_false_iff, Bool.and_eq_false_imp, Option.isNone_some, Bool.false_eq_true, false_or, true_and] at hc1)
    refine WC.skip ?_
    refine EQ.code ?_
    refine WC.seq ?_
    refine WC.block ?_
    refine WC.seq ?_
    refine WC.region ?_
    refine WL.p (.none rfl) rfl (OpP.move rfl) ?_
    refine WL.p (.none rfl) rfl (OpP.assign rfl) ?_
    refine WL.nil ?_
    refine EQ.sub ((Sub.cons (i := 6) rfl (Sub.cons (i := 8) rfl (Sub.cons (i := 9) rfl (Sub.cons (i := 24) rfl (Sub.cons (i := 25) rfl (Sub.nil _))))))) ?_
    refine EQ.code ?_
    refine WC.seq ?_
    refine WC.seq ?_
    refine WC.region ?_
    refine WL.p (.none rfl) rfl (OpP.move rfl) ?_
    refine WL.p (.none rfl) rfl (OpP.move rfl) ?_
    refine WL.callD rfl (.none rfl) rfl k_64 rfl (sound_c (hs.app d)) ?_
    refine WL.p (.none rfl) rfl (OpP.not rfl) ?_
    refine WL.nil ?_
    refine EQ.sub ((Sub.cons (i := 6) rfl (Sub.cons (i := 8) rfl (Sub.cons (i := 9) rfl (Sub.cons (i := 24) rfl (Sub.cons (i := 25) rfl (Sub.cons (i := 31) rfl (Sub.nil _)))))))) ?_
    refine EQ.code ?_
    refine WC.cond rfl (fun hc2 => ?_) (fun hc2 => ?_)
    · -- cond 2 t
      (try simp only [decide_eq_true_eq, decide_eq_false_iff_not, Bool.not_eq_true', Bool.not_eq_false', Bool.or_eq_true, Bool.and_eq_true, Bool.or_eq_false_iff, Bool.and_eq_false_imp, Option.isNone_some, Bool.false_eq_true, false_or, true_and] at hc2)
      refine WC.seq ?_
      refine WC.region ?_
      refine WL.p (.none rfl) rfl (OpP.assign rfl) ?_
      refine WL.p (.none rfl) rfl (OpP.assign rfl) ?_
      refine WL.nil ?_
      refine EQ.sub ((Sub.cons (i := 4) rfl (Sub.cons (i := 5) rfl (Sub.cons (i := 6) rfl (Sub.cons (i := 8) rfl (Sub.cons (i := 9) rfl (Sub.cons (i := 24) rfl (Sub.cons (i := 25) rfl (Sub.nil _))))))))) ?_
      refine EQ.code ?_
      refine WC.ret ?_
      refine EQ.thenR ?_
      refine EQ.blockR ?_
      refine EQ.thenR ?_
      refine EQ.thenR ?_
      refine EQ.blockR ?_
      refine EQ.thenR ?_
      refine EQ.finD (H' := [] ++ H) (res2 rfl (.tmp rfl) (.tmp rfl)) (by intro _ h; first | exact h.sublist (List.sublist_append_right _ _) | exact h.drop | exact h.drop.sublist (List.sublist_append_right _ _) | exact h) ?_
      have hall2 : F.all = false := by
        cases hq : F.all with
        | false => rfl
        | true => exfalso; have := List.all_eq_true.1 hq k (by simp; omega); rw [this] at hc2; cases hc2
      have hE : F.wholeE = 10 := by unfold FileM.wholeE; rw [hall2]; rfl
      exact ⟨none, 0, 0, [], rfl, by rw [hE], (fun h => by rw [hE] at h; cases h), fun _ => rfl⟩
    · -- cond 2 f
      (try simp only [decide_eq_true_eq, decide_eq_false_iff_not, Bool.not_eq_true', Bool.not_eq_false', Bool.or_eq_true, Bool.and_eq_true, Bool.or_eq_false_iff, Bool.and_eq_false_imp, Option.isNone_some, Bool.false_eq_true, false_or, true_and] at hc2)
      refine WC.skip ?_
      refine EQ.code ?_
      refine WC.region ?_
      refine WL.p (.none rfl) rfl (OpP.move rfl) ?_
      refine WL.p (.none rfl) rfl (OpP.move rfl) ?_
      refine WL.p (.none rfl) rfl (OpP.nilCheck rfl) ?_
      refine WL.p (.none rfl) rfl (OpP.fieldAddr rfl fld_101_1) ?_
      refine WL.p (.none rfl) rfl (OpP.load rfl ty_99 (Rd.own (by repeat (first | assumption | exact List.mem_cons_self | exact List.mem_of_getElem? (by assumption) | exact set_mem (by first | assumption | exact set_hit (by assumption)) | apply List.mem_cons_of_mem | apply List.mem_append_right)) (by rfl))) ?_
      refine WL.p (.none rfl) rfl (OpP.move rfl) ?_
      obtain ⟨h0, hlook⟩ := snd_look hc2
      obtain ⟨a3, c3, hlk, hl64, hb3, hsl3⟩ := chr_see hch (k : Int) h0 hlook
      have hcat : F.catN (k + 1) = F.catN k ++ h0.b := by rw [F.catN_succ, hlook]; rfl
      refine WL.p (.none rfl) rfl (OpP.lookS rfl rfl map_99 (List.mem_append_right _ hm2) hlk) ?_
      refine WL.p (.none rfl) rfl (OpP.field rfl fld_110_0 rfl) ?_
      refine WL.append (seg := d) (R := H) (news := iv .u8 h0.b) rfl (.none rfl) rfl sl_23 rfl rfl hown (hsl3 W0 _ (fun w hS => hds w (hS.sublist (List.sublist_append_right _ _)))) (by simp) iv_mem (by decide) (by simp only [maxLen]; omega) (by omega) (fun v40 d4 hown4 _ => ?_)
      refine WL.p (.none rfl) rfl (OpP.assign rfl) ?_
      refine WL.nil ?_
      refine EQ.sub ((Sub.cons (i := 6) rfl (Sub.cons (i := 8) rfl (Sub.cons (i := 24) rfl (Sub.cons (i := 25) rfl (Sub.nil _)))))) ?_
      refine EQ.blockN ?_
      refine EQ.code ?_
      refine WC.region ?_
      first | (refine WL.p (.none rfl) rfl (OpP.add64 rfl rfl (by omega)) ?_) | (refine WL.p (.none rfl) rfl (OpP.add rfl rfl) ?_)
      refine WL.p (.none rfl) rfl (OpP.move rfl) ?_
      refine WL.nil ?_
      refine EQ.sub ((Sub.cons (i := 6) rfl (Sub.cons (i := 8) rfl (Sub.cons (i := 24) rfl (Sub.cons (i := 25) rfl (Sub.nil _)))))) ?_
      refine EQ.again (k + 1, v40, d4) ?_ ?_ ?_ ?_
      · refine ⟨by (try simp only); omega, ?_, ?_, fun i hi => ?_⟩
        · show OwnS 5 1 v40 _ _ d4
          rw [hcat, List.length_append, show iv .u8 (F.catN k ++ h0.b) = iv .u8 (F.catN k) ++ iv .u8 h0.b from List.map_append]; exact hown4
        · show (F.catN (k + 1)).length ≤ 64 * (k + 1)
          rw [hcat, List.length_append]; omega
        · by_cases e : i = k
          · subst e; exact hc2
          · exact hall i (by (try simp only at hi); omega)
      · (try simp only); omega
      · exact ((Sub.cons rfl (Sub.cons rfl (Sub.cons rfl (Sub.cons rfl (Sub.nil _))))))
      · intro _ h; first | exact h | exact h.drop | exact h.drop_mid | exact h.drop_mid.drop_mid
  · -- cond 1 f
    (try simp only [decide_eq_true_eq, decide_eq_false_iff_not, Bool.not_eq_true', Bool.not_eq_false', Bool.or_eq_true, Bool.and_eq_true, Bool.or_eq_false_iff, Bool.and_eq_false_imp, Option.isNone_some, Bool.false_eq_true, false_or, true_and] at hc1)
    refine WC.exit ?_
    refine EQ.thenE ?_
    refine EQ.thenE ?_
    refine EQ.blockHit ?_
    refine EQ.code ?_
    refine WC.seq ?_
    refine WC.seq ?_
    refine WC.mix (by kernel_rfl) ?_
    have hkn : k = (chunks F.size).toNat := by omega
    have hcatE : F.catN k = F.cat := by rw [hkn]; rfl
    rw [hcatE] at hown hlen
    obtain ⟨av, cv, rfl, hvc, hvc2, hvs⟩ := hown.val
    refine AJ.p (i := 0) rfl (by kernel_rfl) (.none rfl) rfl (OpP.move rfl) ?_
    refine AJ.p (i := 3) rfl (by kernel_rfl) (.none rfl) rfl (OpP.move rfl) ?_
    refine AJ.p (i := 4) rfl (by kernel_rfl) (.none rfl) rfl (OpP.nilCheck rfl) ?_
    refine AJ.p (i := 5) rfl (by kernel_rfl) (.none rfl) rfl (OpP.fieldAddr rfl fld_101_0) ?_
    refine AJ.p (i := 6) rfl (by kernel_rfl) (.none rfl) rfl (OpP.fieldAddr rfl fld_34_3) ?_
    refine AJ.p (i := 7) rfl (by kernel_rfl) (.none rfl) rfl (show OpP _ _ _ _ _ _ (.agg ⟨sumL F.sum⟩) from OpP.loadB (o := 0 + 3) rfl ty_32 (List.mem_append_right _ hm1) (by rfl)) ?_
    refine AJ.one 1 rfl (by kernel_rfl) (by intro _ h; first | exact h | exact h.drop | exact h.drop.drop | exact h.sublist (List.sublist_append_right _ _) | exact h.drop.sublist (List.sublist_append_right _ _)) ?_
    refine WL.buildSlice1 sl_87 rfl rfl (by decide) rfl rfl (by rfl) (fun b43 => ?_)
    refine WL.nil ?_
    refine EQ.an ?_
    refine AJ.one 2 rfl (by kernel_rfl) (by intro _ h; first | exact h | exact h.drop | exact h.drop.drop | exact h.sublist (List.sublist_append_right _ _) | exact h.drop.sublist (List.sublist_append_right _ _)) ?_
    refine WL.callD rfl (.none rfl) rfl k_28 rfl (Of_c (l := F.cat) rfl (by omega) hvc ((hvs W0 H).cons) (Sl.own List.mem_cons_self (fun j x hj => by simpa using hj))) ?_
    refine WL.nil ?_
    refine EQ.an ?_
    refine AJ.p (i := 8) rfl (by kernel_rfl) (.none rfl) rfl (OpP.neqF (D := 2) (xs := sumL (sumF F.cat)) (ys := sumL F.sum) rfl rfl flat32 ty_32 (by kernel_rfl) rfl (by rfl) (by rfl)) ?_
    refine AJ.done (by kernel_rfl) (by intro _ h; first | exact h | exact h.drop | exact h.drop.drop | exact h.sublist (List.sublist_append_right _ _) | exact h.drop.sublist (List.sublist_append_right _ _)) ?_
    refine EQ.sub ((Sub.cons (i := 8) rfl (Sub.cons (i := 50) rfl (Sub.nil _)))) ?_
    refine EQ.code ?_
    refine WC.cond rfl (fun hc3 => ?_) (fun hc3 => ?_)
    · -- cond 3 t
      (try simp only [decide_eq_true_eq, decide_eq_false_iff_not, Bool.not_eq_true', Bool.not_eq_false', Bool.or_eq_true, Bool.and_eq_true, Bool.or_eq_false_iff, Bool.and_eq_false_imp, Option.isNone_some, Bool.false_eq_true, false_or, true_and] at hc3)
      refine WC.seq ?_
      refine WC.region ?_
      refine WL.p (.none rfl) rfl (OpP.assign rfl) ?_
      refine WL.p (.none rfl) rfl (OpP.assign rfl) ?_
      refine WL.nil ?_
      refine EQ.sub ((Sub.cons (i := 4) rfl (Sub.cons (i := 5) rfl (Sub.cons (i := 8) rfl (Sub.nil _))))) ?_
      refine EQ.code ?_
      refine WC.ret ?_
      refine EQ.thenR ?_
      refine EQ.finD (H' := [] ++ H) (res2 rfl (.tmp rfl) (.tmp rfl)) (by intro _ h; first | exact h.sublist (List.sublist_append_right _ _) | exact h.drop | exact h.drop.sublist (List.sublist_append_right _ _) | exact h) ?_
      have hallT : F.all = true := List.all_eq_true.2 (fun i hi => hall i (by simp at hi; omega))
      have hE : F.wholeE = 40 := by unfold FileM.wholeE sumEq; rw [hallT, hc3]; rfl
      exact ⟨none, 0, 0, [], rfl, by rw [hE], (fun h => by rw [hE] at h; cases h), fun _ => rfl⟩
    · -- cond 3 f
      (try simp only [decide_eq_true_eq, decide_eq_false_iff_not, Bool.not_eq_true', Bool.not_eq_false', Bool.or_eq_true, Bool.and_eq_true, Bool.or_eq_false_iff, Bool.and_eq_false_imp, Option.isNone_some, Bool.false_eq_true, false_or, true_and] at hc3)
      refine WC.skip ?_
      refine EQ.code ?_
      refine WC.seq ?_
      refine WC.region ?_
      refine WL.p (.none rfl) rfl (OpP.move rfl) ?_
      refine WL.p (.none rfl) rfl (OpP.assign rfl) ?_
      refine WL.p (.none rfl) rfl (OpP.assign rfl) ?_
      refine WL.nil ?_
      refine EQ.sub ((Sub.cons (i := 4) rfl (Sub.cons (i := 5) rfl (Sub.nil _)))) ?_
      refine EQ.code ?_
      refine WC.ret ?_
      refine EQ.finD (H' := d ++ H) (res2 rfl (.tmp rfl) (.tmp rfl)) (by intro _ h; first | exact h.sublist (List.sublist_append_right _ _) | exact h.drop | exact h.drop.sublist (List.sublist_append_right _ _) | exact h) ?_
      have hallT : F.all = true := List.all_eq_true.2 (fun i hi => hall i (by simp at hi; omega))
      have hE : F.wholeE = 0 := by unfold FileM.wholeE sumEq; rw [hallT, hc3]; rfl
      exact ⟨av, _, cv, d, rfl, by rw [hE], fun _ => ⟨rfl, hvs⟩, fun h => absurd hE h⟩

set_option maxRecDepth 100000 in
theorem Whole_none {W0 : World} {H : Hp} {g mb c : Nat} {es : List Ent} {id : Int} (hg : (g, sobj mb) ∈ H) (hm : (mb, mobj .u64 es c) ∈ H) (hl : mlook es id = none) : CxD Try.prog W0 41 #[.pointer (some ⟨g, 0, none⟩), .int .u64 id] H (.tuple #[.slice none 0 0, .int .i64 4]) H := by
  refine enter Try.func41 rfl Try.ntmps41 rfl ?_
  refine WC.seq ?_
  refine WC.region ?_
  refine WL.p (.none rfl) rfl (OpP.assign rfl) ?_
  refine WL.p (.none rfl) rfl (OpP.assign rfl) ?_
  refine WL.nil ?_
  refine EQ.sub ((Sub.cons (i := 0) rfl (Sub.cons (i := 1) rfl (Sub.cons (i := 4) rfl (Sub.cons (i := 5) rfl (Sub.nil _)))))) ?_
  refine EQ.code ?_
  refine WC.seq ?_
  refine WC.region ?_
  refine WL.p (.none rfl) rfl (OpP.move rfl) ?_
  refine WL.p (.none rfl) rfl (OpP.move rfl) ?_
  refine WL.callD rfl (.none rfl) rfl k_62 rfl (find_none hg hm hl) ?_
  refine WL.p (.none rfl) rfl (OpP.move rfl) ?_
  refine WL.p (.none rfl) rfl (OpP.extract rfl rfl) ?_
  refine WL.p (.none rfl) rfl (OpP.extract rfl rfl) ?_
  refine WL.p (.none rfl) rfl (OpP.assign rfl) ?_
  refine WL.p (.none rfl) rfl (OpP.assign rfl) ?_
  refine WL.nil ?_
  refine EQ.sub ((Sub.cons (i := 4) rfl (Sub.cons (i := 5) rfl (Sub.cons (i := 6) rfl (Sub.cons (i := 7) rfl (Sub.nil _)))))) ?_
  refine EQ.code ?_
  refine WC.seq ?_
  refine WC.seq ?_
  refine WC.region ?_
  refine WL.p (.none rfl) rfl (OpP.move rfl) ?_
  refine WL.p (.none rfl) rfl (OpP.neqI rfl rfl) ?_
  refine WL.nil ?_
  refine EQ.sub ((Sub.cons (i := 4) rfl (Sub.cons (i := 5) rfl (Sub.cons (i := 6) rfl (Sub.cons (i := 7) rfl (Sub.cons (i := 17) rfl (Sub.nil _))))))) ?_
  refine EQ.code ?_
  refine WC.condT rfl ?_
  refine WC.seq ?_
  refine WC.region ?_
  refine WL.p (.none rfl) rfl (OpP.move rfl) ?_
  refine WL.p (.none rfl) rfl (OpP.assign rfl) ?_
  refine WL.p (.none rfl) rfl (OpP.assign rfl) ?_
  refine WL.nil ?_
  refine EQ.sub ((Sub.cons (i := 4) rfl (Sub.cons (i := 5) rfl (Sub.cons (i := 6) rfl (Sub.nil _))))) ?_
  refine EQ.code ?_
  refine WC.ret ?_
  refine EQ.thenR ?_
  refine EQ.finD (H' := H) (res2 rfl (.tmp rfl) (.tmp rfl)) (by intro _ h; first | exact h | exact h.drop | exact h.drop.drop | exact h.drop.drop.drop | exact h.drop.drop.drop.drop | exact h.drop.drop.drop.drop.drop | exact h.drop.drop.drop.drop.drop.drop | exact h.drop_mid) ?_
  exact ⟨rfl, rfl⟩

set_option maxRecDepth 100000 in
theorem Whole_nil {W0 : World} {H : Hp} {id : Int} : CxD Try.prog W0 41 #[.pointer none, .int .u64 id] H (.tuple #[.slice none 0 0, .int .i64 6]) H := by
  refine enter Try.func41 rfl Try.ntmps41 rfl ?_
  refine WC.seq ?_
  refine WC.region ?_
  refine WL.p (.none rfl) rfl (OpP.assign rfl) ?_
  refine WL.p (.none rfl) rfl (OpP.assign rfl) ?_
  refine WL.nil ?_
  refine EQ.sub ((Sub.cons (i := 0) rfl (Sub.cons (i := 1) rfl (Sub.cons (i := 4) rfl (Sub.cons (i := 5) rfl (Sub.nil _)))))) ?_
  refine EQ.code ?_
  refine WC.seq ?_
  refine WC.region ?_
  refine WL.p (.none rfl) rfl (OpP.move rfl) ?_
  refine WL.p (.none rfl) rfl (OpP.move rfl) ?_
  refine WL.callD rfl (.none rfl) rfl k_62 rfl (find_nil) ?_
  refine WL.p (.none rfl) rfl (OpP.move rfl) ?_
  refine WL.p (.none rfl) rfl (OpP.extract rfl rfl) ?_
  refine WL.p (.none rfl) rfl (OpP.extract rfl rfl) ?_
  refine WL.p (.none rfl) rfl (OpP.assign rfl) ?_
  refine WL.p (.none rfl) rfl (OpP.assign rfl) ?_
  refine WL.nil ?_
  refine EQ.sub ((Sub.cons (i := 4) rfl (Sub.cons (i := 5) rfl (Sub.cons (i := 6) rfl (Sub.cons (i := 7) rfl (Sub.nil _)))))) ?_
  refine EQ.code ?_
  refine WC.seq ?_
  refine WC.seq ?_
  refine WC.region ?_
  refine WL.p (.none rfl) rfl (OpP.move rfl) ?_
  refine WL.p (.none rfl) rfl (OpP.neqI rfl rfl) ?_
  refine WL.nil ?_
  refine EQ.sub ((Sub.cons (i := 4) rfl (Sub.cons (i := 5) rfl (Sub.cons (i := 6) rfl (Sub.cons (i := 7) rfl (Sub.cons (i := 17) rfl (Sub.nil _))))))) ?_
  refine EQ.code ?_
  refine WC.condT rfl ?_
  refine WC.seq ?_
  refine WC.region ?_
  refine WL.p (.none rfl) rfl (OpP.move rfl) ?_
  refine WL.p (.none rfl) rfl (OpP.assign rfl) ?_
  refine WL.p (.none rfl) rfl (OpP.assign rfl) ?_
  refine WL.nil ?_
  refine EQ.sub ((Sub.cons (i := 4) rfl (Sub.cons (i := 5) rfl (Sub.cons (i := 6) rfl (Sub.nil _))))) ?_
  refine EQ.code ?_
  refine WC.ret ?_
  refine EQ.thenR ?_
  refine EQ.finD (H' := H) (res2 rfl (.tmp rfl) (.tmp rfl)) (by intro _ h; first | exact h | exact h.drop | exact h.drop.drop | exact h.drop.drop.drop | exact h.drop.drop.drop.drop | exact h.drop.drop.drop.drop.drop | exact h.drop.drop.drop.drop.drop.drop | exact h.drop_mid) ?_
  exact ⟨rfl, rfl⟩

end Go.Proofs.Ytmeimjpjelmchaa
