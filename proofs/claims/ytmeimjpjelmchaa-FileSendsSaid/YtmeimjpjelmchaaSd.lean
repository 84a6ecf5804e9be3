/- Sd: walks of functions of the program, each over the rules of Sx. No conditions but those in the theorems' heads. -/
import Derived.Test.YtmeimjpjelmchaaSv
import Derived.Test.YtmeimjpjelmchaaProg
set_option linter.unusedVariables false
set_option linter.unusedSimpArgs false
namespace Go.Proofs.Ytmeimjpjelmchaa
open Go.RowKit Go.Sx
namespace Sd
theorem bld_101 : bldS Try.prog 101 = some ([(0, 35), (35, 1)], [.int .u64 0, .string ⟨#[]⟩, .int .i64 0, .int .u8 0, .int .u8 0, .int .u8 0, .int .u8 0, .int .u8 0, .int .u8 0, .int .u8 0, .int .u8 0, .int .u8 0, .int .u8 0, .int .u8 0, .int .u8 0, .int .u8 0, .int .u8 0, .int .u8 0, .int .u8 0, .int .u8 0, .int .u8 0, .int .u8 0, .int .u8 0, .int .u8 0, .int .u8 0, .int .u8 0, .int .u8 0, .int .u8 0, .int .u8 0, .int .u8 0, .int .u8 0, .int .u8 0, .int .u8 0, .int .u8 0, .int .u8 0, .map none]) := by kernel_rfl
theorem bld_38 : bldS Try.prog 38 = some ([(0, 1), (1, 1)], [.int .i64 0, .int .u64 0]) := by kernel_rfl
theorem el_23 : elI Try.prog 23 = some (none, 5, false, 1) := by kernel_rfl
theorem fld_101_0 : fldI Try.prog 101 0 = some (0, true, 35) := by kernel_rfl
theorem fld_101_1 : fldI Try.prog 101 1 = some (35, false, 1) := by kernel_rfl
theorem fld_110_0 : fldI Try.prog 110 0 = some (0, false, 1) := by kernel_rfl
theorem fld_34_0 : fldI Try.prog 34 0 = some (0, false, 1) := by kernel_rfl
theorem fld_97_0 : fldI Try.prog 97 0 = some (0, false, 1) := by kernel_rfl
theorem k_10 : Cal Try.prog 10 := ⟨_, _, Try.func10, by kernel_rfl, rfl⟩
theorem k_58 : Cal Try.prog 58 := ⟨_, _, Try.func58, by kernel_rfl, rfl⟩
theorem k_59 : Cal Try.prog 59 := ⟨_, _, Try.func59, by kernel_rfl, rfl⟩
theorem k_62 : Cal Try.prog 62 := ⟨_, _, Try.func62, by kernel_rfl, rfl⟩
theorem map_95 : mapI Try.prog 95 = some (22, .u64, (.pointer none)) := by kernel_rfl
theorem map_99 : mapI Try.prog 99 = some (3, .i64, .agg ⟨[.slice none 0 0, .int .u32 0]⟩) := by kernel_rfl
theorem ty_110 : tyI Try.prog 110 = some (true, 2) := by kernel_rfl
theorem ty_22 : tyI Try.prog 22 = some (false, 1) := by kernel_rfl
theorem ty_23 : tyI Try.prog 23 = some (false, 1) := by kernel_rfl
theorem ty_34 : tyI Try.prog 34 = some (true, 35) := by kernel_rfl
theorem ty_38 : tyI Try.prog 38 = some (true, 2) := by kernel_rfl
theorem ty_5 : tyI Try.prog 5 = some (false, 1) := by kernel_rfl
theorem ty_95 : tyI Try.prog 95 = some (false, 1) := by kernel_rfl
theorem ty_99 : tyI Try.prog 99 = some (false, 1) := by kernel_rfl
theorem z_110 : zI Try.prog 110 = some [.slice none 0 0, .int .u32 0] := by kernel_rfl
theorem z_38 : zI Try.prog 38 = some [.int .i64 0, .int .u64 0] := by kernel_rfl
end Sd
open Sd

def sameInfo (F X : FileM) : Bool := cellsEq (infoL F) (infoL X)
def fresh (X : FileM) : FileM := { X with ch := [] }
theorem mask_fresh (X : FileM) : (fresh X).mask = 0 := by
  unfold FileM.mask
  have h : ∀ k, maskN (fun i => (fresh X).snd (i : Int)) k = 0 := by
    intro k
    induction k with
    | zero => rfl
    | succ k ih => simp only [maskN, ih]; rfl
  exact h _
theorem see_fresh {W0 : World} {H : Hp} {X : FileM} {fb cb : Nat} (h1 : (fb, fobj X cb) ∈ H) (h2 : (cb, mobj .i64 [] 0) ∈ H) : See W0 H (fresh X) fb := ⟨cb, [], 0, [], h1, h2, fun w hS => hS.sublist (List.nil_sublist _), rfl⟩

set_option maxRecDepth 100000 in
theorem Open_bad {W0 : World} {H : Hp} {X : FileM} {g mb : Nat} (hg : (g, sobj mb) ∈ H) (hok : infoOk X.id X.nm X.size = false) : CxD Try.prog W0 38 #[.pointer (some ⟨g, 0, none⟩), .agg ⟨infoL X⟩] H (.tuple #[mv 0 0, .int .i64 3]) H := by
  refine enter Try.func38 rfl Try.ntmps38 rfl ?_
  refine WC.seq ?_
  refine WC.region ?_
  refine WL.box rfl rfl rfl (fun b3 => ?_)
  refine WL.allocX z_38 rfl (fun b4 => ?_)
  refine WL.p (.none rfl) rfl (OpP.assign rfl) ?_
  refine WL.nil ?_
  refine EQ.sub ((Sub.cons (i := 0) rfl (Sub.cons (i := 3) rfl (Sub.cons (i := 4) rfl (Sub.cons (i := 5) rfl (Sub.nil _)))))) ?_
  refine EQ.code ?_
  refine WC.seq ?_
  refine WC.block ?_
  refine WC.seq ?_
  refine WC.region ?_
  refine WL.p (.none rfl) rfl (OpP.move rfl) ?_
  refine WL.callD rfl (.none rfl) rfl k_58 rfl (made_c (List.mem_cons_of_mem _ (List.mem_cons_of_mem _ hg))) ?_
  refine WL.p (.none rfl) rfl (OpP.not rfl) ?_
  refine WL.p (.none rfl) rfl (OpP.assign rfl) ?_
  refine WL.nil ?_
  refine EQ.sub ((Sub.cons (i := 0) rfl (Sub.cons (i := 3) rfl (Sub.cons (i := 4) rfl (Sub.cons (i := 5) rfl (Sub.cons (i := 7) rfl (Sub.nil _))))))) ?_
  refine EQ.code ?_
  refine WC.condF rfl ?_
  refine WC.seq ?_
  refine WC.region ?_
  refine WL.p (.none rfl) rfl (OpP.loadB rfl ty_34 (by repeat (first | assumption | exact List.mem_cons_self | exact List.mem_of_getElem? (by assumption) | exact set_mem (by first | assumption | exact set_hit (by assumption)) | apply List.mem_cons_of_mem | apply List.mem_append_right)) (by rfl)) ?_
  refine WL.callD rfl (.none rfl) rfl k_10 rfl (CxD.to (StRight_c (id := X.id) (n := X.size) (nm := X.nm) (s := X.sum)) (by rw [hok]) rfl) ?_
  refine WL.p (.none rfl) rfl (OpP.not rfl) ?_
  refine WL.p (.none rfl) rfl (OpP.assign rfl) ?_
  refine WL.nil ?_
  refine EQ.sub ((Sub.cons (i := 0) rfl (Sub.cons (i := 3) rfl (Sub.cons (i := 4) rfl (Sub.cons (i := 5) rfl (Sub.cons (i := 12) rfl (Sub.nil _))))))) ?_
  refine EQ.code ?_
  refine WC.condT rfl ?_
  refine WC.seq ?_
  refine WC.region ?_
  refine WL.p (.none rfl) rfl (OpP.buildS bld_38 kI0 (by rfl)) ?_
  first | (refine WL.s (.none rfl) rfl (OpS.storeAll rfl rfl ty_38 (by repeat (first | assumption | exact at0 | exact set_hit (by first | assumption | exact set_hit (by assumption)) | apply ats)) (by rfl) (by rfl) (by rfl) (by rfl)) ?_) | (refine WL.s (.none rfl) rfl (OpS.store rfl rfl ty_38 (by repeat (first | assumption | exact at0 | exact set_hit (by first | assumption | exact set_hit (by assumption)) | apply ats)) (by rfl) (by rfl) (by rfl) (by rfl)) ?_)
  refine WL.p (.none rfl) rfl (OpP.assign rfl) ?_
  refine WL.nil ?_
  refine EQ.sub ((Sub.cons (i := 0) rfl (Sub.cons (i := 3) rfl (Sub.cons (i := 4) rfl (Sub.cons (i := 5) rfl (Sub.nil _)))))) ?_
  refine EQ.code ?_
  refine WC.ret ?_
  refine EQ.blockR ?_
  refine EQ.thenR ?_
  refine EQ.finD (H' := H) (res2 rfl (.cellB rfl ty_38 (by repeat (first | assumption | exact List.mem_cons_self | exact List.mem_of_getElem? (by assumption) | exact set_mem (by first | assumption | exact set_hit (by assumption)) | apply List.mem_cons_of_mem | apply List.mem_append_right)) (by rfl)) (.tmp rfl)) (by intro _ h; first | exact h | exact h.drop | exact h.drop.drop | exact h.drop.drop.drop | exact h.drop.drop.drop.drop | exact h.drop.drop.drop.drop.drop | exact h.drop.drop.drop.drop.drop.drop | exact h.drop_mid) ?_
  exact ⟨rfl, rfl⟩

set_option maxRecDepth 100000 in
theorem Open_nil {W0 : World} {H : Hp} {X : FileM} : CxD Try.prog W0 38 #[.pointer none, .agg ⟨infoL X⟩] H (.tuple #[mv 0 0, .int .i64 6]) H := by
  refine enter Try.func38 rfl Try.ntmps38 rfl ?_
  refine WC.seq ?_
  refine WC.region ?_
  refine WL.box rfl rfl rfl (fun b3 => ?_)
  refine WL.allocX z_38 rfl (fun b4 => ?_)
  refine WL.p (.none rfl) rfl (OpP.assign rfl) ?_
  refine WL.nil ?_
  refine EQ.sub ((Sub.cons (i := 0) rfl (Sub.cons (i := 3) rfl (Sub.cons (i := 4) rfl (Sub.cons (i := 5) rfl (Sub.nil _)))))) ?_
  refine EQ.code ?_
  refine WC.seq ?_
  refine WC.block ?_
  refine WC.seq ?_
  refine WC.region ?_
  refine WL.p (.none rfl) rfl (OpP.move rfl) ?_
  refine WL.callD rfl (.none rfl) rfl k_58 rfl (made_nil) ?_
  refine WL.p (.none rfl) rfl (OpP.not rfl) ?_
  refine WL.p (.none rfl) rfl (OpP.assign rfl) ?_
  refine WL.nil ?_
  refine EQ.sub ((Sub.cons (i := 0) rfl (Sub.cons (i := 3) rfl (Sub.cons (i := 4) rfl (Sub.cons (i := 5) rfl (Sub.cons (i := 7) rfl (Sub.nil _))))))) ?_
  refine EQ.code ?_
  refine WC.condT rfl ?_
  refine WC.seq ?_
  refine WC.region ?_
  refine WL.p (.none rfl) rfl (OpP.buildS bld_38 kI0 (by rfl)) ?_
  first | (refine WL.s (.none rfl) rfl (OpS.storeAll rfl rfl ty_38 (by repeat (first | assumption | exact at0 | exact set_hit (by first | assumption | exact set_hit (by assumption)) | apply ats)) (by rfl) (by rfl) (by rfl) (by rfl)) ?_) | (refine WL.s (.none rfl) rfl (OpS.store rfl rfl ty_38 (by repeat (first | assumption | exact at0 | exact set_hit (by first | assumption | exact set_hit (by assumption)) | apply ats)) (by rfl) (by rfl) (by rfl) (by rfl)) ?_)
  refine WL.p (.none rfl) rfl (OpP.assign rfl) ?_
  refine WL.nil ?_
  refine EQ.sub ((Sub.cons (i := 0) rfl (Sub.cons (i := 3) rfl (Sub.cons (i := 4) rfl (Sub.cons (i := 5) rfl (Sub.nil _)))))) ?_
  refine EQ.code ?_
  refine WC.ret ?_
  refine EQ.blockR ?_
  refine EQ.thenR ?_
  refine EQ.finD (H' := H) (res2 rfl (.cellB rfl ty_38 (by repeat (first | assumption | exact List.mem_cons_self | exact List.mem_of_getElem? (by assumption) | exact set_mem (by first | assumption | exact set_hit (by assumption)) | apply List.mem_cons_of_mem | apply List.mem_append_right)) (by rfl)) (.tmp rfl)) (by intro _ h; first | exact h | exact h.drop | exact h.drop.drop | exact h.drop.drop.drop | exact h.drop.drop.drop.drop | exact h.drop.drop.drop.drop.drop | exact h.drop.drop.drop.drop.drop.drop | exact h.drop_mid) ?_
  exact ⟨rfl, rfl⟩

set_option maxRecDepth 100000 in
theorem Open_found {W0 : World} {H : Hp} {X : FileM} {F : FileM} {g mb c fb : Nat} {es : List Ent} (hg : (g, sobj mb) ∈ H) (hm : (mb, mobj .u64 es c) ∈ H) (hl : mlook es X.id = some (.pointer (some ⟨fb, 0, none⟩))) (hs : See W0 H F fb) (hok : infoOk X.id X.nm X.size = true) :
    CxD Try.prog W0 38 #[.pointer (some ⟨g, 0, none⟩), .agg ⟨infoL X⟩] H (.tuple #[if sameInfo F X then mv (chunks F.size) ((F.mask : Nat) : Int) else mv 0 0, .int .i64 (if sameInfo F X then 0 else 7)]) H := by
  have hs2 := hs
  obtain ⟨cb, ces, cc, dC, hm1, hm2, hds, hch⟩ := hs2
  refine enter Try.func38 rfl Try.ntmps38 rfl ?_
  refine WC.seq ?_
  refine WC.region ?_
  refine WL.box rfl rfl rfl (fun b3 => ?_)
  refine WL.allocX z_38 rfl (fun b4 => ?_)
  refine WL.p (.none rfl) rfl (OpP.assign rfl) ?_
  refine WL.nil ?_
  refine EQ.sub ((Sub.cons (i := 0) rfl (Sub.cons (i := 3) rfl (Sub.cons (i := 4) rfl (Sub.cons (i := 5) rfl (Sub.nil _)))))) ?_
  refine EQ.code ?_
  refine WC.seq ?_
  refine WC.block ?_
  refine WC.seq ?_
  refine WC.region ?_
  refine WL.p (.none rfl) rfl (OpP.move rfl) ?_
  refine WL.callD rfl (.none rfl) rfl k_58 rfl (made_c (by first | exact List.mem_cons_of_mem _ (List.mem_cons_of_mem _ hg) | exact List.mem_cons_of_mem _ (List.mem_cons_of_mem _ List.mem_cons_self))) ?_
  refine WL.p (.none rfl) rfl (OpP.not rfl) ?_
  refine WL.p (.none rfl) rfl (OpP.assign rfl) ?_
  refine WL.nil ?_
  refine EQ.sub ((Sub.cons (i := 0) rfl (Sub.cons (i := 3) rfl (Sub.cons (i := 4) rfl (Sub.cons (i := 5) rfl (Sub.cons (i := 7) rfl (Sub.nil _))))))) ?_
  refine EQ.code ?_
  refine WC.condF rfl ?_
  refine WC.seq ?_
  refine WC.region ?_
  refine WL.p (.none rfl) rfl (OpP.loadB rfl ty_34 (by repeat (first | assumption | exact List.mem_cons_self | exact List.mem_of_getElem? (by assumption) | exact set_mem (by first | assumption | exact set_hit (by assumption)) | apply List.mem_cons_of_mem | apply List.mem_append_right)) (by rfl)) ?_
  refine WL.callD rfl (.none rfl) rfl k_10 rfl (CxD.to (StRight_c (id := X.id) (n := X.size) (nm := X.nm) (s := X.sum)) (by rw [hok]) rfl) ?_
  refine WL.p (.none rfl) rfl (OpP.not rfl) ?_
  refine WL.p (.none rfl) rfl (OpP.assign rfl) ?_
  refine WL.nil ?_
  refine EQ.sub ((Sub.cons (i := 0) rfl (Sub.cons (i := 3) rfl (Sub.cons (i := 4) rfl (Sub.cons (i := 5) rfl (Sub.cons (i := 12) rfl (Sub.nil _))))))) ?_
  refine EQ.code ?_
  refine WC.condF rfl ?_
  refine WC.skip ?_
  refine EQ.blockN ?_
  refine EQ.code ?_
  refine WC.seq ?_
  refine WC.draw (by kernel_rfl) (by kernel_rfl) ?_
  refine WQ.p (.none rfl) rfl (OpP.move rfl) ?_
  refine WQ.p (.none rfl) rfl (OpP.nilCheck rfl) ?_
  refine WQ.p (.none rfl) rfl (OpP.fieldAddr rfl fld_97_0) ?_
  refine WQ.p (.none rfl) rfl (OpP.load rfl ty_95 (Rd.own (by repeat (first | assumption | exact List.mem_cons_self | exact List.mem_of_getElem? (by assumption) | exact set_mem (by first | assumption | exact set_hit (by assumption)) | apply List.mem_cons_of_mem | apply List.mem_append_right)) (by rfl))) ?_
  refine WQ.p (.none rfl) rfl (OpP.fieldAddr rfl fld_34_0) ?_
  refine WQ.p (.none rfl) rfl (OpP.load rfl ty_22 (Rd.own (by repeat (first | assumption | exact List.mem_cons_self | exact List.mem_of_getElem? (by assumption) | exact set_mem (by first | assumption | exact set_hit (by assumption)) | apply List.mem_cons_of_mem | apply List.mem_append_right)) (by rfl))) ?_
  refine WQ.p (.none rfl) rfl (OpP.lookS rfl rfl map_95 (List.mem_cons_of_mem _ (List.mem_cons_of_mem _ hm)) hl) ?_
  refine WQ.p (.none rfl) rfl (OpP.assign rfl) ?_
  refine WQ.done ?_
  refine EQ.sub ((Sub.cons (i := 0) rfl (Sub.cons (i := 3) rfl (Sub.cons (i := 4) rfl (Sub.cons (i := 5) rfl (Sub.cons (i := 6) rfl (Sub.nil _))))))) ?_
  refine EQ.code ?_
  refine WC.seq ?_
  refine WC.block ?_
  refine WC.seq ?_
  refine WC.draw (by kernel_rfl) (by kernel_rfl) ?_
  refine WQ.p (.none rfl) rfl (OpP.move rfl) ?_
  refine WQ.p (.none rfl) rfl (OpP.neqNil rfl rfl Try.underlying98) ?_
  refine WQ.p (.none rfl) rfl (OpP.move rfl) ?_
  refine WQ.p (.yes rfl rfl rfl) rfl (OpP.move rfl) ?_
  refine WQ.p (.yes rfl rfl rfl) rfl (OpP.nilCheck rfl) ?_
  refine WQ.p (.yes rfl rfl rfl) rfl (OpP.fieldAddr rfl fld_101_0) ?_
  refine WQ.p (.yes rfl rfl rfl) rfl (OpP.loadB rfl ty_34 (by repeat (first | assumption | exact List.mem_cons_self | exact List.mem_of_getElem? (by assumption) | exact set_mem (by first | assumption | exact set_hit (by assumption)) | apply List.mem_cons_of_mem | apply List.mem_append_right)) (by rfl)) ?_
  refine WQ.p (.yes rfl rfl rfl) rfl (OpP.loadB rfl ty_34 (by repeat (first | assumption | exact List.mem_cons_self | exact List.mem_of_getElem? (by assumption) | exact set_mem (by first | assumption | exact set_hit (by assumption)) | apply List.mem_cons_of_mem | apply List.mem_append_right)) (by rfl)) ?_
  refine WQ.p (.yes rfl rfl rfl) rfl (OpP.neqF (D := 3) (xs := infoL F) (ys := infoL X) rfl rfl flat34 ty_34 (by kernel_rfl) rfl (by rfl) (by rfl)) ?_
  first | (refine WQ.p (.none rfl) rfl (OpP.pickT rfl rfl) ?_) | (refine WQ.p (.none rfl) rfl (OpP.pickF rfl rfl) ?_) | (refine WQ.p (.none rfl) rfl (OpP.pand rfl rfl rfl) ?_)
  refine WQ.p (.none rfl) rfl (OpP.assign rfl) ?_
  refine WQ.done ?_
  refine EQ.sub ((Sub.cons (i := 0) rfl (Sub.cons (i := 3) rfl (Sub.cons (i := 4) rfl (Sub.cons (i := 5) rfl (Sub.cons (i := 6) rfl (Sub.cons (i := 24) rfl (Sub.nil _)))))))) ?_
  refine EQ.code ?_
  refine WC.cond rfl (fun hc2 => ?_) (fun hc2 => ?_)
  · -- cond 2 t
    (try simp only [decide_eq_true_eq, decide_eq_false_iff_not, Bool.not_eq_true', Bool.not_eq_false', Bool.or_eq_true, Bool.and_eq_true, Bool.or_eq_false_iff, Bool.and_eq_false_imp, Option.isNone_some, Bool.false_eq_true, false_or, true_and] at hc2)
    refine WC.seq ?_
    refine WC.region ?_
    refine WL.p (.none rfl) rfl (OpP.buildS bld_38 kI0 (by rfl)) ?_
    first | (refine WL.s (.none rfl) rfl (OpS.storeAll rfl rfl ty_38 (by repeat (first | assumption | exact at0 | exact set_hit (by first | assumption | exact set_hit (by assumption)) | apply ats)) (by rfl) (by rfl) (by rfl) (by rfl)) ?_) | (refine WL.s (.none rfl) rfl (OpS.store rfl rfl ty_38 (by repeat (first | assumption | exact at0 | exact set_hit (by first | assumption | exact set_hit (by assumption)) | apply ats)) (by rfl) (by rfl) (by rfl) (by rfl)) ?_)
    refine WL.p (.none rfl) rfl (OpP.assign rfl) ?_
    refine WL.nil ?_
    refine EQ.sub ((Sub.cons (i := 4) rfl (Sub.cons (i := 5) rfl (Sub.cons (i := 6) rfl (Sub.nil _))))) ?_
    refine EQ.code ?_
    refine WC.ret ?_
    refine EQ.blockR ?_
    refine EQ.thenR ?_
    refine EQ.finD (H' := H) (res2 rfl (.cellB rfl ty_38 (by repeat (first | assumption | exact List.mem_cons_self | exact List.mem_of_getElem? (by assumption) | exact set_mem (by first | assumption | exact set_hit (by assumption)) | apply List.mem_cons_of_mem | apply List.mem_append_right)) (by rfl)) (.tmp rfl)) (by intro _ h; first | exact h | exact h.drop | exact h.drop.drop | exact h.drop.drop.drop | exact h.drop.drop.drop.drop | exact h.drop.drop.drop.drop.drop | exact h.drop.drop.drop.drop.drop.drop | exact h.drop_mid) ?_
    have hsi : sameInfo F X = false := by simpa [sameInfo] using hc2
    exact ⟨by rw [hsi]; rfl, rfl⟩
  · -- cond 2 f
    (try simp only [decide_eq_true_eq, decide_eq_false_iff_not, Bool.not_eq_true', Bool.not_eq_false', Bool.or_eq_true, Bool.and_eq_true, Bool.or_eq_false_iff, Bool.and_eq_false_imp, Option.isNone_some, Bool.false_eq_true, false_or, true_and] at hc2)
    refine WC.seq ?_
    refine WC.region ?_
    refine WL.p (.none rfl) rfl (OpP.move rfl) ?_
    refine WL.p (.none rfl) rfl (OpP.eqlNil rfl rfl Try.underlying98) ?_
    refine WL.p (.none rfl) rfl (OpP.move rfl) ?_
    first | (refine WL.skip (.no rfl rfl rfl) rfl ?_) | (refine WL.skip (.un rfl rfl rfl) rfl ?_)
    first | (refine WL.skip (.no rfl rfl rfl) rfl ?_) | (refine WL.skip (.un rfl rfl rfl) rfl ?_)
    first | (refine WL.skip (.no rfl rfl rfl) rfl ?_) | (refine WL.skip (.un rfl rfl rfl) rfl ?_)
    first | (refine WL.skip (.no rfl rfl rfl) rfl ?_) | (refine WL.skip (.un rfl rfl rfl) rfl ?_)
    first | (refine WL.skip (.no rfl rfl rfl) rfl ?_) | (refine WL.skip (.un rfl rfl rfl) rfl ?_)
    first | (refine WL.skip (.no rfl rfl rfl) rfl ?_) | (refine WL.skip (.un rfl rfl rfl) rfl ?_)
    first | (refine WL.p (.none rfl) rfl (OpP.pickT rfl rfl) ?_) | (refine WL.p (.none rfl) rfl (OpP.pickF rfl rfl) ?_) | (refine WL.p (.none rfl) rfl (OpP.pand rfl rfl rfl) ?_)
    refine WL.p (.none rfl) rfl (OpP.assign rfl) ?_
    refine WL.nil ?_
    refine EQ.sub ((Sub.cons (i := 0) rfl (Sub.cons (i := 3) rfl (Sub.cons (i := 4) rfl (Sub.cons (i := 5) rfl (Sub.cons (i := 6) rfl (Sub.cons (i := 36) rfl (Sub.nil _)))))))) ?_
    refine EQ.code ?_
    refine WC.condF rfl ?_
    refine WC.seq ?_
    refine WC.region ?_
    refine WL.p (.none rfl) rfl (OpP.move rfl) ?_
    refine WL.p (.none rfl) rfl (OpP.eqlNil rfl rfl Try.underlying98) ?_
    refine WL.p (.none rfl) rfl (OpP.assign rfl) ?_
    refine WL.nil ?_
    refine EQ.sub ((Sub.cons (i := 0) rfl (Sub.cons (i := 3) rfl (Sub.cons (i := 4) rfl (Sub.cons (i := 5) rfl (Sub.cons (i := 6) rfl (Sub.cons (i := 48) rfl (Sub.nil _)))))))) ?_
    refine EQ.code ?_
    refine WC.condF rfl ?_
    refine WC.skip ?_
    refine EQ.blockN ?_
    refine EQ.code ?_
    refine WC.seq ?_
    refine WC.region ?_
    refine WL.p (.none rfl) rfl (OpP.move rfl) ?_
    refine WL.callD rfl (.none rfl) rfl k_59 rfl (bits_c ((hs.cons _).cons _)) ?_
    refine WL.p (.none rfl) rfl (OpP.extract rfl rfl) ?_
    refine WL.p (.none rfl) rfl (OpP.extract rfl rfl) ?_
    first | (refine WL.s (.none rfl) rfl (OpS.storeAll rfl rfl ty_38 (by repeat (first | assumption | exact at0 | exact set_hit (by first | assumption | exact set_hit (by assumption)) | apply ats)) (by rfl) (by rfl) (by rfl) (by rfl)) ?_) | (refine WL.s (.none rfl) rfl (OpS.store rfl rfl ty_38 (by repeat (first | assumption | exact at0 | exact set_hit (by first | assumption | exact set_hit (by assumption)) | apply ats)) (by rfl) (by rfl) (by rfl) (by rfl)) ?_)
    refine WL.p (.none rfl) rfl (OpP.assign rfl) ?_
    refine WL.nil ?_
    refine EQ.sub ((Sub.cons (i := 4) rfl (Sub.cons (i := 5) rfl (Sub.nil _)))) ?_
    refine EQ.code ?_
    refine WC.ret ?_
    refine EQ.finD (H' := H) (res2 rfl (.cellB rfl ty_38 (by repeat (first | assumption | exact List.mem_cons_self | exact List.mem_of_getElem? (by assumption) | exact set_mem (by first | assumption | exact set_hit (by assumption)) | apply List.mem_cons_of_mem | apply List.mem_append_right)) (by rfl)) (.tmp rfl)) (by intro _ h; first | exact h | exact h.drop | exact h.drop.drop | exact h.drop.drop.drop | exact h.drop.drop.drop.drop | exact h.drop.drop.drop.drop.drop | exact h.drop.drop.drop.drop.drop.drop | exact h.drop_mid) ?_
    have hsi : sameInfo F X = true := by simpa [sameInfo] using hc2
    exact ⟨by rw [hsi]; rfl, rfl⟩

set_option maxRecDepth 100000 in
theorem Open_new {W0 : World} {R : Hp} {X : FileM} {g mb c : Nat} {es : List Ent} (hl : mlook es X.id = none) (hok : infoOk X.id X.nm X.size = true) :
    CxX Try.prog W0 38 #[.pointer (some ⟨g, 0, none⟩), .agg ⟨infoL X⟩] ((g, sobj mb) :: (mb, mobj .u64 es c) :: R) (fun v H' => (es.length < 16 → ∃ fb cb, v = .tuple #[mv (chunks X.size) 0, .int .i64 0] ∧ H' = (g, sobj mb) :: (mb, mobj .u64 (mput es c X.id (.pointer (some ⟨fb, 0, none⟩))) (mclk es c X.id)) :: (fb, fobj (fresh X) cb) :: (cb, mobj .i64 [] 0) :: R) ∧ (¬ es.length < 16 → v = .tuple #[mv 0 0, .int .i64 5] ∧ H' = (g, sobj mb) :: (mb, mobj .u64 es c) :: R)) := by
  refine enter Try.func38 rfl Try.ntmps38 rfl ?_
  refine WC.seq ?_
  refine WC.region ?_
  refine WL.box rfl rfl rfl (fun b3 => ?_)
  refine WL.allocX z_38 rfl (fun b4 => ?_)
  refine WL.p (.none rfl) rfl (OpP.assign rfl) ?_
  refine WL.nil ?_
  refine EQ.sub ((Sub.cons (i := 0) rfl (Sub.cons (i := 3) rfl (Sub.cons (i := 4) rfl (Sub.cons (i := 5) rfl (Sub.nil _)))))) ?_
  refine EQ.code ?_
  refine WC.seq ?_
  refine WC.block ?_
  refine WC.seq ?_
  refine WC.region ?_
  refine WL.p (.none rfl) rfl (OpP.move rfl) ?_
  refine WL.callD rfl (.none rfl) rfl k_58 rfl (made_c (by first | exact List.mem_cons_of_mem _ (List.mem_cons_of_mem _ hg) | exact List.mem_cons_of_mem _ (List.mem_cons_of_mem _ List.mem_cons_self))) ?_
  refine WL.p (.none rfl) rfl (OpP.not rfl) ?_
  refine WL.p (.none rfl) rfl (OpP.assign rfl) ?_
  refine WL.nil ?_
  refine EQ.sub ((Sub.cons (i := 0) rfl (Sub.cons (i := 3) rfl (Sub.cons (i := 4) rfl (Sub.cons (i := 5) rfl (Sub.cons (i := 7) rfl (Sub.nil _))))))) ?_
  refine EQ.code ?_
  refine WC.condF rfl ?_
  refine WC.seq ?_
  refine WC.region ?_
  refine WL.p (.none rfl) rfl (OpP.loadB rfl ty_34 (by repeat (first | assumption | exact List.mem_cons_self | exact List.mem_of_getElem? (by assumption) | exact set_mem (by first | assumption | exact set_hit (by assumption)) | apply List.mem_cons_of_mem | apply List.mem_append_right)) (by rfl)) ?_
  refine WL.callD rfl (.none rfl) rfl k_10 rfl (CxD.to (StRight_c (id := X.id) (n := X.size) (nm := X.nm) (s := X.sum)) (by rw [hok]) rfl) ?_
  refine WL.p (.none rfl) rfl (OpP.not rfl) ?_
  refine WL.p (.none rfl) rfl (OpP.assign rfl) ?_
  refine WL.nil ?_
  refine EQ.sub ((Sub.cons (i := 0) rfl (Sub.cons (i := 3) rfl (Sub.cons (i := 4) rfl (Sub.cons (i := 5) rfl (Sub.cons (i := 12) rfl (Sub.nil _))))))) ?_
  refine EQ.code ?_
  refine WC.condF rfl ?_
  refine WC.skip ?_
  refine EQ.blockN ?_
  refine EQ.code ?_
  refine WC.seq ?_
  refine WC.draw (by kernel_rfl) (by kernel_rfl) ?_
  refine WQ.p (.none rfl) rfl (OpP.move rfl) ?_
  refine WQ.p (.none rfl) rfl (OpP.nilCheck rfl) ?_
  refine WQ.p (.none rfl) rfl (OpP.fieldAddr rfl fld_97_0) ?_
  refine WQ.p (.none rfl) rfl (OpP.load rfl ty_95 (Rd.own (by repeat (first | assumption | exact List.mem_cons_self | exact List.mem_of_getElem? (by assumption) | exact set_mem (by first | assumption | exact set_hit (by assumption)) | apply List.mem_cons_of_mem | apply List.mem_append_right)) (by rfl))) ?_
  refine WQ.p (.none rfl) rfl (OpP.fieldAddr rfl fld_34_0) ?_
  refine WQ.p (.none rfl) rfl (OpP.load rfl ty_22 (Rd.own (by repeat (first | assumption | exact List.mem_cons_self | exact List.mem_of_getElem? (by assumption) | exact set_mem (by first | assumption | exact set_hit (by assumption)) | apply List.mem_cons_of_mem | apply List.mem_append_right)) (by rfl))) ?_
  refine WQ.p (.none rfl) rfl (OpP.lookN (c := c) rfl rfl map_95 (by simp) hl) ?_
  refine WQ.p (.none rfl) rfl (OpP.assign rfl) ?_
  refine WQ.done ?_
  refine EQ.sub ((Sub.cons (i := 0) rfl (Sub.cons (i := 3) rfl (Sub.cons (i := 4) rfl (Sub.cons (i := 5) rfl (Sub.cons (i := 6) rfl (Sub.nil _))))))) ?_
  refine EQ.code ?_
  refine WC.seq ?_
  refine WC.block ?_
  refine WC.seq ?_
  refine WC.draw (by kernel_rfl) (by kernel_rfl) ?_
  refine WQ.p (.none rfl) rfl (OpP.move rfl) ?_
  refine WQ.p (.none rfl) rfl (OpP.neqNil rfl rfl Try.underlying98) ?_
  refine WQ.p (.none rfl) rfl (OpP.move rfl) ?_
  first | (refine WQ.skip (.no rfl rfl rfl) rfl ?_) | (refine WQ.skip (.un rfl rfl rfl) rfl ?_)
  first | (refine WQ.skip (.no rfl rfl rfl) rfl ?_) | (refine WQ.skip (.un rfl rfl rfl) rfl ?_)
  first | (refine WQ.skip (.no rfl rfl rfl) rfl ?_) | (refine WQ.skip (.un rfl rfl rfl) rfl ?_)
  first | (refine WQ.skip (.no rfl rfl rfl) rfl ?_) | (refine WQ.skip (.un rfl rfl rfl) rfl ?_)
  first | (refine WQ.skip (.no rfl rfl rfl) rfl ?_) | (refine WQ.skip (.un rfl rfl rfl) rfl ?_)
  first | (refine WQ.skip (.no rfl rfl rfl) rfl ?_) | (refine WQ.skip (.un rfl rfl rfl) rfl ?_)
  first | (refine WQ.p (.none rfl) rfl (OpP.pickT rfl rfl) ?_) | (refine WQ.p (.none rfl) rfl (OpP.pickF rfl rfl) ?_) | (refine WQ.p (.none rfl) rfl (OpP.pand rfl rfl rfl) ?_)
  refine WQ.p (.none rfl) rfl (OpP.assign rfl) ?_
  refine WQ.done ?_
  refine EQ.sub ((Sub.cons (i := 0) rfl (Sub.cons (i := 3) rfl (Sub.cons (i := 4) rfl (Sub.cons (i := 5) rfl (Sub.cons (i := 6) rfl (Sub.cons (i := 24) rfl (Sub.nil _)))))))) ?_
  refine EQ.code ?_
  refine WC.condF rfl ?_
  refine WC.seq ?_
  refine WC.region ?_
  refine WL.p (.none rfl) rfl (OpP.move rfl) ?_
  refine WL.p (.none rfl) rfl (OpP.eqlNil rfl rfl Try.underlying98) ?_
  refine WL.p (.none rfl) rfl (OpP.move rfl) ?_
  refine WL.p (.yes rfl rfl rfl) rfl (OpP.move rfl) ?_
  refine WL.p (.yes rfl rfl rfl) rfl (OpP.nilCheck rfl) ?_
  refine WL.p (.yes rfl rfl rfl) rfl (OpP.fieldAddr rfl fld_97_0) ?_
  refine WL.p (.yes rfl rfl rfl) rfl (OpP.load rfl ty_95 (Rd.own (by repeat (first | assumption | exact List.mem_cons_self | exact List.mem_of_getElem? (by assumption) | exact set_mem (by first | assumption | exact set_hit (by assumption)) | apply List.mem_cons_of_mem | apply List.mem_append_right)) (by rfl))) ?_
  refine WL.p (.yes rfl rfl rfl) rfl (OpP.lenMap (es := es) (c := c) (q := .u64) rfl Try.underlying95 (by simp)) ?_
  refine WL.p (.yes rfl rfl rfl) rfl (OpP.geq rfl rfl) ?_
  first | (refine WL.p (.none rfl) rfl (OpP.pickT rfl rfl) ?_) | (refine WL.p (.none rfl) rfl (OpP.pickF rfl rfl) ?_) | (refine WL.p (.none rfl) rfl (OpP.pand rfl rfl rfl) ?_)
  refine WL.p (.none rfl) rfl (OpP.assign rfl) ?_
  refine WL.nil ?_
  refine EQ.sub ((Sub.cons (i := 0) rfl (Sub.cons (i := 3) rfl (Sub.cons (i := 4) rfl (Sub.cons (i := 5) rfl (Sub.cons (i := 6) rfl (Sub.cons (i := 36) rfl (Sub.nil _)))))))) ?_
  refine EQ.code ?_
  refine WC.cond rfl (fun hc3 => ?_) (fun hc3 => ?_)
  · -- cond 3 t
    (try simp only [decide_eq_true_eq, decide_eq_false_iff_not, Bool.not_eq_true', Bool.not_eq_false', Bool.or_eq_true, Bool.and_eq_true, Bool.or_eq_false_iff, Bool.and_eq_false_imp, Option.isNone_some, Bool.false_eq_true, false_or, true_and] at hc3)
    refine WC.seq ?_
    refine WC.region ?_
    refine WL.p (.none rfl) rfl (OpP.buildS bld_38 kI0 (by rfl)) ?_
    first | (refine WL.s (.none rfl) rfl (OpS.storeAll rfl rfl ty_38 (by repeat (first | assumption | exact at0 | exact set_hit (by first | assumption | exact set_hit (by assumption)) | apply ats)) (by rfl) (by rfl) (by rfl) (by rfl)) ?_) | (refine WL.s (.none rfl) rfl (OpS.store rfl rfl ty_38 (by repeat (first | assumption | exact at0 | exact set_hit (by first | assumption | exact set_hit (by assumption)) | apply ats)) (by rfl) (by rfl) (by rfl) (by rfl)) ?_)
    refine WL.p (.none rfl) rfl (OpP.assign rfl) ?_
    refine WL.nil ?_
    refine EQ.sub ((Sub.cons (i := 4) rfl (Sub.cons (i := 5) rfl (Sub.cons (i := 6) rfl (Sub.nil _))))) ?_
    refine EQ.code ?_
    refine WC.ret ?_
    refine EQ.blockR ?_
    refine EQ.thenR ?_
    refine EQ.finD (H' := (g, sobj mb) :: (mb, mobj .u64 es c) :: R) (res2 rfl (.cellB rfl ty_38 (by repeat (first | assumption | exact List.mem_cons_self | exact List.mem_of_getElem? (by assumption) | exact set_mem (by first | assumption | exact set_hit (by assumption)) | apply List.mem_cons_of_mem | apply List.mem_append_right)) (by rfl)) (.tmp rfl)) (by intro _ h; first | exact h.drop.drop | exact (St.perm (H' := (g, sobj mb) :: (mb, mobj .u64 (mput es c X.id (.pointer (some ⟨b54, 0, none⟩))) (mclk es c X.id)) :: (b54, fobj (fresh X) b52) :: (b52, mobj .i64 [] 0) :: (b4, cl [.int .i64 (chunks (fresh X).size), .int .u64 0] 38) :: (b3, cl (infoL X) 34) :: R) h (List.perm_append_comm_assoc [(b54, _), (b52, _), (b4, _), (b3, _)] [(g, _), (mb, _)] R)).sublist ((((((List.Sublist.refl R).cons _).cons _).cons_cons _).cons_cons _ |>.cons_cons _).cons_cons _)) ?_
    have hno : ¬ es.length < 16 := by omega
    exact ⟨fun h => absurd h hno, fun _ => ⟨rfl, rfl⟩⟩
  · -- cond 3 f
    (try simp only [decide_eq_true_eq, decide_eq_false_iff_not, Bool.not_eq_true', Bool.not_eq_false', Bool.or_eq_true, Bool.and_eq_true, Bool.or_eq_false_iff, Bool.and_eq_false_imp, Option.isNone_some, Bool.false_eq_true, false_or, true_and] at hc3)
    refine WC.seq ?_
    refine WC.region ?_
    refine WL.p (.none rfl) rfl (OpP.move rfl) ?_
    refine WL.p (.none rfl) rfl (OpP.eqlNil rfl rfl Try.underlying98) ?_
    refine WL.p (.none rfl) rfl (OpP.assign rfl) ?_
    refine WL.nil ?_
    refine EQ.sub ((Sub.cons (i := 0) rfl (Sub.cons (i := 3) rfl (Sub.cons (i := 4) rfl (Sub.cons (i := 5) rfl (Sub.cons (i := 6) rfl (Sub.cons (i := 48) rfl (Sub.nil _)))))))) ?_
    refine EQ.code ?_
    refine WC.condT rfl ?_
    refine WC.seq ?_
    refine WC.region ?_
    refine WL.p (.none rfl) rfl (OpP.loadB rfl ty_34 (by repeat (first | assumption | exact List.mem_cons_self | exact List.mem_of_getElem? (by assumption) | exact set_mem (by first | assumption | exact set_hit (by assumption)) | apply List.mem_cons_of_mem | apply List.mem_append_right)) (by rfl)) ?_
    refine WL.makeMap .i64 rfl (fun b52 => ?_)
    refine WL.p (.none rfl) rfl (OpP.buildS (l := infoL X ++ [.map (some b52)]) bld_101 (kI rfl (kI rfl kI0)) (by kernel_rfl)) ?_
    refine WL.box rfl rfl rfl (fun b54 => ?_)
    refine WL.p (.none rfl) rfl (OpP.assign rfl) ?_
    refine WL.nil ?_
    refine EQ.sub ((Sub.cons (i := 0) rfl (Sub.cons (i := 3) rfl (Sub.cons (i := 4) rfl (Sub.cons (i := 5) rfl (Sub.cons (i := 6) rfl (Sub.nil _))))))) ?_
    refine EQ.code ?_
    refine WC.drawT 7 (by kernel_rfl) (by kernel_rfl) ?_
    refine WQ.p (.none rfl) rfl (OpP.move rfl) ?_
    refine WQ.p (.none rfl) rfl (OpP.nilCheck rfl) ?_
    refine WQ.p (.none rfl) rfl (OpP.fieldAddr rfl fld_97_0) ?_
    refine WQ.p (.none rfl) rfl (OpP.load rfl ty_95 (Rd.own (by repeat (first | assumption | exact List.mem_cons_self | exact List.mem_of_getElem? (by assumption) | exact set_mem (by first | assumption | exact set_hit (by assumption)) | apply List.mem_cons_of_mem | apply List.mem_append_right)) (by rfl))) ?_
    refine WQ.p (.none rfl) rfl (OpP.fieldAddr rfl fld_34_0) ?_
    refine WQ.p (.none rfl) rfl (OpP.load rfl ty_22 (Rd.own (by repeat (first | assumption | exact List.mem_cons_self | exact List.mem_of_getElem? (by assumption) | exact set_mem (by first | assumption | exact set_hit (by assumption)) | apply List.mem_cons_of_mem | apply List.mem_append_right)) (by rfl))) ?_
    refine WQ.p (.none rfl) rfl (OpP.move rfl) ?_
    refine WQ.tail ?_
    refine WL.s (.none rfl) rfl (OpS.mapUpdate rfl rfl rfl map_95 (by repeat (first | assumption | exact at0 | exact set_hit (by first | assumption | exact set_hit (by assumption)) | apply ats))) ?_
    refine WL.nil ?_
    refine EQ.sub ((Sub.cons (i := 4) rfl (Sub.cons (i := 5) rfl (Sub.cons (i := 6) rfl (Sub.nil _))))) ?_
    refine EQ.blockN ?_
    refine EQ.code ?_
    refine WC.seq ?_
    refine WC.region ?_
    refine WL.p (.none rfl) rfl (OpP.move rfl) ?_
    refine WL.callD rfl (.none rfl) rfl k_59 rfl (CxD.to (bits_c (see_fresh (X := X) (cb := b52) (by first | exact List.mem_cons_self | simp) (by first | exact List.mem_cons_of_mem _ List.mem_cons_self | simp))) (by rw [mask_fresh]; first | done | rfl) rfl) ?_
    refine WL.p (.none rfl) rfl (OpP.extract rfl rfl) ?_
    refine WL.p (.none rfl) rfl (OpP.extract rfl rfl) ?_
    first | (refine WL.s (.none rfl) rfl (OpS.storeAll rfl rfl ty_38 (by repeat (first | assumption | exact at0 | exact set_hit (by first | assumption | exact set_hit (by assumption)) | apply ats)) (by rfl) (by rfl) (by rfl) (by rfl)) ?_) | (refine WL.s (.none rfl) rfl (OpS.store rfl rfl ty_38 (by repeat (first | assumption | exact at0 | exact set_hit (by first | assumption | exact set_hit (by assumption)) | apply ats)) (by rfl) (by rfl) (by rfl) (by rfl)) ?_)
    refine WL.p (.none rfl) rfl (OpP.assign rfl) ?_
    refine WL.nil ?_
    refine EQ.sub ((Sub.cons (i := 4) rfl (Sub.cons (i := 5) rfl (Sub.nil _)))) ?_
    refine EQ.code ?_
    refine WC.ret ?_
    refine EQ.finD (H' := (g, sobj mb) :: (mb, mobj .u64 (mput es c X.id (.pointer (some ⟨b54, 0, none⟩))) (mclk es c X.id)) :: (b54, fobj (fresh X) b52) :: (b52, mobj .i64 [] 0) :: R) (res2 rfl (.cellB rfl ty_38 (by repeat (first | assumption | exact List.mem_cons_self | exact List.mem_of_getElem? (by assumption) | exact set_mem (by first | assumption | exact set_hit (by assumption)) | apply List.mem_cons_of_mem | apply List.mem_append_right)) (by rfl)) (.tmp rfl)) (by intro _ h; first | exact h.drop.drop | exact (St.perm (H' := (g, sobj mb) :: (mb, mobj .u64 (mput es c X.id (.pointer (some ⟨b54, 0, none⟩))) (mclk es c X.id)) :: (b54, fobj (fresh X) b52) :: (b52, mobj .i64 [] 0) :: (b4, cl [.int .i64 (chunks (fresh X).size), .int .u64 0] 38) :: (b3, cl (infoL X) 34) :: R) h (List.perm_append_comm_assoc [(b54, _), (b52, _), (b4, _), (b3, _)] [(g, _), (mb, _)] R)).sublist ((((((List.Sublist.refl R).cons _).cons _).cons_cons _).cons_cons _ |>.cons_cons _).cons_cons _)) ?_
    have hy : es.length < 16 := by omega
    exact ⟨fun _ => ⟨b54, b52, rfl, rfl⟩, fun h => absurd hy h⟩

theorem own_set {T : TypeId} {k : IntKind} {b c n : Nat} {l : List Value} {bs : List Int} (h : OwnS T 1 (.slice (some ⟨b, 0, none⟩) n c) n (iv k bs) [(b, cl l T)]) {j : Nat} (hj : j < n) (x : Int) :
    l[j]? = some (.int k (bs.getD j 0)) ∧ OwnS T 1 (.slice (some ⟨b, 0, none⟩) n c) n (iv k (bs.set j x)) [(b, cl (l.set j (.int k x)) T)] := by
  obtain ⟨h1, ⟨h2, _⟩ | ⟨b', l', cap, e1, e2, h3, h4, h5, h6⟩⟩ := h
  · cases h2
  · cases e1
    simp only [List.cons.injEq, Prod.mk.injEq, true_and, and_true] at e2
    have e3 : l = l' := by
      have := e2
      simp only [cl, Obj.cells.injEq, Array.mk.injEq] at this
      exact this.1
    subst e3
    have hbs : bs.length = n := by simpa using h1
    have hjl : (l.take (n * 1))[j]? = (iv k bs)[j]? := by rw [h6]
    rw [List.getElem?_take, if_pos (by omega)] at hjl
    refine ⟨?_, by simpa using h1, .inr ⟨b, _, c, rfl, rfl, by rw [List.length_set]; exact h3, h4, h5, ?_⟩⟩
    · rw [hjl]; simp [List.getD_eq_getElem?_getD, hbs, hj]
    · rw [List.take_set, h6]; simp [iv, List.map_set]
theorem own_some {T : TypeId} {a : Option Addr} {n c : Nat} {cs : List Value} {sg : Hp} (h : OwnS T 1 (.slice a n c) n cs sg) (hn : 0 < n) : ∃ b l, a = some ⟨b, 0, none⟩ ∧ sg = [(b, cl l T)] ∧ n ≤ l.length := by
  obtain ⟨h1, ⟨h2, h3, _⟩ | ⟨b', l', cap, e1, e2, h3, h4, h5, h6⟩⟩ := h
  · omega
  · cases e1
    exact ⟨b', l', rfl, e2, by omega⟩

set_option maxRecDepth 100000 in
theorem DamageF_none {W0 : World} {F : FileM} {g mb c fb cb cc : Nat} {es ces : List Ent} {id : Int} {R : Hp} (hg : (g, sobj mb) ∈ R) (hm : (mb, mobj .u64 es c) ∈ R) (hl : mlook es id = some (.pointer (some ⟨fb, 0, none⟩))) {i ofs : Int} {by0 : Nat} (hlk : mlook ces i = none) : CxD Try.prog W0 42 #[.pointer (some ⟨g, 0, none⟩), .int .u64 id, .int .i64 i, .int .i64 ofs, .int .u8 (by0 : Int)] ((fb, fobj F cb) :: (cb, mobj .i64 ces cc) :: R) (.int .i64 1) ((fb, fobj F cb) :: (cb, mobj .i64 ces cc) :: R) := by
  refine enter Try.func42 rfl Try.ntmps42 rfl ?_
  refine WC.seq ?_
  refine WC.region ?_
  refine WL.p (.none rfl) rfl (OpP.assign rfl) ?_
  refine WL.nil ?_
  refine EQ.sub ((Sub.cons (i := 0) rfl (Sub.cons (i := 1) rfl (Sub.cons (i := 2) rfl (Sub.cons (i := 3) rfl (Sub.cons (i := 4) rfl (Sub.cons (i := 10) rfl (Sub.nil _)))))))) ?_
  refine EQ.code ?_
  refine WC.seq ?_
  refine WC.region ?_
  refine WL.p (.none rfl) rfl (OpP.move rfl) ?_
  refine WL.p (.none rfl) rfl (OpP.move rfl) ?_
  refine WL.callD rfl (.none rfl) rfl k_62 rfl (find_some (List.mem_cons_of_mem _ (List.mem_cons_of_mem _ hg)) (List.mem_cons_of_mem _ (List.mem_cons_of_mem _ hm)) hl) ?_
  refine WL.p (.none rfl) rfl (OpP.move rfl) ?_
  refine WL.p (.none rfl) rfl (OpP.extract rfl rfl) ?_
  refine WL.p (.none rfl) rfl (OpP.extract rfl rfl) ?_
  refine WL.p (.none rfl) rfl (OpP.assign rfl) ?_
  refine WL.p (.none rfl) rfl (OpP.assign rfl) ?_
  refine WL.nil ?_
  refine EQ.sub ((Sub.cons (i := 2) rfl (Sub.cons (i := 3) rfl (Sub.cons (i := 4) rfl (Sub.cons (i := 10) rfl (Sub.cons (i := 11) rfl (Sub.cons (i := 12) rfl (Sub.nil _)))))))) ?_
  refine EQ.code ?_
  refine WC.seq ?_
  refine WC.seq ?_
  refine WC.region ?_
  refine WL.p (.none rfl) rfl (OpP.move rfl) ?_
  refine WL.p (.none rfl) rfl (OpP.neqI rfl rfl) ?_
  refine WL.nil ?_
  refine EQ.sub ((Sub.cons (i := 2) rfl (Sub.cons (i := 3) rfl (Sub.cons (i := 4) rfl (Sub.cons (i := 10) rfl (Sub.cons (i := 11) rfl (Sub.cons (i := 12) rfl (Sub.cons (i := 22) rfl (Sub.nil _))))))))) ?_
  refine EQ.code ?_
  refine WC.condF rfl ?_
  refine WC.skip ?_
  refine EQ.code ?_
  refine WC.seq ?_
  refine WC.region ?_
  refine WL.p (.none rfl) rfl (OpP.move rfl) ?_
  refine WL.p (.none rfl) rfl (OpP.nilCheck rfl) ?_
  refine WL.p (.none rfl) rfl (OpP.fieldAddr rfl fld_101_1) ?_
  refine WL.p (.none rfl) rfl (OpP.load rfl ty_99 (Rd.own (by repeat (first | assumption | exact List.mem_cons_self | exact List.mem_of_getElem? (by assumption) | exact set_mem (by first | assumption | exact set_hit (by assumption)) | apply List.mem_cons_of_mem | apply List.mem_append_right)) (by rfl))) ?_
  refine WL.p (.none rfl) rfl (OpP.move rfl) ?_
  refine WL.p (.none rfl) rfl (OpP.look2N rfl rfl map_99 (List.mem_cons_of_mem _ List.mem_cons_self) hlk) ?_
  refine WL.p (.none rfl) rfl (OpP.move rfl) ?_
  refine WL.p (.none rfl) rfl (OpP.extract rfl rfl) ?_
  refine WL.p (.none rfl) rfl (OpP.extract rfl rfl) ?_
  refine WL.allocX z_110 rfl (fun b13 => ?_)
  first | (refine WL.s (.none rfl) rfl (OpS.storeAll rfl rfl ty_110 (by repeat (first | assumption | exact at0 | exact set_hit (by first | assumption | exact set_hit (by assumption)) | apply ats)) (by rfl) (by rfl) (by rfl) (by rfl)) ?_) | (refine WL.s (.none rfl) rfl (OpS.store rfl rfl ty_110 (by repeat (first | assumption | exact at0 | exact set_hit (by first | assumption | exact set_hit (by assumption)) | apply ats)) (by rfl) (by rfl) (by rfl) (by rfl)) ?_)
  refine WL.p (.none rfl) rfl (OpP.assign rfl) ?_
  refine WL.nil ?_
  refine EQ.sub ((Sub.cons (i := 3) rfl (Sub.cons (i := 4) rfl (Sub.cons (i := 10) rfl (Sub.cons (i := 13) rfl (Sub.cons (i := 14) rfl (Sub.nil _))))))) ?_
  refine EQ.code ?_
  refine WC.seq ?_
  refine WC.seq ?_
  refine WC.region ?_
  refine WL.p (.none rfl) rfl (OpP.move rfl) ?_
  refine WL.p (.none rfl) rfl (OpP.not rfl) ?_
  refine WL.p (.none rfl) rfl (OpP.move rfl) ?_
  first | (refine WL.skip (.no rfl rfl rfl) rfl ?_) | (refine WL.skip (.un rfl rfl rfl) rfl ?_)
  first | (refine WL.skip (.no rfl rfl rfl) rfl ?_) | (refine WL.skip (.un rfl rfl rfl) rfl ?_)
  first | (refine WL.p (.none rfl) rfl (OpP.pickT rfl rfl) ?_) | (refine WL.p (.none rfl) rfl (OpP.pickF rfl rfl) ?_) | (refine WL.p (.none rfl) rfl (OpP.por rfl rfl rfl) ?_)
  refine WL.p (.none rfl) rfl (OpP.move rfl) ?_
  first | (refine WL.skip (.no rfl rfl rfl) rfl ?_) | (refine WL.skip (.un rfl rfl rfl) rfl ?_)
  first | (refine WL.skip (.no rfl rfl rfl) rfl ?_) | (refine WL.skip (.un rfl rfl rfl) rfl ?_)
  first | (refine WL.skip (.no rfl rfl rfl) rfl ?_) | (refine WL.skip (.un rfl rfl rfl) rfl ?_)
  first | (refine WL.skip (.no rfl rfl rfl) rfl ?_) | (refine WL.skip (.un rfl rfl rfl) rfl ?_)
  first | (refine WL.skip (.no rfl rfl rfl) rfl ?_) | (refine WL.skip (.un rfl rfl rfl) rfl ?_)
  first | (refine WL.p (.none rfl) rfl (OpP.pickT rfl rfl) ?_) | (refine WL.p (.none rfl) rfl (OpP.pickF rfl rfl) ?_) | (refine WL.p (.none rfl) rfl (OpP.por rfl rfl rfl) ?_)
  refine WL.nil ?_
  refine EQ.sub ((Sub.cons (i := 3) rfl (Sub.cons (i := 4) rfl (Sub.cons (i := 10) rfl (Sub.cons (i := 13) rfl (Sub.cons (i := 45) rfl (Sub.nil _))))))) ?_
  refine EQ.code ?_
  refine WC.condT rfl ?_
  refine WC.seq ?_
  refine WC.region ?_
  refine WL.p (.none rfl) rfl (OpP.assign rfl) ?_
  refine WL.nil ?_
  refine EQ.sub ((Sub.cons (i := 3) rfl (Sub.cons (i := 4) rfl (Sub.cons (i := 10) rfl (Sub.cons (i := 13) rfl (Sub.nil _)))))) ?_
  refine EQ.code ?_
  refine WC.ret ?_
  refine EQ.thenR ?_
  refine EQ.finD (H' := (fb, fobj F cb) :: (cb, mobj .i64 ces cc) :: R) (res1 rfl (.tmp rfl)) (by intro _ h; first | exact h | exact h.drop | exact h.drop.drop | exact h.drop.drop.drop | exact h.drop.drop.drop.drop | exact h.drop.drop.drop.drop.drop | exact h.drop.drop.drop.drop.drop.drop | exact h.drop_mid) ?_
  exact ⟨rfl, rfl⟩

set_option maxRecDepth 100000 in
theorem DamageF_out {W0 : World} {F : FileM} {g mb c fb cb cc : Nat} {es ces : List Ent} {id : Int} {R : Hp} (hg : (g, sobj mb) ∈ R) (hm : (mb, mobj .u64 es c) ∈ R) (hl : mlook es id = some (.pointer (some ⟨fb, 0, none⟩))) {i ofs : Int} {by0 a0 : Nat} {a : Option Addr} {n s : Nat} (hlk : mlook ces i = some (chV a n a0 s)) (hat : ofs < 0 ∨ (n : Int) ≤ ofs) : CxD Try.prog W0 42 #[.pointer (some ⟨g, 0, none⟩), .int .u64 id, .int .i64 i, .int .i64 ofs, .int .u8 (by0 : Int)] ((fb, fobj F cb) :: (cb, mobj .i64 ces cc) :: R) (.int .i64 1) ((fb, fobj F cb) :: (cb, mobj .i64 ces cc) :: R) := by
  refine enter Try.func42 rfl Try.ntmps42 rfl ?_
  refine WC.seq ?_
  refine WC.region ?_
  refine WL.p (.none rfl) rfl (OpP.assign rfl) ?_
  refine WL.nil ?_
  refine EQ.sub ((Sub.cons (i := 0) rfl (Sub.cons (i := 1) rfl (Sub.cons (i := 2) rfl (Sub.cons (i := 3) rfl (Sub.cons (i := 4) rfl (Sub.cons (i := 10) rfl (Sub.nil _)))))))) ?_
  refine EQ.code ?_
  refine WC.seq ?_
  refine WC.region ?_
  refine WL.p (.none rfl) rfl (OpP.move rfl) ?_
  refine WL.p (.none rfl) rfl (OpP.move rfl) ?_
  refine WL.callD rfl (.none rfl) rfl k_62 rfl (find_some (List.mem_cons_of_mem _ (List.mem_cons_of_mem _ hg)) (List.mem_cons_of_mem _ (List.mem_cons_of_mem _ hm)) hl) ?_
  refine WL.p (.none rfl) rfl (OpP.move rfl) ?_
  refine WL.p (.none rfl) rfl (OpP.extract rfl rfl) ?_
  refine WL.p (.none rfl) rfl (OpP.extract rfl rfl) ?_
  refine WL.p (.none rfl) rfl (OpP.assign rfl) ?_
  refine WL.p (.none rfl) rfl (OpP.assign rfl) ?_
  refine WL.nil ?_
  refine EQ.sub ((Sub.cons (i := 2) rfl (Sub.cons (i := 3) rfl (Sub.cons (i := 4) rfl (Sub.cons (i := 10) rfl (Sub.cons (i := 11) rfl (Sub.cons (i := 12) rfl (Sub.nil _)))))))) ?_
  refine EQ.code ?_
  refine WC.seq ?_
  refine WC.seq ?_
  refine WC.region ?_
  refine WL.p (.none rfl) rfl (OpP.move rfl) ?_
  refine WL.p (.none rfl) rfl (OpP.neqI rfl rfl) ?_
  refine WL.nil ?_
  refine EQ.sub ((Sub.cons (i := 2) rfl (Sub.cons (i := 3) rfl (Sub.cons (i := 4) rfl (Sub.cons (i := 10) rfl (Sub.cons (i := 11) rfl (Sub.cons (i := 12) rfl (Sub.cons (i := 22) rfl (Sub.nil _))))))))) ?_
  refine EQ.code ?_
  refine WC.condF rfl ?_
  refine WC.skip ?_
  refine EQ.code ?_
  refine WC.seq ?_
  refine WC.region ?_
  refine WL.p (.none rfl) rfl (OpP.move rfl) ?_
  refine WL.p (.none rfl) rfl (OpP.nilCheck rfl) ?_
  refine WL.p (.none rfl) rfl (OpP.fieldAddr rfl fld_101_1) ?_
  refine WL.p (.none rfl) rfl (OpP.load rfl ty_99 (Rd.own (by repeat (first | assumption | exact List.mem_cons_self | exact List.mem_of_getElem? (by assumption) | exact set_mem (by first | assumption | exact set_hit (by assumption)) | apply List.mem_cons_of_mem | apply List.mem_append_right)) (by rfl))) ?_
  refine WL.p (.none rfl) rfl (OpP.move rfl) ?_
  refine WL.p (.none rfl) rfl (OpP.look2S rfl rfl map_99 (List.mem_cons_of_mem _ List.mem_cons_self) hlk) ?_
  refine WL.p (.none rfl) rfl (OpP.move rfl) ?_
  refine WL.p (.none rfl) rfl (OpP.extract rfl rfl) ?_
  refine WL.p (.none rfl) rfl (OpP.extract rfl rfl) ?_
  refine WL.allocX z_110 rfl (fun b13 => ?_)
  first | (refine WL.s (.none rfl) rfl (OpS.storeAll rfl rfl ty_110 (by repeat (first | assumption | exact at0 | exact set_hit (by first | assumption | exact set_hit (by assumption)) | apply ats)) (by rfl) (by rfl) (by rfl) (by rfl)) ?_) | (refine WL.s (.none rfl) rfl (OpS.store rfl rfl ty_110 (by repeat (first | assumption | exact at0 | exact set_hit (by first | assumption | exact set_hit (by assumption)) | apply ats)) (by rfl) (by rfl) (by rfl) (by rfl)) ?_)
  refine WL.p (.none rfl) rfl (OpP.assign rfl) ?_
  refine WL.nil ?_
  refine EQ.sub ((Sub.cons (i := 3) rfl (Sub.cons (i := 4) rfl (Sub.cons (i := 10) rfl (Sub.cons (i := 13) rfl (Sub.cons (i := 14) rfl (Sub.nil _))))))) ?_
  refine EQ.code ?_
  refine WC.seq ?_
  refine WC.seq ?_
  refine WC.region ?_
  refine WL.p (.none rfl) rfl (OpP.move rfl) ?_
  refine WL.p (.none rfl) rfl (OpP.not rfl) ?_
  refine WL.p (.none rfl) rfl (OpP.move rfl) ?_
  refine WL.p (.yes rfl rfl rfl) rfl (OpP.move rfl) ?_
  refine WL.p (.yes rfl rfl rfl) rfl (OpP.lss rfl rfl) ?_
  refine WL.p (.none rfl) rfl (OpP.por rfl rfl rfl) ?_
  refine WL.p (.none rfl) rfl (OpP.move rfl) ?_
  refine WL.g (.bool rfl rfl rfl) rfl (fun hg => OpP.move rfl) ?_
  refine WL.g (.bool rfl rfl rfl) rfl (fun hg => OpP.fieldAddr rfl fld_110_0) ?_
  refine WL.g (.bool rfl rfl rfl) rfl (fun hg => OpP.load (gk hg rfl) ty_23 (Rd.own (by repeat (first | assumption | exact List.mem_cons_self | exact List.mem_of_getElem? (by assumption) | exact set_mem (by first | assumption | exact set_hit (by assumption)) | apply List.mem_cons_of_mem | apply List.mem_append_right)) (by rfl))) ?_
  refine WL.g (.bool rfl rfl rfl) rfl (fun hg => OpP.lenSl (gk hg rfl) Try.underlying23) ?_
  refine WL.g (.bool rfl rfl rfl) rfl (fun hg => OpP.geq (gk hg rfl) (gk hg rfl)) ?_
  refine WL.p (.none rfl) rfl (OpP.por rfl rfl rfl) ?_
  refine WL.nil ?_
  refine EQ.sub ((Sub.cons (i := 3) rfl (Sub.cons (i := 4) rfl (Sub.cons (i := 10) rfl (Sub.cons (i := 13) rfl (Sub.cons (i := 45) rfl (Sub.nil _))))))) ?_
  refine EQ.code ?_
  refine WC.cond rfl (fun hc1 => ?_) (fun hc1 => ?_)
  · -- cond 1 t
    (try simp only [decide_eq_true_eq, decide_eq_false_iff_not, Bool.not_eq_true', Bool.not_eq_false', Bool.or_eq_true, Bool.and_eq_true, Bool.or_eq_false_iff, Bool.and_eq_false_imp, Option.isNone_some, Bool.false_eq_true, false_or, true_and] at hc1)
    refine WC.seq ?_
    refine WC.region ?_
    refine WL.p (.none rfl) rfl (OpP.assign rfl) ?_
    refine WL.nil ?_
    refine EQ.sub ((Sub.cons (i := 3) rfl (Sub.cons (i := 4) rfl (Sub.cons (i := 10) rfl (Sub.cons (i := 13) rfl (Sub.nil _)))))) ?_
    refine EQ.code ?_
    refine WC.ret ?_
    refine EQ.thenR ?_
    refine EQ.finD (H' := (fb, fobj F cb) :: (cb, mobj .i64 ces cc) :: R) (res1 rfl (.tmp rfl)) (by intro _ h; first | exact h | exact h.drop | exact h.drop.drop | exact h.drop.drop.drop | exact h.drop.drop.drop.drop | exact h.drop.drop.drop.drop.drop | exact h.drop.drop.drop.drop.drop.drop | exact h.drop_mid) ?_
    exact ⟨rfl, rfl⟩
  · -- cond 1 f
    (try simp only [decide_eq_true_eq, decide_eq_false_iff_not, Bool.not_eq_true', Bool.not_eq_false', Bool.or_eq_true, Bool.and_eq_true, Bool.or_eq_false_iff, Bool.and_eq_false_imp, Option.isNone_some, Bool.false_eq_true, false_or, true_and] at hc1)
    exfalso; omega

set_option maxRecDepth 100000 in
theorem DamageF_in {W0 : World} {F : FileM} {g mb c fb cb cc : Nat} {es ces : List Ent} {id : Int} {R : Hp} (hg : (g, sobj mb) ∈ R) (hm : (mb, mobj .u64 es c) ∈ R) (hl : mlook es id = some (.pointer (some ⟨fb, 0, none⟩))) {i ofs : Int} {by0 a0 b : Nat} {n s : Nat} {l : List Value} {bs : List Int} (hlk : mlook ces i = some (chV (some ⟨b, 0, none⟩) n a0 s)) (hat : 0 ≤ ofs) (hat2 : ofs < n) (hby : by0 < 256) (hown : OwnS 5 1 (.slice (some ⟨b, 0, none⟩) n a0) n (iv .u8 bs) [(b, cl l 5)]) (hb : IsB bs) (hn : n ≤ l.length) :
    CxD Try.prog W0 42 #[.pointer (some ⟨g, 0, none⟩), .int .u64 id, .int .i64 i, .int .i64 ofs, .int .u8 (by0 : Int)] ((fb, fobj F cb) :: (cb, mobj .i64 ces cc) :: (b, cl l 5) :: R) (.int .i64 0) ((fb, fobj F cb) :: (cb, mobj .i64 ces cc) :: (b, cl (l.set ofs.toNat (.int .u8 (((bs.getD ofs.toNat 0).toNat ^^^ by0 : Nat) : Int))) 5) :: R) := by
  have hlen : bs.length = n := by simpa using hown.1
  obtain ⟨hcell, _⟩ := own_set hown (show ofs.toNat < n by omega) 0
  have hbj : 0 ≤ bs.getD ofs.toNat 0 ∧ bs.getD ofs.toNat 0 < 256 := hb _ (by rw [List.getD_eq_getElem?_getD, List.getElem?_eq_getElem (by omega)]; exact List.getElem_mem _)
  obtain ⟨q, hq⟩ : ∃ q : Nat, bs.getD ofs.toNat 0 = (q : Int) := ⟨(bs.getD ofs.toNat 0).toNat, by omega⟩
  rw [hq] at hcell hbj ⊢
  rw [Int.toNat_natCast]
  refine enter Try.func42 rfl Try.ntmps42 rfl ?_
  refine WC.seq ?_
  refine WC.region ?_
  refine WL.p (.none rfl) rfl (OpP.assign rfl) ?_
  refine WL.nil ?_
  refine EQ.sub ((Sub.cons (i := 0) rfl (Sub.cons (i := 1) rfl (Sub.cons (i := 2) rfl (Sub.cons (i := 3) rfl (Sub.cons (i := 4) rfl (Sub.cons (i := 10) rfl (Sub.nil _)))))))) ?_
  refine EQ.code ?_
  refine WC.seq ?_
  refine WC.region ?_
  refine WL.p (.none rfl) rfl (OpP.move rfl) ?_
  refine WL.p (.none rfl) rfl (OpP.move rfl) ?_
  refine WL.callD rfl (.none rfl) rfl k_62 rfl (find_some (mb := mb) (c := c) (es := es) (by simp [hg]) (by simp [hm]) hl) ?_
  refine WL.p (.none rfl) rfl (OpP.move rfl) ?_
  refine WL.p (.none rfl) rfl (OpP.extract rfl rfl) ?_
  refine WL.p (.none rfl) rfl (OpP.extract rfl rfl) ?_
  refine WL.p (.none rfl) rfl (OpP.assign rfl) ?_
  refine WL.p (.none rfl) rfl (OpP.assign rfl) ?_
  refine WL.nil ?_
  refine EQ.sub ((Sub.cons (i := 2) rfl (Sub.cons (i := 3) rfl (Sub.cons (i := 4) rfl (Sub.cons (i := 10) rfl (Sub.cons (i := 11) rfl (Sub.cons (i := 12) rfl (Sub.nil _)))))))) ?_
  refine EQ.code ?_
  refine WC.seq ?_
  refine WC.seq ?_
  refine WC.region ?_
  refine WL.p (.none rfl) rfl (OpP.move rfl) ?_
  refine WL.p (.none rfl) rfl (OpP.neqI rfl rfl) ?_
  refine WL.nil ?_
  refine EQ.sub ((Sub.cons (i := 2) rfl (Sub.cons (i := 3) rfl (Sub.cons (i := 4) rfl (Sub.cons (i := 10) rfl (Sub.cons (i := 11) rfl (Sub.cons (i := 12) rfl (Sub.cons (i := 22) rfl (Sub.nil _))))))))) ?_
  refine EQ.code ?_
  refine WC.condF rfl ?_
  refine WC.skip ?_
  refine EQ.code ?_
  refine WC.seq ?_
  refine WC.region ?_
  refine WL.p (.none rfl) rfl (OpP.move rfl) ?_
  refine WL.p (.none rfl) rfl (OpP.nilCheck rfl) ?_
  refine WL.p (.none rfl) rfl (OpP.fieldAddr rfl fld_101_1) ?_
  refine WL.p (.none rfl) rfl (OpP.load rfl ty_99 (Rd.own (by repeat (first | assumption | exact List.mem_cons_self | exact List.mem_of_getElem? (by assumption) | exact set_mem (by first | assumption | exact set_hit (by assumption)) | apply List.mem_cons_of_mem | apply List.mem_append_right)) (by rfl))) ?_
  refine WL.p (.none rfl) rfl (OpP.move rfl) ?_
  refine WL.p (.none rfl) rfl (OpP.look2S rfl rfl map_99 (List.mem_cons_of_mem _ List.mem_cons_self) hlk) ?_
  refine WL.p (.none rfl) rfl (OpP.move rfl) ?_
  refine WL.p (.none rfl) rfl (OpP.extract rfl rfl) ?_
  refine WL.p (.none rfl) rfl (OpP.extract rfl rfl) ?_
  refine WL.allocX z_110 rfl (fun b13 => ?_)
  first | (refine WL.s (.none rfl) rfl (OpS.storeAll rfl rfl ty_110 (by repeat (first | assumption | exact at0 | exact set_hit (by first | assumption | exact set_hit (by assumption)) | apply ats)) (by rfl) (by rfl) (by rfl) (by rfl)) ?_) | (refine WL.s (.none rfl) rfl (OpS.store rfl rfl ty_110 (by repeat (first | assumption | exact at0 | exact set_hit (by first | assumption | exact set_hit (by assumption)) | apply ats)) (by rfl) (by rfl) (by rfl) (by rfl)) ?_)
  refine WL.p (.none rfl) rfl (OpP.assign rfl) ?_
  refine WL.nil ?_
  refine EQ.sub ((Sub.cons (i := 3) rfl (Sub.cons (i := 4) rfl (Sub.cons (i := 10) rfl (Sub.cons (i := 13) rfl (Sub.cons (i := 14) rfl (Sub.nil _))))))) ?_
  refine EQ.code ?_
  refine WC.seq ?_
  refine WC.seq ?_
  refine WC.region ?_
  refine WL.p (.none rfl) rfl (OpP.move rfl) ?_
  refine WL.p (.none rfl) rfl (OpP.not rfl) ?_
  refine WL.p (.none rfl) rfl (OpP.move rfl) ?_
  refine WL.p (.yes rfl rfl rfl) rfl (OpP.move rfl) ?_
  refine WL.p (.yes rfl rfl rfl) rfl (OpP.lss rfl rfl) ?_
  refine WL.p (.none rfl) rfl (OpP.por rfl rfl rfl) ?_
  refine WL.p (.none rfl) rfl (OpP.move rfl) ?_
  refine WL.g (.bool rfl rfl rfl) rfl (fun hg => OpP.move rfl) ?_
  refine WL.g (.bool rfl rfl rfl) rfl (fun hg => OpP.fieldAddr rfl fld_110_0) ?_
  refine WL.g (.bool rfl rfl rfl) rfl (fun hg => OpP.load (gk hg rfl) ty_23 (Rd.own (by repeat (first | assumption | exact List.mem_cons_self | exact List.mem_of_getElem? (by assumption) | exact set_mem (by first | assumption | exact set_hit (by assumption)) | apply List.mem_cons_of_mem | apply List.mem_append_right)) (by rfl))) ?_
  refine WL.g (.bool rfl rfl rfl) rfl (fun hg => OpP.lenSl (gk hg rfl) Try.underlying23) ?_
  refine WL.g (.bool rfl rfl rfl) rfl (fun hg => OpP.geq (gk hg rfl) (gk hg rfl)) ?_
  refine WL.p (.none rfl) rfl (OpP.por rfl rfl rfl) ?_
  refine WL.nil ?_
  refine EQ.sub ((Sub.cons (i := 3) rfl (Sub.cons (i := 4) rfl (Sub.cons (i := 10) rfl (Sub.cons (i := 13) rfl (Sub.cons (i := 45) rfl (Sub.nil _))))))) ?_
  refine EQ.code ?_
  refine WC.cond rfl (fun hc1 => ?_) (fun hc1 => ?_)
  · -- cond 1 t
    (try simp only [decide_eq_true_eq, decide_eq_false_iff_not, Bool.not_eq_true', Bool.not_eq_false', Bool.or_eq_true, Bool.and_eq_true, Bool.or_eq_false_iff, Bool.and_eq_false_imp, Option.isNone_some, Bool.false_eq_true, false_or, true_and] at hc1)
    exfalso; simp at hc1; omega
  · -- cond 1 f
    (try simp only [decide_eq_true_eq, decide_eq_false_iff_not, Bool.not_eq_true', Bool.not_eq_false', Bool.or_eq_true, Bool.and_eq_true, Bool.or_eq_false_iff, Bool.and_eq_false_imp, Option.isNone_some, Bool.false_eq_true, false_or, true_and] at hc1)
    refine WC.skip ?_
    refine EQ.code ?_
    refine WC.seq ?_
    refine WC.region ?_
    refine WL.p (.none rfl) rfl (OpP.fieldAddr rfl fld_110_0) ?_
    refine WL.p (.none rfl) rfl (OpP.load rfl ty_23 (Rd.own (by repeat (first | assumption | exact List.mem_cons_self | exact List.mem_of_getElem? (by assumption) | exact set_mem (by first | assumption | exact set_hit (by assumption)) | apply List.mem_cons_of_mem | apply List.mem_append_right)) (by rfl))) ?_
    refine WL.p (.none rfl) rfl (OpP.move rfl) ?_
    refine WL.p (.none rfl) rfl (OpP.indexS rfl rfl el_23 (by omega) (by omega)) ?_
    refine WL.p (.none rfl) rfl (OpP.load rfl ty_5 (Rd.own (l := l) (T := 5) (by simp) (by rw [Nat.zero_add, Nat.mul_one]; exact hcell))) ?_
    refine WL.p (.none rfl) rfl (OpP.move rfl) ?_
    refine WL.p (.none rfl) rfl (OpP.xor8 rfl rfl (by omega) hby) ?_
    refine WL.p (.none rfl) rfl (OpP.indexS rfl rfl el_23 (by omega) (by omega)) ?_
    refine WL.s (.none rfl) rfl (OpS.store (i := 3) (l := l) rfl rfl ty_5 rfl (by rfl) (by rfl) (by rfl) (by refine Nat.ble_eq_true_of_le ?_; omega)) ?_
    rw [show (0 + ofs.toNat * 1) = ofs.toNat by omega]
    refine WL.nil ?_
    refine EQ.sub ((Sub.cons (i := 10) rfl (Sub.nil _))) ?_
    refine EQ.code ?_
    refine WC.seq ?_
    refine WC.region ?_
    refine WL.p (.none rfl) rfl (OpP.assign rfl) ?_
    refine WL.nil ?_
    refine EQ.sub ((Sub.cons (i := 10) rfl (Sub.nil _))) ?_
    refine EQ.code ?_
    refine WC.ret ?_
    refine EQ.finD (H' := (fb, fobj F cb) :: (cb, mobj .i64 ces cc) :: (b, cl (l.set ofs.toNat (.int .u8 ((q ^^^ by0 : Nat) : Int))) 5) :: R) (res1 rfl (.tmp rfl)) (by intro _ h; first | exact h | exact h.drop | exact h.drop.drop | exact h.drop.drop.drop | exact h.drop.drop.drop.drop | exact h.drop.drop.drop.drop.drop | exact h.drop.drop.drop.drop.drop.drop | exact h.drop_mid) ?_
    exact ⟨rfl, rfl⟩

set_option maxRecDepth 100000 in
theorem Damage_none {W0 : World} {H : Hp} {g mb c : Nat} {es : List Ent} {id i ofs : Int} {by0 : Nat} (hg : (g, sobj mb) ∈ H) (hm : (mb, mobj .u64 es c) ∈ H) (hl : mlook es id = none) : CxD Try.prog W0 42 #[.pointer (some ⟨g, 0, none⟩), .int .u64 id, .int .i64 i, .int .i64 ofs, .int .u8 (by0 : Int)] H (.int .i64 4) H := by
  refine enter Try.func42 rfl Try.ntmps42 rfl ?_
  refine WC.seq ?_
  refine WC.region ?_
  refine WL.p (.none rfl) rfl (OpP.assign rfl) ?_
  refine WL.nil ?_
  refine EQ.sub ((Sub.cons (i := 0) rfl (Sub.cons (i := 1) rfl (Sub.cons (i := 2) rfl (Sub.cons (i := 3) rfl (Sub.cons (i := 4) rfl (Sub.cons (i := 10) rfl (Sub.nil _)))))))) ?_
  refine EQ.code ?_
  refine WC.seq ?_
  refine WC.region ?_
  refine WL.p (.none rfl) rfl (OpP.move rfl) ?_
  refine WL.p (.none rfl) rfl (OpP.move rfl) ?_
  refine WL.callD rfl (.none rfl) rfl k_62 rfl (find_none hg hm hl) ?_
  refine WL.p (.none rfl) rfl (OpP.move rfl) ?_
  refine WL.p (.none rfl) rfl (OpP.extract rfl rfl) ?_
  refine WL.p (.none rfl) rfl (OpP.extract rfl rfl) ?_
  refine WL.p (.none rfl) rfl (OpP.assign rfl) ?_
  refine WL.p (.none rfl) rfl (OpP.assign rfl) ?_
  refine WL.nil ?_
  refine EQ.sub ((Sub.cons (i := 2) rfl (Sub.cons (i := 3) rfl (Sub.cons (i := 4) rfl (Sub.cons (i := 10) rfl (Sub.cons (i := 11) rfl (Sub.cons (i := 12) rfl (Sub.nil _)))))))) ?_
  refine EQ.code ?_
  refine WC.seq ?_
  refine WC.seq ?_
  refine WC.region ?_
  refine WL.p (.none rfl) rfl (OpP.move rfl) ?_
  refine WL.p (.none rfl) rfl (OpP.neqI rfl rfl) ?_
  refine WL.nil ?_
  refine EQ.sub ((Sub.cons (i := 2) rfl (Sub.cons (i := 3) rfl (Sub.cons (i := 4) rfl (Sub.cons (i := 10) rfl (Sub.cons (i := 11) rfl (Sub.cons (i := 12) rfl (Sub.cons (i := 22) rfl (Sub.nil _))))))))) ?_
  refine EQ.code ?_
  refine WC.condT rfl ?_
  refine WC.seq ?_
  refine WC.region ?_
  refine WL.p (.none rfl) rfl (OpP.move rfl) ?_
  refine WL.p (.none rfl) rfl (OpP.assign rfl) ?_
  refine WL.nil ?_
  refine EQ.sub ((Sub.cons (i := 2) rfl (Sub.cons (i := 3) rfl (Sub.cons (i := 4) rfl (Sub.cons (i := 10) rfl (Sub.cons (i := 11) rfl (Sub.nil _))))))) ?_
  refine EQ.code ?_
  refine WC.ret ?_
  refine EQ.thenR ?_
  refine EQ.fin (res1 rfl (.tmp rfl)) ?_
  exact ⟨rfl, rfl⟩

set_option maxRecDepth 100000 in
theorem Damage_zero {W0 : World} {H : Hp} {g : Nat} {id i ofs : Int} {by0 : Nat} (hg : (g, cl [.map none] 97) ∈ H) : CxD Try.prog W0 42 #[.pointer (some ⟨g, 0, none⟩), .int .u64 id, .int .i64 i, .int .i64 ofs, .int .u8 (by0 : Int)] H (.int .i64 6) H := by
  refine enter Try.func42 rfl Try.ntmps42 rfl ?_
  refine WC.seq ?_
  refine WC.region ?_
  refine WL.p (.none rfl) rfl (OpP.assign rfl) ?_
  refine WL.nil ?_
  refine EQ.sub ((Sub.cons (i := 0) rfl (Sub.cons (i := 1) rfl (Sub.cons (i := 2) rfl (Sub.cons (i := 3) rfl (Sub.cons (i := 4) rfl (Sub.cons (i := 10) rfl (Sub.nil _)))))))) ?_
  refine EQ.code ?_
  refine WC.seq ?_
  refine WC.region ?_
  refine WL.p (.none rfl) rfl (OpP.move rfl) ?_
  refine WL.p (.none rfl) rfl (OpP.move rfl) ?_
  refine WL.callD rfl (.none rfl) rfl k_62 rfl (find_zero hg) ?_
  refine WL.p (.none rfl) rfl (OpP.move rfl) ?_
  refine WL.p (.none rfl) rfl (OpP.extract rfl rfl) ?_
  refine WL.p (.none rfl) rfl (OpP.extract rfl rfl) ?_
  refine WL.p (.none rfl) rfl (OpP.assign rfl) ?_
  refine WL.p (.none rfl) rfl (OpP.assign rfl) ?_
  refine WL.nil ?_
  refine EQ.sub ((Sub.cons (i := 2) rfl (Sub.cons (i := 3) rfl (Sub.cons (i := 4) rfl (Sub.cons (i := 10) rfl (Sub.cons (i := 11) rfl (Sub.cons (i := 12) rfl (Sub.nil _)))))))) ?_
  refine EQ.code ?_
  refine WC.seq ?_
  refine WC.seq ?_
  refine WC.region ?_
  refine WL.p (.none rfl) rfl (OpP.move rfl) ?_
  refine WL.p (.none rfl) rfl (OpP.neqI rfl rfl) ?_
  refine WL.nil ?_
  refine EQ.sub ((Sub.cons (i := 2) rfl (Sub.cons (i := 3) rfl (Sub.cons (i := 4) rfl (Sub.cons (i := 10) rfl (Sub.cons (i := 11) rfl (Sub.cons (i := 12) rfl (Sub.cons (i := 22) rfl (Sub.nil _))))))))) ?_
  refine EQ.code ?_
  refine WC.condT rfl ?_
  refine WC.seq ?_
  refine WC.region ?_
  refine WL.p (.none rfl) rfl (OpP.move rfl) ?_
  refine WL.p (.none rfl) rfl (OpP.assign rfl) ?_
  refine WL.nil ?_
  refine EQ.sub ((Sub.cons (i := 2) rfl (Sub.cons (i := 3) rfl (Sub.cons (i := 4) rfl (Sub.cons (i := 10) rfl (Sub.cons (i := 11) rfl (Sub.nil _))))))) ?_
  refine EQ.code ?_
  refine WC.ret ?_
  refine EQ.thenR ?_
  refine EQ.fin (res1 rfl (.tmp rfl)) ?_
  exact ⟨rfl, rfl⟩

end Go.Proofs.Ytmeimjpjelmchaa
