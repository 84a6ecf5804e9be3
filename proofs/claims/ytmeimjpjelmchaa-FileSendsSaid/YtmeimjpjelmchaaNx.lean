/- Nx: walks of functions of the program, each over the rules of Sx. No conditions but those in the theorems' heads. -/
import Derived.Test.YtmeimjpjelmchaaFnew
import Derived.Test.YtmeimjpjelmchaaProg
set_option linter.unusedVariables false
set_option linter.unusedSimpArgs false
namespace Go.Proofs.Ytmeimjpjelmchaa
open Go.RowKit Go.Sx
namespace Nx
theorem fld_34_2 : fldI Try.prog 34 2 = some (2, false, 1) := by kernel_rfl
theorem fld_57_1 : fldI Try.prog 57 1 = some (1, true, 35) := by kernel_rfl
theorem fld_57_2 : fldI Try.prog 57 2 = some (36, false, 1) := by kernel_rfl
theorem fld_57_4 : fldI Try.prog 57 4 = some (39, false, 1) := by kernel_rfl
theorem k_35 : Cal Try.prog 35 := ⟨_, _, Try.func35, by kernel_rfl, rfl⟩
theorem k_47 : Cal Try.prog 47 := ⟨_, _, Try.func47, by kernel_rfl, rfl⟩
theorem k_49 : Cal Try.prog 49 := ⟨_, _, Try.func49, by kernel_rfl, rfl⟩
theorem sl_23 : slI Try.prog 23 = some (5, 1, 1) := by kernel_rfl
theorem ty_23 : tyI Try.prog 23 = some (false, 1) := by kernel_rfl
theorem ty_3 : tyI Try.prog 3 = some (false, 1) := by kernel_rfl
end Nx
open Nx

set_option maxRecDepth 100000 in
theorem Next_c {W0 : World} {H : Hp} {g i : Nat} {x : Snd} (hi : H[i]? = some (g, x.obj)) (hb : 0 ≤ x.bits) (hb2 : x.bits < 18446744073709551616) (hr : mRight x.n x.bits = true) {bd : List Int} (hbl : bd.length = x.bl) (hsz : x.size = x.bl) (hcn : x.n = chunks x.size) (hbc : x.bl ≤ x.bc) (hbc2 : x.bc ≤ 9223372036854775807)
    (hbody : ∀ o, Sl W0 (H.set i (g, o)) x.ba (iv .u8 bd)) :
    CxX Try.prog W0 17 #[.pointer (some ⟨g, 0, none⟩)] H (fun v H' => if x.next < 0 then v = .tuple #[.int .i64 0, .slice none 0 0, .bool false] ∧ H' = H else ∃ ds pa pc, v = .tuple #[.int .i64 x.next, .slice pa (lengthAt x.size x.next).toNat pc, .bool true] ∧
      H' = ds ++ H.set i (g, { x with pos := x.next + 1 }.obj) ∧ OwnS 5 1 (.slice pa (lengthAt x.size x.next).toNat pc) (lengthAt x.size x.next).toNat (iv .u8 ((bd.drop (x.next * 64).toNat).take (lengthAt x.size x.next).toNat)) ds) := by
  have hbd := next_bd x (mRight_spec hr).2.1 (fun h1 h2 => miss_ne hr hb h1 h2)
  have hlt := next_lt x (mRight_spec hr).1 (fun h1 h2 => miss_ne hr hb h1 h2)
  refine enter Try.func17 rfl Try.ntmps17 rfl ?_
  refine WC.seq ?_
  refine WC.region ?_
  refine WL.p (.none rfl) rfl (OpP.assign rfl) ?_
  refine WL.p (.none rfl) rfl (OpP.assign rfl) ?_
  refine WL.p (.none rfl) rfl (OpP.assign rfl) ?_
  refine WL.nil ?_
  refine EQ.sub ((Sub.cons (i := 0) rfl (Sub.cons (i := 2) rfl (Sub.cons (i := 3) rfl (Sub.cons (i := 4) rfl (Sub.nil _)))))) ?_
  refine EQ.code ?_
  refine WC.seq ?_
  refine WC.region ?_
  refine WL.p (.none rfl) rfl (OpP.move rfl) ?_
  refine WL.callD rfl (.none rfl) rfl k_49 rfl (next_c hi hb hb2 hr) ?_
  refine WL.p (.none rfl) rfl (OpP.assign rfl) ?_
  refine WL.nil ?_
  refine EQ.sub ((Sub.cons (i := 0) rfl (Sub.cons (i := 2) rfl (Sub.cons (i := 3) rfl (Sub.cons (i := 4) rfl (Sub.cons (i := 5) rfl (Sub.nil _))))))) ?_
  refine EQ.code ?_
  refine WC.seq ?_
  refine WC.seq ?_
  refine WC.region ?_
  refine WL.p (.none rfl) rfl (OpP.move rfl) ?_
  refine WL.p (.none rfl) rfl (OpP.lss rfl rfl) ?_
  refine WL.nil ?_
  refine EQ.sub ((Sub.cons (i := 0) rfl (Sub.cons (i := 2) rfl (Sub.cons (i := 3) rfl (Sub.cons (i := 4) rfl (Sub.cons (i := 5) rfl (Sub.cons (i := 11) rfl (Sub.nil _)))))))) ?_
  refine EQ.code ?_
  refine WC.cond rfl (fun hc0 => ?_) (fun hc0 => ?_)
  · -- cond 0 t
    (try simp only [decide_eq_true_eq, decide_eq_false_iff_not, Bool.not_eq_true', Bool.not_eq_false', Bool.or_eq_true, Bool.and_eq_true, Bool.or_eq_false_iff, Bool.and_eq_false_imp, Option.isNone_some, Bool.false_eq_true, false_or, true_and] at hc0)
    refine WC.seq ?_
    refine WC.region ?_
    refine WL.p (.none rfl) rfl (OpP.assign rfl) ?_
    refine WL.p (.none rfl) rfl (OpP.assign rfl) ?_
    refine WL.p (.none rfl) rfl (OpP.assign rfl) ?_
    refine WL.nil ?_
    refine EQ.sub ((Sub.cons (i := 0) rfl (Sub.cons (i := 2) rfl (Sub.cons (i := 3) rfl (Sub.cons (i := 4) rfl (Sub.cons (i := 5) rfl (Sub.nil _))))))) ?_
    refine EQ.code ?_
    refine WC.ret ?_
    refine EQ.thenR ?_
    refine EQ.finD (H' := H) (res3 rfl (.tmp rfl) (.tmp rfl) (.tmp rfl)) (by intro _ h; first | exact h | exact h.drop | exact h.drop.drop | exact h.drop.drop.drop | exact h.drop.drop.drop.drop | exact h.drop.drop.drop.drop.drop | exact h.drop.drop.drop.drop.drop.drop | exact h.drop_mid) ?_
    rw [if_pos hc0]
    exact ⟨rfl, rfl⟩
  · -- cond 0 f
    (try simp only [decide_eq_true_eq, decide_eq_false_iff_not, Bool.not_eq_true', Bool.not_eq_false', Bool.or_eq_true, Bool.and_eq_true, Bool.or_eq_false_iff, Bool.and_eq_false_imp, Option.isNone_some, Bool.false_eq_true, false_or, true_and] at hc0)
    have hla := lengthAt_bd (n := x.size) (i := x.next) (by omega) (by omega)
    refine WC.skip ?_
    refine EQ.code ?_
    refine WC.seq ?_
    refine WC.region ?_
    refine WL.p (.none rfl) rfl (OpP.move rfl) ?_
    refine WL.p (.none rfl) rfl (OpP.move rfl) ?_
    first | (refine WL.p (.none rfl) rfl (OpP.add64 rfl rfl (by omega)) ?_) | (refine WL.p (.none rfl) rfl (OpP.add rfl rfl) ?_)
    refine WL.p (.none rfl) rfl (OpP.nilCheck rfl) ?_
    refine WL.p (.none rfl) rfl (OpP.fieldAddr rfl fld_57_4) ?_
    refine WL.s (.none rfl) rfl (OpS.store rfl rfl ty_3 (by repeat (first | assumption | exact at0 | exact set_hit (by first | assumption | exact set_hit (by assumption)) | apply ats)) (by rfl) (by rfl) (by rfl) (by rfl)) ?_
    refine WL.nil ?_
    refine EQ.sub ((Sub.cons (i := 0) rfl (Sub.cons (i := 2) rfl (Sub.cons (i := 3) rfl (Sub.cons (i := 4) rfl (Sub.cons (i := 5) rfl (Sub.nil _))))))) ?_
    refine EQ.code ?_
    refine WC.seq ?_
    refine WC.region ?_
    refine WL.p (.none rfl) rfl (OpP.move rfl) ?_
    first | (refine WL.p (.none rfl) rfl (OpP.mul64 rfl rfl (by omega)) ?_) | (refine WL.p (.none rfl) rfl (OpP.mul rfl rfl) ?_)
    refine WL.p (.none rfl) rfl (OpP.assign rfl) ?_
    refine WL.nil ?_
    refine EQ.sub ((Sub.cons (i := 0) rfl (Sub.cons (i := 2) rfl (Sub.cons (i := 3) rfl (Sub.cons (i := 4) rfl (Sub.cons (i := 5) rfl (Sub.cons (i := 6) rfl (Sub.nil _)))))))) ?_
    refine EQ.code ?_
    refine WC.seq ?_
    refine WC.region ?_
    refine WL.p (.none rfl) rfl (OpP.move rfl) ?_
    refine WL.p (.none rfl) rfl (OpP.move rfl) ?_
    refine WL.p (.none rfl) rfl (OpP.nilCheck rfl) ?_
    refine WL.p (.none rfl) rfl (OpP.fieldAddr rfl fld_57_1) ?_
    refine WL.p (.none rfl) rfl (OpP.fieldAddr rfl fld_34_2) ?_
    refine WL.p (.none rfl) rfl (OpP.load rfl ty_3 (Rd.own (by repeat (first | assumption | exact List.mem_cons_self | exact List.mem_of_getElem? (by assumption) | exact set_mem (by first | assumption | exact set_hit (by assumption)) | apply List.mem_cons_of_mem | apply List.mem_append_right)) (by rfl))) ?_
    refine WL.p (.none rfl) rfl (OpP.move rfl) ?_
    refine WL.callD rfl (.none rfl) rfl k_35 rfl (Length_c (by omega)) ?_
    first | (refine WL.p (.none rfl) rfl (OpP.add64 rfl rfl (by omega)) ?_) | (refine WL.p (.none rfl) rfl (OpP.add rfl rfl) ?_)
    refine WL.p (.none rfl) rfl (OpP.assign rfl) ?_
    refine WL.nil ?_
    refine EQ.sub ((Sub.cons (i := 0) rfl (Sub.cons (i := 2) rfl (Sub.cons (i := 3) rfl (Sub.cons (i := 4) rfl (Sub.cons (i := 5) rfl (Sub.cons (i := 6) rfl (Sub.cons (i := 7) rfl (Sub.nil _))))))))) ?_
    refine EQ.code ?_
    refine WC.seq ?_
    refine WC.region ?_
    refine WL.p (.none rfl) rfl (OpP.move rfl) ?_
    refine WL.p (.none rfl) rfl (OpP.move rfl) ?_
    refine WL.p (.none rfl) rfl (OpP.nilCheck rfl) ?_
    refine WL.p (.none rfl) rfl (OpP.fieldAddr rfl fld_57_2) ?_
    refine WL.p (.none rfl) rfl (OpP.load rfl ty_23 (Rd.own (by repeat (first | assumption | exact List.mem_cons_self | exact List.mem_of_getElem? (by assumption) | exact set_mem (by first | assumption | exact set_hit (by assumption)) | apply List.mem_cons_of_mem | apply List.mem_append_right)) (by rfl))) ?_
    refine WL.p (.none rfl) rfl (OpP.move rfl) ?_
    refine WL.p (.none rfl) rfl (OpP.move rfl) ?_
    refine WL.p (.none rfl) rfl (OpP.move rfl) ?_
    refine WL.p (.none rfl) rfl (OpP.slice rfl sl_23 (l := _) (⟨_, rfl⟩) (⟨_, rfl⟩) (⟨_, rfl⟩) (by omega) (by omega) (by omega) (by omega)) ?_
    refine WL.call rfl (.none rfl) rfl k_47 rfl (Clone47_c (l := (bd.drop (x.next * 64).toNat).take (lengthAt x.size x.next).toNat) (by simp [hbl]; omega) (by simp; omega) (((hbody _).cutB _ _ (by intro h; omega)).takeB _)) ?_
    rintro _ _ ⟨ds, rfl, hown, hnil⟩
    rw [show x.next * 64 + lengthAt x.size x.next - x.next * 64 = lengthAt x.size x.next by omega] at hown
    obtain ⟨pa, pc, rfl, hpc, hpc2, hps⟩ := hown.val
    refine WL.p (.none rfl) rfl (OpP.assign rfl) ?_
    refine WL.p (.none rfl) rfl (OpP.assign rfl) ?_
    refine WL.p (.none rfl) rfl (OpP.assign rfl) ?_
    refine WL.nil ?_
    refine EQ.sub ((Sub.cons (i := 2) rfl (Sub.cons (i := 3) rfl (Sub.cons (i := 4) rfl (Sub.nil _))))) ?_
    refine EQ.code ?_
    refine WC.ret ?_
    refine EQ.finD (H' := ds ++ H.set i (g, { x with pos := x.next + 1 }.obj)) (res3 rfl (.tmp rfl) (.tmp rfl) (.tmp rfl)) (by intro _ h; first | exact h | exact h.drop | exact h.drop.drop | exact h.drop.drop.drop | exact h.drop.drop.drop.drop | exact h.drop.drop.drop.drop.drop | exact h.drop.drop.drop.drop.drop.drop | exact h.drop_mid) ?_
    rw [if_neg hc0]
    exact ⟨ds, _, _, rfl, rfl, hown⟩

end Go.Proofs.Ytmeimjpjelmchaa
