/- Fnew: walks of functions of the program, each over the rules of Sx. No conditions but those in the theorems' heads. -/
import Derived.Test.YtmeimjpjelmchaaFl2
import Derived.Test.YtmeimjpjelmchaaProg
set_option linter.unusedVariables false
set_option linter.unusedSimpArgs false
namespace Go.Proofs.Ytmeimjpjelmchaa
open Go.RowKit Go.Sx
namespace Fnew
theorem bld_34 : bldS Try.prog 34 = some ([(0, 1), (1, 1), (2, 1), (3, 32)], [.int .u64 0, .string ⟨#[]⟩, .int .i64 0, .int .u8 0, .int .u8 0, .int .u8 0, .int .u8 0, .int .u8 0, .int .u8 0, .int .u8 0, .int .u8 0, .int .u8 0, .int .u8 0, .int .u8 0, .int .u8 0, .int .u8 0, .int .u8 0, .int .u8 0, .int .u8 0, .int .u8 0, .int .u8 0, .int .u8 0, .int .u8 0, .int .u8 0, .int .u8 0, .int .u8 0, .int .u8 0, .int .u8 0, .int .u8 0, .int .u8 0, .int .u8 0, .int .u8 0, .int .u8 0, .int .u8 0, .int .u8 0]) := by kernel_rfl
theorem bld_57 : bldS Try.prog 57 = some ([(0, 1), (1, 35), (36, 1), (37, 2), (39, 1), (40, 1)], [.bool false, .int .u64 0, .string ⟨#[]⟩, .int .i64 0, .int .u8 0, .int .u8 0, .int .u8 0, .int .u8 0, .int .u8 0, .int .u8 0, .int .u8 0, .int .u8 0, .int .u8 0, .int .u8 0, .int .u8 0, .int .u8 0, .int .u8 0, .int .u8 0, .int .u8 0, .int .u8 0, .int .u8 0, .int .u8 0, .int .u8 0, .int .u8 0, .int .u8 0, .int .u8 0, .int .u8 0, .int .u8 0, .int .u8 0, .int .u8 0, .int .u8 0, .int .u8 0, .int .u8 0, .int .u8 0, .int .u8 0, .int .u8 0, .slice none 0 0, .int .i64 0, .int .u64 0, .int .i64 0, .bool false]) := by kernel_rfl
theorem k_10 : Cal Try.prog 10 := ⟨_, _, Try.func10, by kernel_rfl, rfl⟩
theorem k_28 : Cal Try.prog 28 := ⟨_, _, Try.func28, by kernel_rfl, rfl⟩
theorem k_34 : Cal Try.prog 34 := ⟨_, _, Try.func34, by kernel_rfl, rfl⟩
theorem k_45 : Cal Try.prog 45 := ⟨_, _, Try.func45, by kernel_rfl, rfl⟩
theorem k_47 : Cal Try.prog 47 := ⟨_, _, Try.func47, by kernel_rfl, rfl⟩
theorem sl_87 : slI Try.prog 87 = some (23, 1, 24) := by kernel_rfl
theorem ty_34 : tyI Try.prog 34 = some (true, 35) := by kernel_rfl
theorem ty_38 : tyI Try.prog 38 = some (true, 2) := by kernel_rfl
theorem z_34 : zI Try.prog 34 = some [.int .u64 0, .string ⟨#[]⟩, .int .i64 0, .int .u8 0, .int .u8 0, .int .u8 0, .int .u8 0, .int .u8 0, .int .u8 0, .int .u8 0, .int .u8 0, .int .u8 0, .int .u8 0, .int .u8 0, .int .u8 0, .int .u8 0, .int .u8 0, .int .u8 0, .int .u8 0, .int .u8 0, .int .u8 0, .int .u8 0, .int .u8 0, .int .u8 0, .int .u8 0, .int .u8 0, .int .u8 0, .int .u8 0, .int .u8 0, .int .u8 0, .int .u8 0, .int .u8 0, .int .u8 0, .int .u8 0, .int .u8 0] := by kernel_rfl
theorem z_38 : zI Try.prog 38 = some [.int .i64 0, .int .u64 0] := by kernel_rfl
end Fnew
open Fnew

theorem NewIn_c {W0 : World} {H : Hp} {n : Int} (h : 0 ≤ n ∧ n ≤ 64) : CxD Try.prog W0 45 #[.int .i64 n] H (.tuple #[mv n 0, .int .i64 0]) H := by
  have e := New_c (W0 := W0) (H := H) (n := n)
  rw [if_pos h, if_pos h] at e
  exact e
/-- A sender as it is made. -/
def newSnd (id : Int) (nm : ByteArray) (m : Nat) (F : Nat → Int) (ba : Option Addr) (bc : Nat) : Snd := { made := true, id := id, name := nm, size := m, sum := F, ba := ba, bl := m, bc := bc, n := chunks m, bits := 0, pos := 0, gone := false }

set_option maxRecDepth 100000 in
theorem FNew_c {W0 : World} {H : Hp} {id : Int} {nm : ByteArray} {a : Option Addr} {m cp : Nat} {l : List Int} (hl : l.length = m) (hb : l.length ≤ 17592186044416) (hc : m ≤ cp) (hsl : Sl W0 H a (iv .u8 l)) :
    CxX Try.prog W0 9 #[.int .u64 id, .string nm, .slice a m cp] H (fun v H' => if infoOk id nm m then ∃ g ds ba bc, v = .tuple #[.pointer (some ⟨g, 0, none⟩), .int .i64 0] ∧ H' = (g, (newSnd id nm m (sumF l) ba bc).obj) :: (ds ++ H) ∧ OwnS 5 1 (.slice ba m bc) m (iv .u8 l) ds
      else v = .tuple #[.pointer none, .int .i64 3] ∧ H' = H) := by
  have hch := chunks_bd m
  refine enter Try.func9 rfl Try.ntmps9 rfl ?_
  refine WC.seq ?_
  refine WC.region ?_
  refine WL.p (.none rfl) rfl (OpP.assign rfl) ?_
  refine WL.p (.none rfl) rfl (OpP.assign rfl) ?_
  refine WL.nil ?_
  refine EQ.sub ((Sub.cons (i := 0) rfl (Sub.cons (i := 1) rfl (Sub.cons (i := 2) rfl (Sub.cons (i := 6) rfl (Sub.cons (i := 7) rfl (Sub.nil _))))))) ?_
  refine EQ.code ?_
  refine WC.seq ?_
  refine WC.region ?_
  refine WL.p (.none rfl) rfl (OpP.move rfl) ?_
  refine WL.p (.none rfl) rfl (OpP.move rfl) ?_
  refine WL.p (.none rfl) rfl (OpP.move rfl) ?_
  refine WL.p (.none rfl) rfl (OpP.lenSl rfl Try.underlying23) ?_
  refine WL.p (.none rfl) rfl (OpP.move rfl) ?_
  refine WL.buildSlice1 sl_87 rfl rfl (by decide) rfl rfl (by rfl) (fun b16 => ?_)
  refine WL.callD rfl (.none rfl) rfl k_28 rfl (Of_c hl (by omega) hc hsl.cons (Sl.own List.mem_cons_self (fun j x hj => by simpa using hj))) ?_
  generalize sumF l = F
  refine WL.p (.none rfl) rfl (OpP.buildS (l := .int .u64 id :: .string nm :: .int .i64 m :: sumL F) bld_34 (kI rfl (kI rfl (kI rfl (kI rfl kI0)))) (by kernel_rfl)) ?_
  refine WL.allocX z_34 rfl (fun b8 => ?_)
  first | (refine WL.s (.none rfl) rfl (OpS.storeAll rfl rfl ty_34 (by repeat (first | assumption | exact at0 | exact set_hit (by first | assumption | exact set_hit (by assumption)) | apply ats)) (by rfl) (by rfl) (by rfl) (by rfl)) ?_) | (refine WL.s (.none rfl) rfl (OpS.store rfl rfl ty_34 (by repeat (first | assumption | exact at0 | exact set_hit (by first | assumption | exact set_hit (by assumption)) | apply ats)) (by rfl) (by rfl) (by rfl) (by rfl)) ?_)
  refine WL.nil ?_
  refine EQ.sub ((Sub.cons (i := 2) rfl (Sub.cons (i := 6) rfl (Sub.cons (i := 7) rfl (Sub.cons (i := 8) rfl (Sub.nil _)))))) ?_
  refine EQ.code ?_
  refine WC.seq ?_
  refine WC.seq ?_
  refine WC.region ?_
  refine WL.p (.none rfl) rfl (OpP.loadB rfl ty_34 (by repeat (first | assumption | exact List.mem_cons_self | exact List.mem_of_getElem? (by assumption) | exact set_mem (by first | assumption | exact set_hit (by assumption)) | apply List.mem_cons_of_mem | apply List.mem_append_right)) (by rfl)) ?_
  refine WL.callD rfl (.none rfl) rfl k_10 rfl (StRight_c) ?_
  refine WL.p (.none rfl) rfl (OpP.not rfl) ?_
  refine WL.nil ?_
  refine EQ.sub ((Sub.cons (i := 2) rfl (Sub.cons (i := 6) rfl (Sub.cons (i := 7) rfl (Sub.cons (i := 8) rfl (Sub.cons (i := 21) rfl (Sub.nil _))))))) ?_
  refine EQ.code ?_
  refine WC.cond rfl (fun hc0 => ?_) (fun hc0 => ?_)
  · -- cond 0 t
    (try simp only [decide_eq_true_eq, decide_eq_false_iff_not, Bool.not_eq_true', Bool.not_eq_false', Bool.or_eq_true, Bool.and_eq_true, Bool.or_eq_false_iff, Bool.and_eq_false_imp, Option.isNone_some, Bool.false_eq_true, false_or, true_and] at hc0)
    refine WC.seq ?_
    refine WC.region ?_
    refine WL.p (.none rfl) rfl (OpP.assign rfl) ?_
    refine WL.p (.none rfl) rfl (OpP.assign rfl) ?_
    refine WL.nil ?_
    refine EQ.sub ((Sub.cons (i := 2) rfl (Sub.cons (i := 6) rfl (Sub.cons (i := 7) rfl (Sub.cons (i := 8) rfl (Sub.nil _)))))) ?_
    refine EQ.code ?_
    refine WC.ret ?_
    refine EQ.thenR ?_
    refine EQ.finD (H' := H) (res2 rfl (.tmp rfl) (.tmp rfl)) (by intro _ h; first | exact h.drop.drop | exact h.sublist (List.Sublist.cons_cons _ (List.Sublist.append_left ((((List.Sublist.refl _).cons _).cons _).cons _) ds))) ?_
    rw [hc0]
    exact ⟨rfl, rfl⟩
  · -- cond 0 f
    (try simp only [decide_eq_true_eq, decide_eq_false_iff_not, Bool.not_eq_true', Bool.not_eq_false', Bool.or_eq_true, Bool.and_eq_true, Bool.or_eq_false_iff, Bool.and_eq_false_imp, Option.isNone_some, Bool.false_eq_true, false_or, true_and] at hc0)
    refine WC.skip ?_
    refine EQ.code ?_
    refine WC.seq ?_
    refine WC.region ?_
    refine WL.p (.none rfl) rfl (OpP.move rfl) ?_
    refine WL.p (.none rfl) rfl (OpP.lenSl rfl Try.underlying23) ?_
    refine WL.callD rfl (.none rfl) rfl k_34 rfl (Chunks_c) ?_
    refine WL.callD rfl (.none rfl) rfl k_45 rfl (NewIn_c (by omega)) ?_
    refine WL.p (.none rfl) rfl (OpP.move rfl) ?_
    refine WL.p (.none rfl) rfl (OpP.extract rfl rfl) ?_
    refine WL.p (.none rfl) rfl (OpP.extract rfl rfl) ?_
    refine WL.allocX z_38 rfl (fun b9 => ?_)
    first | (refine WL.s (.none rfl) rfl (OpS.storeAll rfl rfl ty_38 (by repeat (first | assumption | exact at0 | exact set_hit (by first | assumption | exact set_hit (by assumption)) | apply ats)) (by rfl) (by rfl) (by rfl) (by rfl)) ?_) | (refine WL.s (.none rfl) rfl (OpS.store rfl rfl ty_38 (by repeat (first | assumption | exact at0 | exact set_hit (by first | assumption | exact set_hit (by assumption)) | apply ats)) (by rfl) (by rfl) (by rfl) (by rfl)) ?_)
    refine WL.p (.none rfl) rfl (OpP.assign rfl) ?_
    refine WL.nil ?_
    refine EQ.sub ((Sub.cons (i := 2) rfl (Sub.cons (i := 6) rfl (Sub.cons (i := 7) rfl (Sub.cons (i := 8) rfl (Sub.cons (i := 9) rfl (Sub.cons (i := 10) rfl (Sub.nil _)))))))) ?_
    refine EQ.code ?_
    refine WC.seq ?_
    refine WC.seq ?_
    refine WC.region ?_
    refine WL.p (.none rfl) rfl (OpP.move rfl) ?_
    refine WL.p (.none rfl) rfl (OpP.neqI rfl rfl) ?_
    refine WL.nil ?_
    refine EQ.sub ((Sub.cons (i := 2) rfl (Sub.cons (i := 6) rfl (Sub.cons (i := 7) rfl (Sub.cons (i := 8) rfl (Sub.cons (i := 9) rfl (Sub.cons (i := 10) rfl (Sub.cons (i := 30) rfl (Sub.nil _))))))))) ?_
    refine EQ.code ?_
    refine WC.condF rfl ?_
    refine WC.skip ?_
    refine EQ.code ?_
    refine WC.seq ?_
    refine WC.mix (by kernel_rfl) ?_
    refine AJ.p (i := 0) rfl (by kernel_rfl) (.none rfl) rfl (OpP.loadB rfl ty_34 (by repeat (first | assumption | exact List.mem_cons_self | exact List.mem_of_getElem? (by assumption) | exact set_mem (by first | assumption | exact set_hit (by assumption)) | apply List.mem_cons_of_mem | apply List.mem_append_right)) (by rfl)) ?_
    refine AJ.p (i := 1) rfl (by kernel_rfl) (.none rfl) rfl (OpP.move rfl) ?_
    refine AJ.p (i := 3) rfl (by kernel_rfl) (.none rfl) rfl (OpP.loadB rfl ty_38 (by repeat (first | assumption | exact List.mem_cons_self | exact List.mem_of_getElem? (by assumption) | exact set_mem (by first | assumption | exact set_hit (by assumption)) | apply List.mem_cons_of_mem | apply List.mem_append_right)) (by rfl)) ?_
    refine AJ.one 2 rfl (by kernel_rfl) (by intro _ h; first | exact h | exact h.drop | exact h.drop.drop | exact h.sublist (List.sublist_append_right _ _) | exact h.drop.sublist (List.sublist_append_right _ _)) ?_
    refine WL.call rfl (.none rfl) rfl k_47 rfl (Clone47_c hl hb hsl.cons.cons.cons) ?_
    rintro _ _ ⟨ds, rfl, hown, hnil⟩
    obtain ⟨ba, bc, rfl, hbc, hbc2, hbs⟩ := hown.val
    refine WL.nil ?_
    refine EQ.an ?_
    refine AJ.p (i := 4) rfl (by kernel_rfl) (.none rfl) rfl (OpP.buildS (l := (newSnd id nm m F ba bc).l) bld_57 (kI rfl (kI rfl (kI rfl (kI rfl kI0)))) (by kernel_rfl)) ?_
    refine AJ.one 5 rfl (by kernel_rfl) (by intro _ h; first | exact h | exact h.drop | exact h.drop.drop | exact h.sublist (List.sublist_append_right _ _) | exact h.drop.sublist (List.sublist_append_right _ _)) ?_
    refine WL.box rfl rfl rfl (fun b37 => ?_)
    refine WL.nil ?_
    refine EQ.an ?_
    refine AJ.p (i := 6) rfl (by kernel_rfl) (.none rfl) rfl (OpP.assign rfl) ?_
    refine AJ.p (i := 7) rfl (by kernel_rfl) (.none rfl) rfl (OpP.assign rfl) ?_
    refine AJ.done (by kernel_rfl) (by intro _ h; first | exact h | exact h.drop | exact h.drop.drop | exact h.sublist (List.sublist_append_right _ _) | exact h.drop.sublist (List.sublist_append_right _ _)) ?_
    refine EQ.sub ((Sub.cons (i := 6) rfl (Sub.cons (i := 7) rfl (Sub.nil _)))) ?_
    refine EQ.code ?_
    refine WC.ret ?_
    refine EQ.finD (H' := (b37, (newSnd id nm m F ba bc).obj) :: (ds ++ H)) (res2 rfl (.tmp rfl) (.tmp rfl)) (by intro _ h; first | exact h.drop.drop | exact h.sublist (List.Sublist.cons_cons _ (List.Sublist.append_left ((((List.Sublist.refl _).cons _).cons _).cons _) ds))) ?_
    rw [hc0]
    exact ⟨b37, ds, ba, bc, rfl, rfl, hown⟩

end Go.Proofs.Ytmeimjpjelmchaa
