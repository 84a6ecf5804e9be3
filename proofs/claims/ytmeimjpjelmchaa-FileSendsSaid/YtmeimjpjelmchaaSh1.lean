/- Sh1: walks of functions of the program, each over the rules of Sx. No conditions but those in the theorems' heads. -/
import Derived.Test.YtmeimjpjelmchaaSha
import Derived.Test.YtmeimjpjelmchaaBits
import Derived.Test.YtmeimjpjelmchaaProg
set_option linter.unusedVariables false
set_option linter.unusedSimpArgs false
namespace Go.Proofs.Ytmeimjpjelmchaa
open Go.RowKit Go.Sx
namespace Sh1
theorem blda_113 : bldA Try.prog 113 = some (8, 1) := by kernel_rfl
theorem blda_138 : bldA Try.prog 138 = some (64, 1) := by kernel_rfl
theorem el_23 : elI Try.prog 23 = some (none, 5, false, 1) := by kernel_rfl
theorem k_75 : Cal Try.prog 75 := ⟨_, _, Try.func75, by kernel_rfl, rfl⟩
theorem ty_113 : tyI Try.prog 113 = some (true, 8) := by kernel_rfl
theorem ty_138 : tyI Try.prog 138 = some (true, 64) := by kernel_rfl
theorem ty_5 : tyI Try.prog 5 = some (false, 1) := by kernel_rfl
theorem z_113 : zI Try.prog 113 = some [.int .u32 0, .int .u32 0, .int .u32 0, .int .u32 0, .int .u32 0, .int .u32 0, .int .u32 0, .int .u32 0] := by kernel_rfl
theorem z_138 : zI Try.prog 138 = some [.int .u32 0, .int .u32 0, .int .u32 0, .int .u32 0, .int .u32 0, .int .u32 0, .int .u32 0, .int .u32 0, .int .u32 0, .int .u32 0, .int .u32 0, .int .u32 0, .int .u32 0, .int .u32 0, .int .u32 0, .int .u32 0, .int .u32 0, .int .u32 0, .int .u32 0, .int .u32 0, .int .u32 0, .int .u32 0, .int .u32 0, .int .u32 0, .int .u32 0, .int .u32 0, .int .u32 0, .int .u32 0, .int .u32 0, .int .u32 0, .int .u32 0, .int .u32 0, .int .u32 0, .int .u32 0, .int .u32 0, .int .u32 0, .int .u32 0, .int .u32 0, .int .u32 0, .int .u32 0, .int .u32 0, .int .u32 0, .int .u32 0, .int .u32 0, .int .u32 0, .int .u32 0, .int .u32 0, .int .u32 0, .int .u32 0, .int .u32 0, .int .u32 0, .int .u32 0, .int .u32 0, .int .u32 0, .int .u32 0, .int .u32 0, .int .u32 0, .int .u32 0, .int .u32 0, .int .u32 0, .int .u32 0, .int .u32 0, .int .u32 0, .int .u32 0] := by kernel_rfl
end Sh1
open Sh1

theorem Sha.rotS_bd (k : Int) : 0 ≤ Go.bits .and .u64 (IntKind.u64.wrap k) 31 ∧ 0 ≤ IntKind.u64.wrap (32 - Go.bits .and .u64 (IntKind.u64.wrap k) 31) := by
  have hw : 0 ≤ IntKind.u64.wrap k ∧ IntKind.u64.wrap k < 18446744073709551616 := by rw [IntKind.wrap_u64]; omega
  refine ⟨?_, by rw [IntKind.wrap_u64]; omega⟩
  rw [u64_and _ _ hw.1 hw.2 (by omega) (by omega)]
  omega

set_option maxRecDepth 100000 in
theorem Rotate_c {W0 : World} {H : Hp} {x k : Int} : CxD Try.prog W0 75 #[.int .u32 x, .int .i64 k] H (.int .u32 (Sha.rot x k)) H := by
  have hs := Sha.rotS_bd k
  refine enter Try.func75 rfl Try.ntmps75 rfl ?_
  refine WC.seq ?_
  refine WC.region ?_
  refine WL.p (.none rfl) rfl (OpP.assign rfl) ?_
  refine WL.nil ?_
  refine EQ.sub ((Sub.cons (i := 0) rfl (Sub.cons (i := 1) rfl (Sub.cons (i := 4) rfl (Sub.nil _))))) ?_
  refine EQ.code ?_
  refine WC.seq ?_
  refine WC.region ?_
  refine WL.p (.none rfl) rfl (OpP.move rfl) ?_
  refine WL.p (.none rfl) rfl (OpP.conv rfl Try.underlying3 Try.underlying118) ?_
  refine WL.p (.none rfl) rfl (OpP.bits rfl rfl (by simp)) ?_
  refine WL.p (.none rfl) rfl (OpP.assign rfl) ?_
  refine WL.nil ?_
  refine EQ.sub ((Sub.cons (i := 0) rfl (Sub.cons (i := 4) rfl (Sub.cons (i := 5) rfl (Sub.nil _))))) ?_
  refine EQ.code ?_
  refine WC.seq ?_
  refine WC.region ?_
  refine WL.p (.none rfl) rfl (OpP.move rfl) ?_
  refine WL.p (.none rfl) rfl (OpP.move rfl) ?_
  refine WL.p (.none rfl) rfl (OpP.shl rfl rfl hs.1) ?_
  refine WL.p (.none rfl) rfl (OpP.move rfl) ?_
  refine WL.p (.none rfl) rfl (OpP.move rfl) ?_
  refine WL.p (.none rfl) rfl (OpP.sub rfl rfl) ?_
  refine WL.p (.none rfl) rfl (OpP.shr rfl rfl hs.2) ?_
  refine WL.p (.none rfl) rfl (OpP.bits rfl rfl (by simp)) ?_
  refine WL.p (.none rfl) rfl (OpP.assign rfl) ?_
  refine WL.nil ?_
  refine EQ.sub ((Sub.cons (i := 4) rfl (Sub.nil _))) ?_
  refine EQ.code ?_
  refine WC.ret ?_
  refine EQ.finD (H' := H) (res1 rfl (.tmp rfl)) (by intro _ h; first | exact h | exact h.drop | exact h.drop.drop | exact h.drop.drop.drop | exact h.drop.drop.drop.drop | exact h.drop.drop.drop.drop.drop | exact h.drop.drop.drop.drop.drop.drop | exact h.drop_mid) ?_
  exact ⟨rfl, rfl⟩

set_option maxRecDepth 100000 in
theorem turn_c {W0 : World} {H : Hp} {x k : Int} (hk : -9223372036854775807 ≤ k ∧ k ≤ 9223372036854775807) : CxD Try.prog W0 71 #[.int .u32 x, .int .i64 k] H (.int .u32 (Sha.turn x k)) H := by
  refine enter Try.func71 rfl Try.ntmps71 rfl ?_
  refine WC.seq ?_
  refine WC.region ?_
  refine WL.p (.none rfl) rfl (OpP.assign rfl) ?_
  refine WL.nil ?_
  refine EQ.sub ((Sub.cons (i := 0) rfl (Sub.cons (i := 1) rfl (Sub.cons (i := 4) rfl (Sub.nil _))))) ?_
  refine EQ.code ?_
  refine WC.seq ?_
  refine WC.region ?_
  refine WL.p (.none rfl) rfl (OpP.move rfl) ?_
  refine WL.p (.none rfl) rfl (OpP.move rfl) ?_
  refine WL.p (.none rfl) rfl (OpP.neg rfl) ?_
  refine WL.callD rfl (.none rfl) rfl k_75 rfl (Rotate_c) ?_
  refine WL.p (.none rfl) rfl (OpP.assign rfl) ?_
  refine WL.nil ?_
  refine EQ.sub ((Sub.cons (i := 4) rfl (Sub.nil _))) ?_
  refine EQ.code ?_
  refine WC.ret ?_
  refine EQ.finD (H' := H) (res1 rfl (.tmp rfl)) (by intro _ h; first | exact h | exact h.drop | exact h.drop.drop | exact h.drop.drop.drop | exact h.drop.drop.drop.drop | exact h.drop.drop.drop.drop.drop | exact h.drop.drop.drop.drop.drop.drop | exact h.drop_mid) ?_
  exact ⟨by rw [IntWalk.i64_in _ (by omega)]; rfl, rfl⟩

set_option maxRecDepth 100000 in
theorem word_c {W0 : World} {H : Hp} {a : Option Addr} {len c : Nat} {l : List Int} (hlen : len = l.length) (hl : 4 ≤ l.length) (hs : Sl W0 H a (iv .u8 l)) : CxD Try.prog W0 70 #[.slice a len c] H (.int .u32 (Sha.word l)) H := by
  have ha : a ≠ none := fun e => by have := hs.1 e; simp at this; subst this; simp at hl
  have r0 := Sl.get hs 0 (by omega)
  have r1 := Sl.get hs 1 (by omega)
  have r2 := Sl.get hs 2 (by omega)
  have r3 := Sl.get hs 3 (by omega)
  refine enter Try.func70 rfl Try.ntmps70 rfl ?_
  refine WC.seq ?_
  refine WC.region ?_
  refine WL.p (.none rfl) rfl (OpP.assign rfl) ?_
  refine WL.nil ?_
  refine EQ.sub ((Sub.cons (i := 0) rfl (Sub.cons (i := 2) rfl (Sub.nil _)))) ?_
  refine EQ.code ?_
  refine WC.seq ?_
  refine WC.draw (by kernel_rfl) (by kernel_rfl) ?_
  refine WQ.p (.none rfl) rfl (OpP.move rfl) ?_
  refine WQ.p (.none rfl) rfl (OpP.indexSl rfl rfl el_23 (by omega) (by omega) (by assumption)) ?_
  first | (refine WQ.p (.none rfl) rfl (OpP.load rfl ty_5 (Rd.own (by repeat (first | assumption | exact List.mem_cons_self | exact List.mem_of_getElem? (by assumption) | exact set_mem (by first | assumption | exact set_hit (by assumption)) | apply List.mem_cons_of_mem | apply List.mem_append_right)) (by rfl))) ?_) | (refine WQ.p (.none rfl) rfl (OpP.load rfl ty_5 (Rd.arr (by repeat (first | assumption | exact List.mem_cons_self | exact List.mem_of_getElem? (by assumption) | exact set_mem (by first | assumption | exact set_hit (by assumption)) | apply List.mem_cons_of_mem | apply List.mem_append_right)) (by first | omega | (simp only [List.length_append, List.length_take, List.length_drop, List.length_replicate]; omega)))) ?_) | (refine WQ.p (.none rfl) rfl (OpP.load rfl ty_5 (by assumption)) ?_) | (refine WQ.p (.none rfl) rfl (OpP.load rfl ty_5 (Rd.ro (by assumption))) ?_)
  refine WQ.p (.none rfl) rfl (OpP.conv rfl Try.underlying5 Try.underlying107) ?_
  refine WQ.p (.none rfl) rfl (OpP.shl rfl rfl (by omega)) ?_
  refine WQ.p (.none rfl) rfl (OpP.move rfl) ?_
  refine WQ.p (.none rfl) rfl (OpP.indexSl rfl rfl el_23 (by omega) (by omega) (by assumption)) ?_
  first | (refine WQ.p (.none rfl) rfl (OpP.load rfl ty_5 (Rd.own (by repeat (first | assumption | exact List.mem_cons_self | exact List.mem_of_getElem? (by assumption) | exact set_mem (by first | assumption | exact set_hit (by assumption)) | apply List.mem_cons_of_mem | apply List.mem_append_right)) (by rfl))) ?_) | (refine WQ.p (.none rfl) rfl (OpP.load rfl ty_5 (Rd.arr (by repeat (first | assumption | exact List.mem_cons_self | exact List.mem_of_getElem? (by assumption) | exact set_mem (by first | assumption | exact set_hit (by assumption)) | apply List.mem_cons_of_mem | apply List.mem_append_right)) (by first | omega | (simp only [List.length_append, List.length_take, List.length_drop, List.length_replicate]; omega)))) ?_) | (refine WQ.p (.none rfl) rfl (OpP.load rfl ty_5 (by assumption)) ?_) | (refine WQ.p (.none rfl) rfl (OpP.load rfl ty_5 (Rd.ro (by assumption))) ?_)
  refine WQ.p (.none rfl) rfl (OpP.conv rfl Try.underlying5 Try.underlying107) ?_
  refine WQ.p (.none rfl) rfl (OpP.shl rfl rfl (by omega)) ?_
  refine WQ.p (.none rfl) rfl (OpP.bits rfl rfl (by simp)) ?_
  refine WQ.p (.none rfl) rfl (OpP.move rfl) ?_
  refine WQ.p (.none rfl) rfl (OpP.indexSl rfl rfl el_23 (by omega) (by omega) (by assumption)) ?_
  first | (refine WQ.p (.none rfl) rfl (OpP.load rfl ty_5 (Rd.own (by repeat (first | assumption | exact List.mem_cons_self | exact List.mem_of_getElem? (by assumption) | exact set_mem (by first | assumption | exact set_hit (by assumption)) | apply List.mem_cons_of_mem | apply List.mem_append_right)) (by rfl))) ?_) | (refine WQ.p (.none rfl) rfl (OpP.load rfl ty_5 (Rd.arr (by repeat (first | assumption | exact List.mem_cons_self | exact List.mem_of_getElem? (by assumption) | exact set_mem (by first | assumption | exact set_hit (by assumption)) | apply List.mem_cons_of_mem | apply List.mem_append_right)) (by first | omega | (simp only [List.length_append, List.length_take, List.length_drop, List.length_replicate]; omega)))) ?_) | (refine WQ.p (.none rfl) rfl (OpP.load rfl ty_5 (by assumption)) ?_) | (refine WQ.p (.none rfl) rfl (OpP.load rfl ty_5 (Rd.ro (by assumption))) ?_)
  refine WQ.p (.none rfl) rfl (OpP.conv rfl Try.underlying5 Try.underlying107) ?_
  refine WQ.p (.none rfl) rfl (OpP.shl rfl rfl (by omega)) ?_
  refine WQ.p (.none rfl) rfl (OpP.bits rfl rfl (by simp)) ?_
  refine WQ.p (.none rfl) rfl (OpP.move rfl) ?_
  refine WQ.p (.none rfl) rfl (OpP.indexSl rfl rfl el_23 (by omega) (by omega) (by assumption)) ?_
  first | (refine WQ.p (.none rfl) rfl (OpP.load rfl ty_5 (Rd.own (by repeat (first | assumption | exact List.mem_cons_self | exact List.mem_of_getElem? (by assumption) | exact set_mem (by first | assumption | exact set_hit (by assumption)) | apply List.mem_cons_of_mem | apply List.mem_append_right)) (by rfl))) ?_) | (refine WQ.p (.none rfl) rfl (OpP.load rfl ty_5 (Rd.arr (by repeat (first | assumption | exact List.mem_cons_self | exact List.mem_of_getElem? (by assumption) | exact set_mem (by first | assumption | exact set_hit (by assumption)) | apply List.mem_cons_of_mem | apply List.mem_append_right)) (by first | omega | (simp only [List.length_append, List.length_take, List.length_drop, List.length_replicate]; omega)))) ?_) | (refine WQ.p (.none rfl) rfl (OpP.load rfl ty_5 (by assumption)) ?_) | (refine WQ.p (.none rfl) rfl (OpP.load rfl ty_5 (Rd.ro (by assumption))) ?_)
  refine WQ.p (.none rfl) rfl (OpP.conv rfl Try.underlying5 Try.underlying107) ?_
  refine WQ.p (.none rfl) rfl (OpP.bits rfl rfl (by simp)) ?_
  refine WQ.p (.none rfl) rfl (OpP.assign rfl) ?_
  refine WQ.done ?_
  refine EQ.sub ((Sub.cons (i := 2) rfl (Sub.nil _))) ?_
  refine EQ.code ?_
  refine WC.ret ?_
  refine EQ.finD (H' := H) (res1 rfl (.tmp rfl)) (by intro _ h; first | exact h | exact h.drop | exact h.drop.drop | exact h.drop.drop.drop | exact h.drop.drop.drop.drop | exact h.drop.drop.drop.drop.drop | exact h.drop.drop.drop.drop.drop.drop | exact h.drop_mid) ?_
  exact ⟨rfl, rfl⟩

set_option maxRecDepth 100000 in
theorem begin_c {W0 : World} {H : Hp} : CxD Try.prog W0 66 #[] H (.agg ⟨iv .u32 Sha.hL⟩) H := by
  refine enter Try.func66 rfl Try.ntmps66 rfl ?_
  refine WC.seq ?_
  refine WC.region ?_
  refine WL.allocX z_113 rfl (fun b0 => ?_)
  refine WL.nil ?_
  refine EQ.sub ((Sub.cons (i := 0) rfl (Sub.nil _))) ?_
  refine EQ.code ?_
  refine WC.seq ?_
  refine WC.region ?_
  refine WL.p (.none rfl) rfl (OpP.buildA blda_113 (kI rfl (kI rfl (kI rfl (kI rfl (kI rfl (kI rfl (kI rfl (kI rfl kI0)))))))) rfl rfl (by rfl)) ?_
  first | (refine WL.s (.none rfl) rfl (OpS.storeAll rfl rfl ty_113 (by repeat (first | assumption | exact at0 | exact set_hit (by first | assumption | exact set_hit (by assumption)) | apply ats)) (by rfl) (by rfl) (by rfl) (by rfl)) ?_) | (refine WL.s (.none rfl) rfl (OpS.store rfl rfl ty_113 (by repeat (first | assumption | exact at0 | exact set_hit (by first | assumption | exact set_hit (by assumption)) | apply ats)) (by rfl) (by rfl) (by rfl) (by rfl)) ?_)
  refine WL.nil ?_
  refine EQ.sub ((Sub.cons (i := 0) rfl (Sub.nil _))) ?_
  refine EQ.code ?_
  refine WC.ret ?_
  refine EQ.finD (H' := H) (res1 rfl (.cellB rfl ty_113 (by repeat (first | assumption | exact List.mem_cons_self | exact List.mem_of_getElem? (by assumption) | exact set_mem (by first | assumption | exact set_hit (by assumption)) | apply List.mem_cons_of_mem | apply List.mem_append_right)) (by rfl))) (by intro _ h; first | exact h | exact h.drop | exact h.drop.drop | exact h.drop.drop.drop | exact h.drop.drop.drop.drop | exact h.drop.drop.drop.drop.drop | exact h.drop.drop.drop.drop.drop.drop | exact h.drop_mid) ?_
  exact ⟨by kernel_rfl, rfl⟩

set_option maxRecDepth 100000 in
theorem constants_c {W0 : World} {H : Hp} : CxD Try.prog W0 69 #[] H (.agg ⟨iv .u32 Sha.kL⟩) H := by
  refine enter Try.func69 rfl Try.ntmps69 rfl ?_
  refine WC.seq ?_
  refine WC.region ?_
  refine WL.allocX z_138 rfl (fun b0 => ?_)
  refine WL.nil ?_
  refine EQ.sub ((Sub.cons (i := 0) rfl (Sub.nil _))) ?_
  refine EQ.code ?_
  refine WC.seq ?_
  refine WC.region ?_
  refine WL.p (.none rfl) rfl (OpP.buildA blda_138 (kI rfl (kI rfl (kI rfl (kI rfl (kI rfl (kI rfl (kI rfl (kI rfl (kI rfl (kI rfl (kI rfl (kI rfl (kI rfl (kI rfl (kI rfl (kI rfl (kI rfl (kI rfl (kI rfl (kI rfl (kI rfl (kI rfl (kI rfl (kI rfl (kI rfl (kI rfl (kI rfl (kI rfl (kI rfl (kI rfl (kI rfl (kI rfl (kI rfl (kI rfl (kI rfl (kI rfl (kI rfl (kI rfl (kI rfl (kI rfl (kI rfl (kI rfl (kI rfl (kI rfl (kI rfl (kI rfl (kI rfl (kI rfl (kI rfl (kI rfl (kI rfl (kI rfl (kI rfl (kI rfl (kI rfl (kI rfl (kI rfl (kI rfl (kI rfl (kI rfl (kI rfl (kI rfl (kI rfl (kI rfl kI0)))))))))))))))))))))))))))))))))))))))))))))))))))))))))))))))) rfl rfl (by rfl)) ?_
  first | (refine WL.s (.none rfl) rfl (OpS.storeAll rfl rfl ty_138 (by repeat (first | assumption | exact at0 | exact set_hit (by first | assumption | exact set_hit (by assumption)) | apply ats)) (by rfl) (by rfl) (by rfl) (by rfl)) ?_) | (refine WL.s (.none rfl) rfl (OpS.store rfl rfl ty_138 (by repeat (first | assumption | exact at0 | exact set_hit (by first | assumption | exact set_hit (by assumption)) | apply ats)) (by rfl) (by rfl) (by rfl) (by rfl)) ?_)
  refine WL.nil ?_
  refine EQ.sub ((Sub.cons (i := 0) rfl (Sub.nil _))) ?_
  refine EQ.code ?_
  refine WC.ret ?_
  refine EQ.finD (H' := H) (res1 rfl (.cellB rfl ty_138 (by repeat (first | assumption | exact List.mem_cons_self | exact List.mem_of_getElem? (by assumption) | exact set_mem (by first | assumption | exact set_hit (by assumption)) | apply List.mem_cons_of_mem | apply List.mem_append_right)) (by rfl))) (by intro _ h; first | exact h | exact h.drop | exact h.drop.drop | exact h.drop.drop.drop | exact h.drop.drop.drop.drop | exact h.drop.drop.drop.drop.drop | exact h.drop.drop.drop.drop.drop.drop | exact h.drop_mid) ?_
  exact ⟨by kernel_rfl, rfl⟩

end Go.Proofs.Ytmeimjpjelmchaa
