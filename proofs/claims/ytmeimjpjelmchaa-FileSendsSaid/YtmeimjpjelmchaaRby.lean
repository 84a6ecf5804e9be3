/- Rby: walks of functions of the program, each over the rules of Sx. No conditions but those in the theorems' heads. -/
import Derived.Test.YtmeimjpjelmchaaRof
import Derived.Test.YtmeimjpjelmchaaProg
set_option linter.unusedVariables false
set_option linter.unusedSimpArgs false
namespace Go.Proofs.Ytmeimjpjelmchaa
open Go.RowKit Go.Sx
namespace Rby
theorem fld_85_0 : fldI Try.prog 85 0 = some (0, false, 1) := by kernel_rfl
theorem k_36 : Cal Try.prog 36 := ⟨_, _, Try.func36, by kernel_rfl, rfl⟩
theorem sl_23 : slI Try.prog 23 = some (5, 1, 1) := by kernel_rfl
theorem ty_23 : tyI Try.prog 23 = some (false, 1) := by kernel_rfl
end Rby
open Rby

set_option maxRecDepth 100000 in
theorem rBytes_c {W0 : World} {H : Hp} {g j : Nat} {x : Rsn} {i : Int} (hi : H[j]? = some (g, x.obj)) (h0 : 0 ≤ i) (h1 : i < chunks x.cn) (hcc : x.cn ≤ x.cc) (hcc2 : x.cc ≤ 9223372036854775807) : CxD Try.prog W0 14 #[.pointer (some ⟨g, 0, none⟩), .int .i64 i] H
    (.slice (if (x.cc : Int) = 64 * i then x.ca else x.ca.map (·.add ((64 * i).toNat * 1))) (lengthAt x.cn i).toNat (x.cc - (64 * i).toNat)) H := by
  have hla := lengthAt_bd h0 h1
  refine enter Try.func14 rfl Try.ntmps14 rfl ?_
  refine WC.seq ?_
  refine WC.region ?_
  refine WL.p (.none rfl) rfl (OpP.assign rfl) ?_
  refine WL.nil ?_
  refine EQ.sub ((Sub.cons (i := 0) rfl (Sub.cons (i := 1) rfl (Sub.cons (i := 4) rfl (Sub.nil _))))) ?_
  refine EQ.code ?_
  refine WC.seq ?_
  refine WC.mix (by kernel_rfl) ?_
  refine AJ.p (i := 0) rfl (by kernel_rfl) (.none rfl) rfl (OpP.move rfl) ?_
  refine AJ.p (i := 1) rfl (by kernel_rfl) (.none rfl) rfl (OpP.nilCheck rfl) ?_
  refine AJ.p (i := 2) rfl (by kernel_rfl) (.none rfl) rfl (OpP.fieldAddr rfl fld_85_0) ?_
  refine AJ.p (i := 3) rfl (by kernel_rfl) (.none rfl) rfl (OpP.load rfl ty_23 (Rd.own (by repeat (first | assumption | exact List.mem_cons_self | exact List.mem_of_getElem? (by assumption) | exact set_mem (by first | assumption | exact set_hit (by assumption)) | apply List.mem_cons_of_mem | apply List.mem_append_right)) (by rfl))) ?_
  refine AJ.p (i := 4) rfl (by kernel_rfl) (.none rfl) rfl (OpP.move rfl) ?_
  first | (refine AJ.p (i := 5) rfl (by kernel_rfl) (.none rfl) rfl (OpP.mul64 rfl rfl (by omega)) ?_) | (refine AJ.p (i := 5) rfl (by kernel_rfl) (.none rfl) rfl (OpP.mul rfl rfl) ?_)
  refine AJ.p (i := 6) rfl (by kernel_rfl) (.none rfl) rfl (OpP.move rfl) ?_
  first | (refine AJ.p (i := 7) rfl (by kernel_rfl) (.none rfl) rfl (OpP.mul64 rfl rfl (by omega)) ?_) | (refine AJ.p (i := 7) rfl (by kernel_rfl) (.none rfl) rfl (OpP.mul rfl rfl) ?_)
  refine AJ.p (i := 8) rfl (by kernel_rfl) (.none rfl) rfl (OpP.move rfl) ?_
  refine AJ.p (i := 9) rfl (by kernel_rfl) (.none rfl) rfl (OpP.nilCheck rfl) ?_
  refine AJ.p (i := 10) rfl (by kernel_rfl) (.none rfl) rfl (OpP.fieldAddr rfl fld_85_0) ?_
  refine AJ.p (i := 11) rfl (by kernel_rfl) (.none rfl) rfl (OpP.load rfl ty_23 (Rd.own (by repeat (first | assumption | exact List.mem_cons_self | exact List.mem_of_getElem? (by assumption) | exact set_mem (by first | assumption | exact set_hit (by assumption)) | apply List.mem_cons_of_mem | apply List.mem_append_right)) (by rfl))) ?_
  refine AJ.p (i := 12) rfl (by kernel_rfl) (.none rfl) rfl (OpP.lenSl rfl Try.underlying23) ?_
  refine AJ.p (i := 13) rfl (by kernel_rfl) (.none rfl) rfl (OpP.move rfl) ?_
  refine AJ.one 14 rfl (by kernel_rfl) (by intro _ h; first | exact h | exact h.drop | exact h.drop.drop | exact h.sublist (List.sublist_append_right _ _) | exact h.drop.sublist (List.sublist_append_right _ _)) ?_
  refine WL.callD rfl (.none rfl) rfl k_36 rfl (rLength_c) ?_
  refine WL.nil ?_
  refine EQ.an ?_
  first | (refine AJ.p (i := 15) rfl (by kernel_rfl) (.none rfl) rfl (OpP.add64 rfl rfl (by omega)) ?_) | (refine AJ.p (i := 15) rfl (by kernel_rfl) (.none rfl) rfl (OpP.add rfl rfl) ?_)
  refine AJ.p (i := 16) rfl (by kernel_rfl) (.none rfl) rfl (OpP.slice rfl sl_23 (l := _) (⟨_, rfl⟩) (rfl) (⟨_, rfl⟩) (by omega) (by omega) (by omega) (by omega)) ?_
  refine AJ.p (i := 17) rfl (by kernel_rfl) (.none rfl) rfl (OpP.assign rfl) ?_
  refine AJ.done (by kernel_rfl) (by intro _ h; first | exact h | exact h.drop | exact h.drop.drop | exact h.sublist (List.sublist_append_right _ _) | exact h.drop.sublist (List.sublist_append_right _ _)) ?_
  refine EQ.sub ((Sub.cons (i := 4) rfl (Sub.nil _))) ?_
  refine EQ.code ?_
  refine WC.ret ?_
  refine EQ.fin (res1 rfl (.tmp rfl)) ?_
  exact ⟨slice_congr rfl (by omega) (by omega), rfl⟩

end Go.Proofs.Ytmeimjpjelmchaa
