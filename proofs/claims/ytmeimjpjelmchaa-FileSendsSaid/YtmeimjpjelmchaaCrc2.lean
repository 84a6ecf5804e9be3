/- Crc2: walks of functions of the program, each over the rules of Sx. No conditions but those in the theorems' heads. -/
import Derived.Test.YtmeimjpjelmchaaCrc
import Derived.Test.YtmeimjpjelmchaaProg
set_option linter.unusedVariables false
set_option linter.unusedSimpArgs false
namespace Go.Proofs.Ytmeimjpjelmchaa
open Go.RowKit Go.Sx
namespace Crc2
theorem bld_136 : bldS Try.prog 136 = some ([(0, 3), (3, 256), (259, 1)], [.int .u32 0, .int .i32 0, .int .u32 0, .int .u32 0, .int .u32 0, .int .u32 0, .int .u32 0, .int .u32 0, .int .u32 0, .int .u32 0, .int .u32 0, .int .u32 0, .int .u32 0, .int .u32 0, .int .u32 0, .int .u32 0, .int .u32 0, .int .u32 0, .int .u32 0, .int .u32 0, .int .u32 0, .int .u32 0, .int .u32 0, .int .u32 0, .int .u32 0, .int .u32 0, .int .u32 0, .int .u32 0, .int .u32 0, .int .u32 0, .int .u32 0, .int .u32 0, .int .u32 0, .int .u32 0, .int .u32 0, .int .u32 0, .int .u32 0, .int .u32 0, .int .u32 0, .int .u32 0, .int .u32 0, .int .u32 0, .int .u32 0, .int .u32 0, .int .u32 0, .int .u32 0, .int .u32 0, .int .u32 0, .int .u32 0, .int .u32 0, .int .u32 0, .int .u32 0, .int .u32 0, .int .u32 0, .int .u32 0, .int .u32 0, .int .u32 0, .int .u32 0, .int .u32 0, .int .u32 0, .int .u32 0, .int .u32 0, .int .u32 0, .int .u32 0, .int .u32 0, .int .u32 0, .int .u32 0, .int .u32 0, .int .u32 0, .int .u32 0, .int .u32 0, .int .u32 0, .int .u32 0, .int .u32 0, .int .u32 0, .int .u32 0, .int .u32 0, .int .u32 0, .int .u32 0, .int .u32 0, .int .u32 0, .int .u32 0, .int .u32 0, .int .u32 0, .int .u32 0, .int .u32 0, .int .u32 0, .int .u32 0, .int .u32 0, .int .u32 0, .int .u32 0, .int .u32 0, .int .u32 0, .int .u32 0, .int .u32 0, .int .u32 0, .int .u32 0, .int .u32 0, .int .u32 0, .int .u32 0, .int .u32 0, .int .u32 0, .int .u32 0, .int .u32 0, .int .u32 0, .int .u32 0, .int .u32 0, .int .u32 0, .int .u32 0, .int .u32 0, .int .u32 0, .int .u32 0, .int .u32 0, .int .u32 0, .int .u32 0, .int .u32 0, .int .u32 0, .int .u32 0, .int .u32 0, .int .u32 0, .int .u32 0, .int .u32 0, .int .u32 0, .int .u32 0, .int .u32 0, .int .u32 0, .int .u32 0, .int .u32 0, .int .u32 0, .int .u32 0, .int .u32 0, .int .u32 0, .int .u32 0, .int .u32 0, .int .u32 0, .int .u32 0, .int .u32 0, .int .u32 0, .int .u32 0, .int .u32 0, .int .u32 0, .int .u32 0, .int .u32 0, .int .u32 0, .int .u32 0, .int .u32 0, .int .u32 0, .int .u32 0, .int .u32 0, .int .u32 0, .int .u32 0, .int .u32 0, .int .u32 0, .int .u32 0, .int .u32 0, .int .u32 0, .int .u32 0, .int .u32 0, .int .u32 0, .int .u32 0, .int .u32 0, .int .u32 0, .int .u32 0, .int .u32 0, .int .u32 0, .int .u32 0, .int .u32 0, .int .u32 0, .int .u32 0, .int .u32 0, .int .u32 0, .int .u32 0, .int .u32 0, .int .u32 0, .int .u32 0, .int .u32 0, .int .u32 0, .int .u32 0, .int .u32 0, .int .u32 0, .int .u32 0, .int .u32 0, .int .u32 0, .int .u32 0, .int .u32 0, .int .u32 0, .int .u32 0, .int .u32 0, .int .u32 0, .int .u32 0, .int .u32 0, .int .u32 0, .int .u32 0, .int .u32 0, .int .u32 0, .int .u32 0, .int .u32 0, .int .u32 0, .int .u32 0, .int .u32 0, .int .u32 0, .int .u32 0, .int .u32 0, .int .u32 0, .int .u32 0, .int .u32 0, .int .u32 0, .int .u32 0, .int .u32 0, .int .u32 0, .int .u32 0, .int .u32 0, .int .u32 0, .int .u32 0, .int .u32 0, .int .u32 0, .int .u32 0, .int .u32 0, .int .u32 0, .int .u32 0, .int .u32 0, .int .u32 0, .int .u32 0, .int .u32 0, .int .u32 0, .int .u32 0, .int .u32 0, .int .u32 0, .int .u32 0, .int .u32 0, .int .u32 0, .int .u32 0, .int .u32 0, .int .u32 0, .int .u32 0, .int .u32 0, .int .u32 0, .int .u32 0, .int .u32 0, .int .u32 0, .int .u32 0, .int .u32 0, .int .u32 0, .int .u32 0, .int .u32 0, .int .u32 0, .int .u32 0, .int .u32 0, .int .u32 0, .int .u32 0, .int .u32 0, .int .u32 0, .int .u32 0, .int .u32 0, .int .u32 0, .int .u32 0, .int .u32 0, .int .u32 0, .int .u32 0, .int .i64 0]) := by kernel_rfl
theorem el_131 : elI Try.prog 131 = some (some 256, 107, false, 1) := by kernel_rfl
theorem el_23 : elI Try.prog 23 = some (none, 5, false, 1) := by kernel_rfl
theorem fld_130_1 : fldI Try.prog 130 1 = some (0, true, 1) := by kernel_rfl
theorem fld_136_0 : fldI Try.prog 136 0 = some (0, true, 3) := by kernel_rfl
theorem fld_136_1 : fldI Try.prog 136 1 = some (3, true, 256) := by kernel_rfl
theorem fld_136_2 : fldI Try.prog 136 2 = some (259, true, 1) := by kernel_rfl
theorem k_68 : Cal Try.prog 68 := ⟨_, _, Try.func68, by kernel_rfl, rfl⟩
theorem k_72 : Cal Try.prog 72 := ⟨_, _, Try.func72, by kernel_rfl, rfl⟩
theorem k_74 : Cal Try.prog 74 := ⟨_, _, Try.func74, by kernel_rfl, rfl⟩
theorem k_76 : Cal Try.prog 76 := ⟨_, _, Try.func76, by kernel_rfl, rfl⟩
theorem k_77 : Cal Try.prog 77 := ⟨_, _, Try.func77, by kernel_rfl, rfl⟩
theorem ty_107 : tyI Try.prog 107 = some (false, 1) := by kernel_rfl
theorem ty_5 : tyI Try.prog 5 = some (false, 1) := by kernel_rfl
end Crc2
open Crc2

theorem sm_get {d m s r : Int} {tb : List Int} (k : Nat) (h : k < tb.length) : (smL d m s tb r)[3 + k]? = some (.int .u32 (tb.getD k 0)) := by
  unfold smL
  rw [show 3 + k = k + 3 by omega]
  simp only [List.getElem?_cons_succ]
  rw [List.getElem?_append_left (by simpa using h)]
  simp [List.getD_eq_getElem?_getD, h]
theorem sm_spl {d m s r : Int} {tb : List Int} (k : Nat) (h : k < tb.length) (v : Int) : spl (smL d m s tb r) (3 + k) [.int .u32 v] = smL d m s (tb.set k v) r := by
  show (smL d m s tb r).set (3 + k) _ = _
  unfold smL
  rw [show 3 + k = k + 3 by omega]
  simp only [List.set_cons_succ]
  rw [List.set_append_left _ _ (by simpa using h)]
  simp [iv, List.map_set]
theorem sm_len {d m s r : Int} {tb : List Int} : (smL d m s tb r).length = tb.length + 4 := by simp [smL]
def tabK (tb : List Int) (k : Nat) : List Int := tabL.take k ++ tb.drop k
theorem tabK_len {tb : List Int} (h : tb.length = 256) (k : Nat) (hk : k ≤ 256) : (tabK tb k).length = 256 := by simp [tabK, tabL_length, h]; omega
theorem tabK_succ {tb : List Int} (h : tb.length = 256) (k : Nat) (hk : k < 256) : (tabK tb k).set k ((crcT k : Nat) : Int) = tabK tb (k + 1) := by
  have := upd_step tabL tb 0 (by rw [tabL_length, h]) k (by rw [tabL_length]; exact hk)
  rw [tabL_get k hk] at this
  exact this
theorem tabK_end {tb : List Int} (h : tb.length = 256) : tabK tb 256 = tabL := by
  simp [tabK, h, List.take_of_length_le, tabL_length, List.drop_of_length_le]

set_option maxRecDepth 100000 in
theorem fill_c {W0 : World} {H : Hp} {g i : Nat} {d m s r : Int} {tb : List Int} (hi : H[i]? = some (g, smO d m s tb r)) (htb : tb.length = 256) : CxD Try.prog W0 73 #[.pointer (some ⟨g, 0, none⟩)] H (.tuple #[]) (H.set i (g, smO d m s tabL r)) := by
  have hH0 : H = H.set i (g, smO d m s (tabK tb 0) r) := by rw [show tabK tb 0 = tb by simp [tabK]]; exact (set_self hi).symm
  refine enter Try.func73 rfl Try.ntmps73 rfl ?_
  refine WC.seq ?_
  refine WC.region ?_
  refine WL.p (.none rfl) rfl (OpP.move rfl) ?_
  refine WL.nil ?_
  refine EQ.sub ((Sub.cons (i := 0) rfl (Sub.cons (i := 4) rfl (Sub.nil _)))) ?_
  refine EQ.code ?_
  refine WC.block ?_
  refine WC.loop (σ := Nat) (fun k => [(0, .pointer (some ⟨g, 0, none⟩)), (4, .int .i64 (k : Int))]) (fun k => H.set i (g, smO d m s (tabK tb k) r)) (fun k => k ≤ 256) (fun k => 256 - k) 0 (by decide) ((Sub.cons rfl (Sub.cons rfl (Sub.nil _)))) (fun _ h => by rw [← hH0]; exact h) (fun k hinv => ?_)
  have hlk := tabK_len htb k hinv
  have hik : (H.set i (g, smO d m s (tabK tb k) r))[i]? = some (g, smO d m s (tabK tb k) r) := set_hit hi
  refine WC.seq ?_
  refine WC.region ?_
  refine WL.p (.none rfl) rfl (OpP.lss rfl rfl) ?_
  refine WL.nil ?_
  refine EQ.sub ((Sub.cons (i := 0) rfl (Sub.cons (i := 4) rfl (Sub.cons (i := 5) rfl (Sub.nil _))))) ?_
  refine EQ.code ?_
  refine WC.seq ?_
  refine WC.cond rfl (fun hc0 => ?_) (fun hc0 => ?_)
  · -- cond 0 t
    (try simp only [decide_eq_true_eq, decide_eq_false_iff_not, Bool.not_eq_true', Bool.not_eq_false', Bool.or_eq_true, Bool.and_eq_true, Bool.or_eq_false_iff, Bool.and_eq_false_imp, Option.isNone_some, Bool.false_eq_true, false_or, true_and] at hc0)
    refine WC.skip ?_
    refine EQ.code ?_
    refine WC.seq ?_
    refine WC.block ?_
    refine WC.seq ?_
    refine WC.region ?_
    refine WL.p (.none rfl) rfl (OpP.move rfl) ?_
    refine WL.p (.none rfl) rfl (OpP.assign rfl) ?_
    refine WL.nil ?_
    refine EQ.sub ((Sub.cons (i := 0) rfl (Sub.cons (i := 2) rfl (Sub.cons (i := 4) rfl (Sub.nil _))))) ?_
    refine EQ.code ?_
    refine WC.seq ?_
    refine WC.region ?_
    refine WL.p (.none rfl) rfl (OpP.move rfl) ?_
    refine WL.p (.none rfl) rfl (OpP.conv32 rfl Try.underlying3 Try.underlying107 (by omega)) ?_
    refine WL.p (.none rfl) rfl (OpP.assign rfl) ?_
    refine WL.nil ?_
    refine EQ.sub ((Sub.cons (i := 0) rfl (Sub.cons (i := 2) rfl (Sub.cons (i := 3) rfl (Sub.cons (i := 4) rfl (Sub.nil _)))))) ?_
    refine EQ.code ?_
    refine WC.seq ?_
    refine WC.seq ?_
    refine WC.region ?_
    refine WL.p (.none rfl) rfl (OpP.move rfl) ?_
    refine WL.nil ?_
    refine EQ.sub ((Sub.cons (i := 0) rfl (Sub.cons (i := 2) rfl (Sub.cons (i := 3) rfl (Sub.cons (i := 4) rfl (Sub.cons (i := 9) rfl (Sub.nil _))))))) ?_
    refine EQ.code ?_
    refine WC.block ?_
    refine WC.loop (σ := Nat) (fun j => [(0, .pointer (some ⟨g, 0, none⟩)), (2, .int .i64 (k : Int)), (3, .int .u32 ((crcUp k j : Nat) : Int)), (4, .int .i64 (k : Int)), (9, .int .i64 (j : Int))]) (fun j => H.set i (g, smO d m s (tabK tb k) r)) (fun j => j ≤ 8) (fun j => 8 - j) 0 (by decide) ((Sub.cons rfl (Sub.cons rfl (Sub.cons rfl (Sub.cons rfl (Sub.cons rfl (Sub.nil _))))))) (fun _ h => h) (fun j hinv => ?_)
    have hup := crcUp_lt (v := k) (by omega) j
    refine WC.seq ?_
    refine WC.region ?_
    refine WL.p (.none rfl) rfl (OpP.lss rfl rfl) ?_
    refine WL.nil ?_
    refine EQ.sub ((Sub.cons (i := 0) rfl (Sub.cons (i := 2) rfl (Sub.cons (i := 3) rfl (Sub.cons (i := 4) rfl (Sub.cons (i := 9) rfl (Sub.cons (i := 10) rfl (Sub.nil _)))))))) ?_
    refine EQ.code ?_
    refine WC.seq ?_
    refine WC.cond rfl (fun hc1 => ?_) (fun hc1 => ?_)
    · -- cond 1 t
      (try simp only [decide_eq_true_eq, decide_eq_false_iff_not, Bool.not_eq_true', Bool.not_eq_false', Bool.or_eq_true, Bool.and_eq_true, Bool.or_eq_false_iff, Bool.and_eq_false_imp, Option.isNone_some, Bool.false_eq_true, false_or, true_and] at hc1)
      refine WC.skip ?_
      refine EQ.code ?_
      refine WC.seq ?_
      refine WC.block ?_
      refine WC.seq ?_
      refine WC.region ?_
      refine WL.p (.none rfl) rfl (OpP.move rfl) ?_
      refine WL.p (.none rfl) rfl (OpP.and32 (b := 1) rfl rfl (by omega) (by omega)) ?_
      refine WL.p (.none rfl) rfl (OpP.eqlI rfl rfl) ?_
      refine WL.nil ?_
      refine EQ.sub ((Sub.cons (i := 0) rfl (Sub.cons (i := 2) rfl (Sub.cons (i := 3) rfl (Sub.cons (i := 4) rfl (Sub.cons (i := 9) rfl (Sub.cons (i := 13) rfl (Sub.nil _)))))))) ?_
      refine EQ.code ?_
      refine WC.cond rfl (fun hc2 => ?_) (fun hc2 => ?_)
      · -- cond 2 t
        (try simp only [decide_eq_true_eq, decide_eq_false_iff_not, Bool.not_eq_true', Bool.not_eq_false', Bool.or_eq_true, Bool.and_eq_true, Bool.or_eq_false_iff, Bool.and_eq_false_imp, Option.isNone_some, Bool.false_eq_true, false_or, true_and] at hc2)
        refine WC.region ?_
        refine WL.p (.none rfl) rfl (OpP.move rfl) ?_
        refine WL.p (.none rfl) rfl (OpP.shrN (c := 1) rfl rfl (by decide)) ?_
        refine WL.p (.none rfl) rfl (OpP.xor32 (b := 3988292384) rfl rfl (by omega) (by omega)) ?_
        refine WL.p (.none rfl) rfl (OpP.assign rfl) ?_
        refine WL.nil ?_
        refine EQ.sub ((Sub.cons (i := 0) rfl (Sub.cons (i := 2) rfl (Sub.cons (i := 3) rfl (Sub.cons (i := 4) rfl (Sub.cons (i := 9) rfl (Sub.nil _))))))) ?_
        refine EQ.blockN ?_
        refine EQ.code ?_
        refine WC.region ?_
        first | (refine WL.p (.none rfl) rfl (OpP.add64 rfl rfl (by omega)) ?_) | (refine WL.p (.none rfl) rfl (OpP.add rfl rfl) ?_)
        refine WL.p (.none rfl) rfl (OpP.move rfl) ?_
        refine WL.nil ?_
        refine EQ.sub ((Sub.cons (i := 0) rfl (Sub.cons (i := 2) rfl (Sub.cons (i := 3) rfl (Sub.cons (i := 4) rfl (Sub.cons (i := 9) rfl (Sub.nil _))))))) ?_
        refine EQ.again (j + 1) ?_ ?_ ?_ ?_
        · omega
        · omega
        · exact (Sub.cons rfl (Sub.cons rfl (Sub.cons (congrArg some (congrArg (fun n : Nat => Value.int .u32 (n : Int)) (show _ = crcStep (crcUp k j) by unfold crcStep; rw [if_pos (by rw [Nat.and_one_is_mod] at hc2; omega)]))) (Sub.cons rfl (Sub.cons rfl (Sub.nil _))))))
        · intro _ h; first | exact h | exact h.drop | exact h.drop_mid | exact h.drop_mid.drop_mid
      · -- cond 2 f
        (try simp only [decide_eq_true_eq, decide_eq_false_iff_not, Bool.not_eq_true', Bool.not_eq_false', Bool.or_eq_true, Bool.and_eq_true, Bool.or_eq_false_iff, Bool.and_eq_false_imp, Option.isNone_some, Bool.false_eq_true, false_or, true_and] at hc2)
        refine WC.region ?_
        refine WL.p (.none rfl) rfl (OpP.move rfl) ?_
        refine WL.p (.none rfl) rfl (OpP.shrN (c := 1) rfl rfl (by decide)) ?_
        refine WL.p (.none rfl) rfl (OpP.assign rfl) ?_
        refine WL.nil ?_
        refine EQ.sub ((Sub.cons (i := 0) rfl (Sub.cons (i := 2) rfl (Sub.cons (i := 3) rfl (Sub.cons (i := 4) rfl (Sub.cons (i := 9) rfl (Sub.nil _))))))) ?_
        refine EQ.blockN ?_
        refine EQ.code ?_
        refine WC.region ?_
        first | (refine WL.p (.none rfl) rfl (OpP.add64 rfl rfl (by omega)) ?_) | (refine WL.p (.none rfl) rfl (OpP.add rfl rfl) ?_)
        refine WL.p (.none rfl) rfl (OpP.move rfl) ?_
        refine WL.nil ?_
        refine EQ.sub ((Sub.cons (i := 0) rfl (Sub.cons (i := 2) rfl (Sub.cons (i := 3) rfl (Sub.cons (i := 4) rfl (Sub.cons (i := 9) rfl (Sub.nil _))))))) ?_
        refine EQ.again (j + 1) ?_ ?_ ?_ ?_
        · omega
        · omega
        · exact (Sub.cons rfl (Sub.cons rfl (Sub.cons (congrArg some (congrArg (fun n : Nat => Value.int .u32 (n : Int)) (show _ = crcStep (crcUp k j) by unfold crcStep; rw [if_neg (by rw [Nat.and_one_is_mod] at hc2; omega)]))) (Sub.cons rfl (Sub.cons rfl (Sub.nil _))))))
        · intro _ h; first | exact h | exact h.drop | exact h.drop_mid | exact h.drop_mid.drop_mid
    · -- cond 1 f
      (try simp only [decide_eq_true_eq, decide_eq_false_iff_not, Bool.not_eq_true', Bool.not_eq_false', Bool.or_eq_true, Bool.and_eq_true, Bool.or_eq_false_iff, Bool.and_eq_false_imp, Option.isNone_some, Bool.false_eq_true, false_or, true_and] at hc1)
      refine WC.exit ?_
      refine EQ.thenE ?_
      refine EQ.thenE ?_
      refine EQ.blockHit ?_
      refine EQ.code ?_
      refine WC.region ?_
      refine WL.p (.none rfl) rfl (OpP.move rfl) ?_
      refine WL.p (.none rfl) rfl (OpP.move rfl) ?_
      refine WL.p (.none rfl) rfl (OpP.move rfl) ?_
      refine WL.p (.none rfl) rfl (OpP.nilCheck rfl) ?_
      refine WL.p (.none rfl) rfl (OpP.fieldAddr rfl fld_136_1) ?_
      refine WL.p (.none rfl) rfl (OpP.indexA rfl rfl el_131 (by omega) (by omega)) ?_
      refine WL.s (.none rfl) rfl (OpS.store rfl rfl ty_107 hik (by rfl) (by rfl) (by rfl) (by refine Nat.ble_eq_true_of_le ?_; rw [sm_len]; omega)) ?_
      rw [show (0 + 3 + ((k : Int)).toNat * 1) = 3 + k by omega, sm_spl k (by omega), show j = 8 by omega, show crcUp k 8 = crcT k from rfl, tabK_succ htb k (by omega)]
      refine WL.nil ?_
      refine EQ.sub ((Sub.cons (i := 0) rfl (Sub.cons (i := 4) rfl (Sub.nil _)))) ?_
      refine EQ.blockN ?_
      refine EQ.code ?_
      refine WC.region ?_
      first | (refine WL.p (.none rfl) rfl (OpP.add64 rfl rfl (by omega)) ?_) | (refine WL.p (.none rfl) rfl (OpP.add rfl rfl) ?_)
      refine WL.p (.none rfl) rfl (OpP.move rfl) ?_
      refine WL.nil ?_
      refine EQ.sub ((Sub.cons (i := 0) rfl (Sub.cons (i := 4) rfl (Sub.nil _)))) ?_
      refine EQ.again (k + 1) ?_ ?_ ?_ ?_
      · omega
      · omega
      · exact ((Sub.cons rfl (Sub.cons rfl (Sub.nil _))))
      · intro _ h; simp only [List.set_set] at h; exact h
  · -- cond 0 f
    (try simp only [decide_eq_true_eq, decide_eq_false_iff_not, Bool.not_eq_true', Bool.not_eq_false', Bool.or_eq_true, Bool.and_eq_true, Bool.or_eq_false_iff, Bool.and_eq_false_imp, Option.isNone_some, Bool.false_eq_true, false_or, true_and] at hc0)
    refine WC.exit ?_
    refine EQ.thenE ?_
    refine EQ.thenE ?_
    refine EQ.blockHit ?_
    refine EQ.finDN (H' := H.set i (g, smO d m s tabL r)) (res0 rfl) (by intro _ h; rw [show k = 256 by omega, tabK_end htb] at h; exact h) ?_
    exact ⟨rfl, rfl⟩

set_option maxRecDepth 100000 in
theorem doSlow_c {W0 : World} {H : Hp} {g i : Nat} {s r : Int} {tb : List Int} (hi : H[i]? = some (g, smO 0 0 s tb r)) (htb : tb.length = 256) :
    CxD Try.prog W0 77 #[.pointer (some ⟨g, 0, none⟩), .func (.func 73) #[.pointer (some ⟨g, 0, none⟩)] #[]] H (.tuple #[]) (H.set i (g, smO 1 0 s tabL r)) := by
  have hL := Lock_c (W0 := W0) hi rfl
  have hi1 : (H.set i (g, smO 0 1 s tb r))[i]? = some (g, smO 0 1 s tb r) := set_hit hi
  have hA := aLoad_c (W0 := W0) hi1
  have hF := fill_c (W0 := W0) hi1 htb
  rw [List.set_set] at hF
  have hi2 : (H.set i (g, smO 0 1 s tabL r))[i]? = some (g, smO 0 1 s tabL r) := set_hit hi
  have hSt := aStore_d (W0 := W0) hi2
  rw [List.set_set] at hSt
  have hi3 : (H.set i (g, smO 1 1 s tabL r))[i]? = some (g, smO 1 1 s tabL r) := set_hit hi
  have hU := Unlock_d (W0 := W0) hi3 rfl
  rw [List.set_set] at hU
  refine enterL Try.func77 rfl Try.ntmps77 rfl ?_
  refine WCD.seq ?_
  refine WCD.region ?_
  refine WLD.p rfl rfl (OpP.move rfl) ?_
  refine WLD.p rfl rfl (OpP.nilCheck rfl) ?_
  refine WLD.p rfl rfl (OpP.fieldAddr rfl (off := 1) (g := true) (k := 2) (by kernel_rfl)) ?_
  refine WLD.call rfl rfl rfl (by exact ⟨_, _, Try.func80, by kernel_rfl, rfl⟩) rfl hL ?_
  refine WLD.nil (fun a w hF1 hS1 => ?_)
  refine (show WCD Try.prog W0 _ _ _ _ _ _ from ?_) a w hF1 hS1
  refine WCD.seq ?_
  refine WCD.region ?_
  refine WLD.p rfl rfl (OpP.move rfl) ?_
  refine WLD.p rfl rfl (OpP.nilCheck rfl) ?_
  refine WLD.p rfl rfl (OpP.fieldAddr rfl (off := 1) (g := true) (k := 2) (by kernel_rfl)) ?_
  refine WLD.defer rfl rfl rfl rfl ?_
  refine WLD.nil (fun a w hF1 hS1 => ?_)
  refine (show WCD Try.prog W0 _ _ _ _ _ _ from ?_) a w hF1 hS1
  refine WCD.seq ?_
  refine WCD.region ?_
  refine WLD.p rfl rfl (OpP.move rfl) ?_
  refine WLD.p rfl rfl (OpP.nilCheck rfl) ?_
  refine WLD.p rfl rfl (OpP.fieldAddr rfl (off := 0) (g := true) (k := 1) (by kernel_rfl)) ?_
  refine WLD.call rfl rfl rfl (by exact ⟨_, _, Try.func76, by kernel_rfl, rfl⟩) rfl hA ?_
  refine WLD.p rfl rfl (OpP.not rfl) ?_
  refine WLD.nil (fun a w hF1 hS1 => ?_)
  refine (show WCD Try.prog W0 _ _ _ _ _ _ from ?_) a w hF1 hS1
  refine WCD.condT rfl ?_
  refine WCD.seq ?_
  refine WCD.region ?_
  refine WLD.p rfl rfl (OpP.move rfl) ?_
  refine WLD.p rfl rfl (OpP.nilCheck rfl) ?_
  refine WLD.p rfl rfl (OpP.fieldAddr rfl (off := 0) (g := true) (k := 1) (by kernel_rfl)) ?_
  refine WLD.defer rfl rfl rfl rfl ?_
  refine WLD.nil (fun a w hF1 hS1 => ?_)
  refine (show WCD Try.prog W0 _ _ _ _ _ _ from ?_) a w hF1 hS1
  refine WCD.region ?_
  refine WLD.p rfl rfl (OpP.move rfl) ?_
  refine WLD.callV rfl rfl rfl rfl (by exact ⟨_, _, Try.func73, by kernel_rfl, rfl⟩) rfl rfl hF ?_
  refine WLD.nil (fun a w hF1 hS1 => ?_)
  show Leaves _ _ _ _ a.defers .returning w
  rw [hF1.defers]
  refine leaves_one (by exact ⟨_, _, Try.func82, by kernel_rfl, rfl⟩) hSt hS1 (fun w2 hS2 => ?_)
  refine leaves_one (by exact ⟨_, _, Try.func81, by kernel_rfl, rfl⟩) hU hS2 (fun w3 hS3 => ?_)
  exact ⟨_, results_none rfl _ _ _, _, _, rfl, ⟨rfl, rfl⟩, hS3⟩

set_option maxRecDepth 100000 in
theorem Do_c {W0 : World} {H : Hp} {g i : Nat} {s r : Int} {tb : List Int} (hi : H[i]? = some (g, smO 0 0 s tb r)) (htb : tb.length = 256) : CxD Try.prog W0 72 #[.pointer (some ⟨g, 0, none⟩), .func (.func 73) #[.pointer (some ⟨g, 0, none⟩)] #[]] H (.tuple #[]) (H.set i (g, smO 1 0 s tabL r)) := by
  refine enter Try.func72 rfl Try.ntmps72 rfl ?_
  refine WC.seq ?_
  refine WC.region ?_
  refine WL.p (.none rfl) rfl (OpP.move rfl) ?_
  refine WL.p (.none rfl) rfl (OpP.nilCheck rfl) ?_
  refine WL.p (.none rfl) rfl (OpP.fieldAddr rfl fld_130_1) ?_
  refine WL.callD rfl (.none rfl) rfl k_76 rfl (aLoad_c hi) ?_
  refine WL.p (.none rfl) rfl (OpP.not rfl) ?_
  refine WL.nil ?_
  refine EQ.sub ((Sub.cons (i := 0) rfl (Sub.cons (i := 1) rfl (Sub.cons (i := 8) rfl (Sub.nil _))))) ?_
  refine EQ.code ?_
  refine WC.condT rfl ?_
  refine WC.region ?_
  refine WL.p (.none rfl) rfl (OpP.move rfl) ?_
  refine WL.p (.none rfl) rfl (OpP.move rfl) ?_
  refine WL.callD rfl (.none rfl) rfl k_77 rfl (doSlow_c hi htb) ?_
  refine WL.nil ?_
  refine EQ.sub ((Sub.nil _)) ?_
  refine EQ.finN (res0 rfl) ?_
  exact ⟨rfl, rfl⟩

set_option maxRecDepth 100000 in
theorem More_c {W0 : World} {H : Hp} {g i : Nat} {s : Int} {tb : List Int} (hi : H[i]? = some (g, smO 0 0 s tb 0)) (htb : tb.length = 256) {a : Option Addr} {m c : Nat} {l : List Int} (hl : l.length = m) (hm : m ≤ 9223372036854775806) (hb : IsB l) (hsl : ∀ o, Sl W0 (H.set i (g, o)) a (iv .u8 l)) :
    CxD Try.prog W0 68 #[.pointer (some ⟨g, 0, none⟩), .int .u32 0, .slice a m c] H (.int .u32 ((crcOf l : Nat) : Int)) (H.set i (g, smO 1 0 s tabL 1)) := by
  refine enter Try.func68 rfl Try.ntmps68 rfl ?_
  refine WC.seq ?_
  refine WC.region ?_
  refine WL.p (.none rfl) rfl (OpP.assign rfl) ?_
  refine WL.nil ?_
  refine EQ.sub ((Sub.cons (i := 0) rfl (Sub.cons (i := 1) rfl (Sub.cons (i := 2) rfl (Sub.cons (i := 6) rfl (Sub.nil _)))))) ?_
  refine EQ.code ?_
  refine WC.seq ?_
  refine WC.seq ?_
  refine WC.region ?_
  refine WL.p (.none rfl) rfl (OpP.move rfl) ?_
  refine WL.p (.none rfl) rfl (OpP.eqlNil rfl rfl Try.underlying119) ?_
  refine WL.nil ?_
  refine EQ.sub ((Sub.cons (i := 0) rfl (Sub.cons (i := 1) rfl (Sub.cons (i := 2) rfl (Sub.cons (i := 6) rfl (Sub.cons (i := 11) rfl (Sub.nil _))))))) ?_
  refine EQ.code ?_
  refine WC.condF rfl ?_
  refine WC.skip ?_
  refine EQ.code ?_
  refine WC.seq ?_
  refine WC.region ?_
  refine WL.p (.none rfl) rfl (OpP.move rfl) ?_
  refine WL.p (.none rfl) rfl (OpP.nilCheck rfl) ?_
  refine WL.p (.none rfl) rfl (OpP.fieldAddr rfl fld_136_0) ?_
  refine WL.p (.none rfl) rfl (OpP.move rfl) ?_
  refine WL.p (.none rfl) rfl (OpP.makeFunc rfl) ?_
  refine WL.callD rfl (.none rfl) rfl k_72 rfl (Do_c hi htb) ?_
  refine WL.nil ?_
  refine EQ.sub ((Sub.cons (i := 0) rfl (Sub.cons (i := 1) rfl (Sub.cons (i := 2) rfl (Sub.cons (i := 6) rfl (Sub.nil _)))))) ?_
  refine EQ.code ?_
  refine WC.seq ?_
  refine WC.region ?_
  refine WL.p (.none rfl) rfl (OpP.move rfl) ?_
  refine WL.p (.none rfl) rfl (OpP.nilCheck rfl) ?_
  refine WL.p (.none rfl) rfl (OpP.fieldAddr rfl fld_136_2) ?_
  have hi1 : (H.set i (g, smO 1 0 s tabL 0))[i]? = some (g, smO 1 0 s tabL 0) := set_hit hi
  refine WL.callD rfl (.none rfl) rfl k_74 rfl (aAdd_c hi1 tabL_length rfl) ?_
  rw [List.set_set]
  refine WL.nil ?_
  refine EQ.sub ((Sub.cons (i := 0) rfl (Sub.cons (i := 1) rfl (Sub.cons (i := 2) rfl (Sub.cons (i := 6) rfl (Sub.nil _)))))) ?_
  refine EQ.code ?_
  refine WC.seq ?_
  refine WC.region ?_
  refine WL.p (.none rfl) rfl (OpP.move rfl) ?_
  refine WL.p (.none rfl) rfl (OpP.cpl32 (a := 0) rfl (by decide)) ?_
  refine WL.p (.none rfl) rfl (OpP.assign rfl) ?_
  refine WL.nil ?_
  refine EQ.sub ((Sub.cons (i := 0) rfl (Sub.cons (i := 2) rfl (Sub.cons (i := 6) rfl (Sub.cons (i := 7) rfl (Sub.nil _)))))) ?_
  refine EQ.code ?_
  refine WC.seq ?_
  refine WC.seq ?_
  refine WC.region ?_
  refine WL.p (.none rfl) rfl (OpP.move rfl) ?_
  refine WL.p (.none rfl) rfl (OpP.lenSl rfl Try.underlying23) ?_
  refine WL.p (.none rfl) rfl (OpP.move rfl) ?_
  refine WL.nil ?_
  refine EQ.sub ((Sub.cons (i := 0) rfl (Sub.cons (i := 6) rfl (Sub.cons (i := 7) rfl (Sub.cons (i := 26) rfl (Sub.cons (i := 27) rfl (Sub.cons (i := 28) rfl (Sub.nil _)))))))) ?_
  refine EQ.code ?_
  refine WC.block ?_
  refine WC.loop (σ := Nat) (fun k => [(0, .pointer (some ⟨g, 0, none⟩)), (7, .int .u32 ((crcL 4294967295 (l.take k) : Nat) : Int)), (26, .slice a m c), (27, .int .i64 (m : Int)), (28, .int .i64 (k : Int))]) (fun k => H.set i (g, smO 1 0 s tabL 1)) (fun k => k ≤ m) (fun k => m - k) 0 (Nat.zero_le _) ((Sub.cons rfl (Sub.cons rfl (Sub.cons rfl (Sub.cons rfl (Sub.cons rfl (Sub.nil _))))))) (fun _ h => h) (fun k hinv => ?_)
  have hi2 : (H.set i (g, smO 1 0 s tabL 1))[i]? = some (g, smO 1 0 s tabL 1) := set_hit hi
  have hvl := crcL_lt (hb.take k) (v := 4294967295) (by decide)
  refine WC.seq ?_
  refine WC.region ?_
  refine WL.p (.none rfl) rfl (OpP.lss rfl rfl) ?_
  refine WL.nil ?_
  refine EQ.sub ((Sub.cons (i := 0) rfl (Sub.cons (i := 7) rfl (Sub.cons (i := 26) rfl (Sub.cons (i := 27) rfl (Sub.cons (i := 28) rfl (Sub.cons (i := 29) rfl (Sub.nil _)))))))) ?_
  refine EQ.code ?_
  refine WC.seq ?_
  refine WC.cond rfl (fun hc1 => ?_) (fun hc1 => ?_)
  · -- cond 1 t
    (try simp only [decide_eq_true_eq, decide_eq_false_iff_not, Bool.not_eq_true', Bool.not_eq_false', Bool.or_eq_true, Bool.and_eq_true, Bool.or_eq_false_iff, Bool.and_eq_false_imp, Option.isNone_some, Bool.false_eq_true, false_or, true_and] at hc1)
    refine WC.skip ?_
    refine EQ.code ?_
    refine WC.seq ?_
    refine WC.block ?_
    refine WC.seq ?_
    refine WC.region ?_
    have ha : a ≠ none := by intro hz; have := (hsl (g, smO 1 0 s tabL 1).2).1 hz; simp at this; rw [this] at hl; simp at hl; omega
    refine WL.p (.none rfl) rfl (OpP.indexSl rfl rfl el_23 (by omega) (by omega) ha) ?_
    refine WL.p (.none rfl) rfl (OpP.load rfl ty_5 ((hsl (g, smO 1 0 s tabL 1).2).get k (by omega))) ?_
    have hck : 0 ≤ l.getD k 0 ∧ l.getD k 0 < 256 := hb _ (by rw [List.getD_eq_getElem?_getD, List.getElem?_eq_getElem (by omega)]; exact List.getElem_mem _)
    obtain ⟨q, hq⟩ : ∃ q : Nat, l.getD k 0 = (q : Int) := ⟨(l.getD k 0).toNat, by omega⟩
    rw [hq]
    refine WL.p (.none rfl) rfl (OpP.assign rfl) ?_
    refine WL.nil ?_
    refine EQ.sub ((Sub.cons (i := 0) rfl (Sub.cons (i := 7) rfl (Sub.cons (i := 9) rfl (Sub.cons (i := 26) rfl (Sub.cons (i := 27) rfl (Sub.cons (i := 28) rfl (Sub.nil _)))))))) ?_
    refine EQ.code ?_
    refine WC.region ?_
    refine WL.p (.none rfl) rfl (OpP.move rfl) ?_
    refine WL.p (.none rfl) rfl (OpP.shrN (c := 8) rfl rfl (by decide)) ?_
    refine WL.p (.none rfl) rfl (OpP.move rfl) ?_
    refine WL.p (.none rfl) rfl (OpP.move rfl) ?_
    refine WL.p (.none rfl) rfl (OpP.conv8 rfl Try.underlying107 Try.underlying5) ?_
    refine WL.p (.none rfl) rfl (OpP.move rfl) ?_
    refine WL.p (.none rfl) rfl (OpP.xor8 rfl rfl (by omega) (by omega)) ?_
    have hx8 : (crcL 4294967295 (l.take k) % 256) ^^^ q < 2 ^ 8 := Nat.xor_lt_two_pow (by omega) (by omega)
    have htk := tabL_get ((crcL 4294967295 (l.take k) % 256) ^^^ q) (by omega)
    refine WL.p (.none rfl) rfl (OpP.nilCheck rfl) ?_
    refine WL.p (.none rfl) rfl (OpP.fieldAddr rfl fld_136_1) ?_
    refine WL.p (.none rfl) rfl (OpP.indexA rfl rfl el_131 (by omega) (by omega)) ?_
    rw [show (0 + 3 + (((crcL 4294967295 (l.take k) % 256) ^^^ q : Nat) : Int).toNat * 1) = 3 + ((crcL 4294967295 (l.take k) % 256) ^^^ q) by omega]
    refine WL.p (.none rfl) rfl (OpP.load rfl ty_107 (Rd.own (List.mem_of_getElem? hi2) (by rw [sm_get _ (by rw [tabL_length]; omega), htk]))) ?_
    refine WL.p (.none rfl) rfl (OpP.xor32 rfl rfl (by omega) (crcT_lt (by omega))) ?_
    refine WL.p (.none rfl) rfl (OpP.assign rfl) ?_
    refine WL.nil ?_
    refine EQ.sub ((Sub.cons (i := 0) rfl (Sub.cons (i := 7) rfl (Sub.cons (i := 26) rfl (Sub.cons (i := 27) rfl (Sub.cons (i := 28) rfl (Sub.nil _))))))) ?_
    refine EQ.blockN ?_
    refine EQ.code ?_
    refine WC.region ?_
    first | (refine WL.p (.none rfl) rfl (OpP.add64 rfl rfl (by omega)) ?_) | (refine WL.p (.none rfl) rfl (OpP.add rfl rfl) ?_)
    refine WL.p (.none rfl) rfl (OpP.move rfl) ?_
    refine WL.nil ?_
    refine EQ.sub ((Sub.cons (i := 0) rfl (Sub.cons (i := 7) rfl (Sub.cons (i := 26) rfl (Sub.cons (i := 27) rfl (Sub.cons (i := 28) rfl (Sub.nil _))))))) ?_
    refine EQ.again (k + 1) ?_ ?_ ?_ ?_
    · omega
    · omega
    · exact (Sub.cons rfl (Sub.cons (congrArg some (congrArg (fun n : Nat => Value.int .u32 (n : Int)) (show _ = crcL 4294967295 (l.take (k + 1)) by rw [take_snoc l 0 k (by omega), crcL_snoc, hq]; rfl))) (Sub.cons rfl (Sub.cons rfl (Sub.cons rfl (Sub.nil _))))))
    · intro _ h; first | exact h | exact h.drop | exact h.drop_mid | exact h.drop_mid.drop_mid
  · -- cond 1 f
    (try simp only [decide_eq_true_eq, decide_eq_false_iff_not, Bool.not_eq_true', Bool.not_eq_false', Bool.or_eq_true, Bool.and_eq_true, Bool.or_eq_false_iff, Bool.and_eq_false_imp, Option.isNone_some, Bool.false_eq_true, false_or, true_and] at hc1)
    refine WC.exit ?_
    refine EQ.thenE ?_
    refine EQ.thenE ?_
    refine EQ.blockHit ?_
    refine EQ.code ?_
    refine WC.seq ?_
    refine WC.region ?_
    refine WL.p (.none rfl) rfl (OpP.move rfl) ?_
    refine WL.p (.none rfl) rfl (OpP.cpl32 rfl (crcL_lt (hb.take k) (by decide))) ?_
    refine WL.p (.none rfl) rfl (OpP.assign rfl) ?_
    refine WL.nil ?_
    refine EQ.sub ((Sub.cons (i := 6) rfl (Sub.nil _))) ?_
    refine EQ.code ?_
    refine WC.ret ?_
    refine EQ.fin (res1 rfl (.tmp rfl)) ?_
    exact ⟨by rw [show k = m by omega, ← hl, List.take_length]; rfl, rfl⟩

set_option maxRecDepth 100000 in
theorem crcOf_c {W0 : World} {H : Hp} {a : Option Addr} {m c : Nat} {l : List Int} (hl : l.length = m) (hm : m ≤ 9223372036854775806) (hb : IsB l) (hsl : Sl W0 H a (iv .u8 l)) :
    CxD Try.prog W0 63 #[.slice a m c] H (.int .u32 ((crcOf l : Nat) : Int)) H := by
  refine enter Try.func63 rfl Try.ntmps63 rfl ?_
  refine WC.seq ?_
  refine WC.region ?_
  refine WL.p (.none rfl) rfl (OpP.assign rfl) ?_
  refine WL.nil ?_
  refine EQ.sub ((Sub.cons (i := 0) rfl (Sub.cons (i := 2) rfl (Sub.nil _)))) ?_
  refine EQ.code ?_
  refine WC.seq ?_
  refine WC.region ?_
  refine WL.p (.none rfl) rfl (OpP.buildS (l := smL 0 0 0 (List.replicate 256 0) 0) bld_136 kI0 (by kernel_rfl)) ?_
  refine WL.box rfl rfl rfl (fun b5 => ?_)
  refine WL.p (.none rfl) rfl (OpP.assign rfl) ?_
  refine WL.nil ?_
  refine EQ.sub ((Sub.cons (i := 0) rfl (Sub.cons (i := 2) rfl (Sub.cons (i := 3) rfl (Sub.nil _))))) ?_
  refine EQ.code ?_
  refine WC.seq ?_
  refine WC.region ?_
  refine WL.p (.none rfl) rfl (OpP.move rfl) ?_
  refine WL.p (.none rfl) rfl (OpP.move rfl) ?_
  refine WL.callD rfl (.none rfl) rfl k_68 rfl (More_c (i := 0) rfl (by simp) hl hm hb (fun o => hsl.cons)) ?_
  refine WL.p (.none rfl) rfl (OpP.assign rfl) ?_
  refine WL.nil ?_
  refine EQ.sub ((Sub.cons (i := 2) rfl (Sub.nil _))) ?_
  refine EQ.code ?_
  refine WC.ret ?_
  refine EQ.finD (H' := H) (res1 rfl (.tmp rfl)) (by intro _ h; first | exact h | exact h.drop | exact h.drop.drop | exact h.drop.drop.drop | exact h.drop.drop.drop.drop | exact h.drop.drop.drop.drop.drop | exact h.drop.drop.drop.drop.drop.drop | exact h.drop_mid) ?_
  exact ⟨rfl, rfl⟩

end Go.Proofs.Ytmeimjpjelmchaa
