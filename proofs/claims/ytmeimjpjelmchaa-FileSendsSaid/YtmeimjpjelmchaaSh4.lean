/- Sh4: walks of functions of the program, each over the rules of Sx. No conditions but those in the theorems' heads. -/
import Derived.Test.YtmeimjpjelmchaaSh3
import Derived.Test.YtmeimjpjelmchaaProg
set_option linter.unusedVariables false
set_option linter.unusedSimpArgs false
namespace Go.Proofs.Ytmeimjpjelmchaa
open Go.RowKit Go.Sx
namespace Sh4
theorem el_113 : elI Try.prog 113 = some (some 8, 107, false, 1) := by kernel_rfl
theorem el_32 : elI Try.prog 32 = some (some 32, 5, false, 1) := by kernel_rfl
theorem fld_116_0 : fldI Try.prog 116 0 = some (0, true, 8) := by kernel_rfl
theorem fld_116_1 : fldI Try.prog 116 1 = some (8, false, 1) := by kernel_rfl
theorem fld_116_2 : fldI Try.prog 116 2 = some (9, false, 1) := by kernel_rfl
theorem fld_116_3 : fldI Try.prog 116 3 = some (10, false, 1) := by kernel_rfl
theorem k_67 : Cal Try.prog 67 := ⟨_, _, Try.func67, by kernel_rfl, rfl⟩
theorem sl_23 : slI Try.prog 23 = some (5, 1, 1) := by kernel_rfl
theorem ty_113 : tyI Try.prog 113 = some (true, 8) := by kernel_rfl
theorem ty_23 : tyI Try.prog 23 = some (false, 1) := by kernel_rfl
theorem ty_3 : tyI Try.prog 3 = some (false, 1) := by kernel_rfl
theorem ty_32 : tyI Try.prog 32 = some (true, 32) := by kernel_rfl
theorem ty_4 : tyI Try.prog 4 = some (false, 1) := by kernel_rfl
theorem ty_5 : tyI Try.prog 5 = some (false, 1) := by kernel_rfl
theorem z_113 : zI Try.prog 113 = some [.int .u32 0, .int .u32 0, .int .u32 0, .int .u32 0, .int .u32 0, .int .u32 0, .int .u32 0, .int .u32 0] := by kernel_rfl
theorem z_32 : zI Try.prog 32 = some [.int .u8 0, .int .u8 0, .int .u8 0, .int .u8 0, .int .u8 0, .int .u8 0, .int .u8 0, .int .u8 0, .int .u8 0, .int .u8 0, .int .u8 0, .int .u8 0, .int .u8 0, .int .u8 0, .int .u8 0, .int .u8 0, .int .u8 0, .int .u8 0, .int .u8 0, .int .u8 0, .int .u8 0, .int .u8 0, .int .u8 0, .int .u8 0, .int .u8 0, .int .u8 0, .int .u8 0, .int .u8 0, .int .u8 0, .int .u8 0, .int .u8 0, .int .u8 0] := by kernel_rfl
end Sh4
open Sh4

theorem zeros_spec (r j : Nat) (h : j ≤ Sha.zeros r) : ((r + 1 + j) % 64 = 56) ↔ j = Sha.zeros r := by
  unfold Sha.zeros at *
  omega
theorem zeros_lt (r : Nat) : Sha.zeros r < 64 := by unfold Sha.zeros; omega
theorem lens_succ (n : Int) (k : Nat) : Sha.lens n (k + 1) = Sha.lens n k ++ [Sha.lenB n (7 - (k : Int))] := by
  simp [Sha.lens, List.range_succ]
theorem lens_length (n : Int) (k : Nat) : (Sha.lens n k).length = k := by simp [Sha.lens]
theorem outB_length (v : List Int) : (Sha.outB v).length = 32 := by simp [Sha.outB]
theorem outB_get (v : List Int) (j : Nat) (h : j < 32) : (Sha.outB v).getD j 0 = IntKind.u8.wrap ((v.getD (j / 4) 0).fdiv (2 ^ min (24 - 8 * ((j % 4 : Nat) : Int)).toNat IntKind.u32.bits)) := by
  simp [Sha.outB, List.getD_eq_getElem?_getD, h]

set_option maxRecDepth 100000 in
theorem shaSum_c {W0 : World} {H : Hp} {g : Nat} {st rl : List Int} {la : Option Addr} {lc : Nat} {n : Int} {segL : Hp} (h8 : st.length = 8) (hr : rl.length ≤ 64) (hn : 0 ≤ n) (hn2 : n ≤ 140737488355328) (hown : OwnS 5 1 (.slice la rl.length lc) rl.length (iv .u8 rl) segL) :
    CxD Try.prog W0 55 #[.pointer (some ⟨g, 0, none⟩)] ((g, shaO st la rl.length lc n) :: (segL ++ H)) (.tuple #[.agg ⟨iv .u8 (Sha.outB (Sha.absorb st (Sha.padded rl n)))⟩, .int .i64 0]) ((g, shaO st la rl.length lc n) :: (segL ++ H)) := by
  obtain ⟨la2, lc2, hv, hrc, hrcm, hLs⟩ := hown.val
  cases hv
  have hz := zeros_lt rl.length
  have hpl : (Sha.padded rl n).length = rl.length + 1 + Sha.zeros rl.length + 8 := by simp [Sha.padded, lens_length]; omega
  have hdiv : 64 * ((Sha.padded rl n).length / 64) = (Sha.padded rl n).length := by have h56 := (zeros_spec rl.length _ (Nat.le_refl _)).2 rfl; omega
  have hst : ∀ k, (Sha.stK st (Sha.padded rl n) k).length = 8 := Sha.stK_length _ _ h8
  obtain ⟨s0, s1, s2, s3, s4, s5, s6, s7, hs8⟩ := list8 st h8
  subst hs8
  refine enter Try.func55 rfl Try.ntmps55 rfl ?_
  refine WC.seq ?_
  refine WC.region ?_
  refine WL.allocX z_32 rfl (fun b2 => ?_)
  refine WL.p (.none rfl) rfl (OpP.assign rfl) ?_
  refine WL.nil ?_
  refine EQ.sub ((Sub.cons (i := 0) rfl (Sub.cons (i := 2) rfl (Sub.cons (i := 3) rfl (Sub.nil _))))) ?_
  refine EQ.code ?_
  refine WC.seq ?_
  refine WC.region ?_
  refine WL.allocX z_32 rfl (fun b4 => ?_)
  refine WL.nil ?_
  refine EQ.sub ((Sub.cons (i := 0) rfl (Sub.cons (i := 2) rfl (Sub.cons (i := 3) rfl (Sub.cons (i := 4) rfl (Sub.nil _)))))) ?_
  refine EQ.code ?_
  refine WC.seq ?_
  refine WC.seq ?_
  refine WC.region ?_
  refine WL.p (.none rfl) rfl (OpP.move rfl) ?_
  refine WL.p (.none rfl) rfl (OpP.eqlNil rfl rfl Try.underlying88) ?_
  refine WL.p (.none rfl) rfl (OpP.move rfl) ?_
  refine WL.g (.bool rfl rfl rfl) rfl (fun hg => OpP.move rfl) ?_
  refine WL.g (.bool rfl rfl rfl) rfl (fun hg => OpP.nilCheck (gk hg rfl)) ?_
  refine WL.g (.bool rfl rfl rfl) rfl (fun hg => OpP.fieldAddr (gk hg rfl) fld_116_3) ?_
  first | (refine WL.g (.bool rfl rfl rfl) rfl (fun hg => OpP.load (gk hg rfl) ty_4 (Rd.own (by repeat (first | assumption | exact List.mem_cons_self | exact List.mem_of_getElem? (by assumption) | exact set_mem (by first | assumption | exact set_hit (by assumption)) | apply List.mem_cons_of_mem | apply List.mem_append_right)) (by rfl))) ?_) | (refine WL.g (.bool rfl rfl rfl) rfl (fun hg => OpP.load (gk hg rfl) ty_4 (Rd.arr (by repeat (first | assumption | exact List.mem_cons_self | exact List.mem_of_getElem? (by assumption) | exact set_mem (by first | assumption | exact set_hit (by assumption)) | apply List.mem_cons_of_mem | apply List.mem_append_right)) (by first | omega | (simp only [List.length_append, List.length_take, List.length_drop, List.length_replicate]; omega)))) ?_)
  refine WL.g (.bool rfl rfl rfl) rfl (fun hg => OpP.not (gk hg rfl)) ?_
  refine WL.p (.none rfl) rfl (OpP.por rfl rfl rfl) ?_
  refine WL.nil ?_
  refine EQ.sub ((Sub.cons (i := 0) rfl (Sub.cons (i := 2) rfl (Sub.cons (i := 3) rfl (Sub.cons (i := 4) rfl (Sub.cons (i := 19) rfl (Sub.nil _))))))) ?_
  refine EQ.code ?_
  refine WC.condF rfl ?_
  refine WC.skip ?_
  refine EQ.code ?_
  refine WC.seq ?_
  refine WC.region ?_
  refine WL.buildSlice1 sl_23 rfl rfl (by decide) rfl rfl (by rfl) (fun b21 => ?_)
  refine WL.p (.none rfl) rfl (OpP.move rfl) ?_
  refine WL.p (.none rfl) rfl (OpP.nilCheck rfl) ?_
  refine WL.p (.none rfl) rfl (OpP.fieldAddr rfl fld_116_1) ?_
  first | (refine WL.p (.none rfl) rfl (OpP.load rfl ty_23 (Rd.own (by repeat (first | assumption | exact List.mem_cons_self | exact List.mem_of_getElem? (by assumption) | exact set_mem (by first | assumption | exact set_hit (by assumption)) | apply List.mem_cons_of_mem | apply List.mem_append_right)) (by rfl))) ?_) | (refine WL.p (.none rfl) rfl (OpP.load rfl ty_23 (Rd.arr (by repeat (first | assumption | exact List.mem_cons_self | exact List.mem_of_getElem? (by assumption) | exact set_mem (by first | assumption | exact set_hit (by assumption)) | apply List.mem_cons_of_mem | apply List.mem_append_right)) (by first | omega | (simp only [List.length_append, List.length_take, List.length_drop, List.length_replicate]; omega)))) ?_)
  refine WL.append (seg := [(b21, cl [] 5)]) (R := (b4, cl (iv .u8 (List.replicate 32 (0 : Int))) 32) :: (b2, cl (iv .u8 (List.replicate 32 (0 : Int))) 32) :: (g, shaO [s0, s1, s2, s3, s4, s5, s6, s7] la rl.length lc n) :: (segL ++ H)) (cs := []) (news := iv .u8 rl) rfl (.none rfl) rfl sl_23 rfl rfl (OwnS.empty 5 1 b21) ((hLs W0 H).of (by intro w h; exact h.drop.drop.drop.drop)) (by simp) iv_mem (by decide) (by simp only [maxLen]; omega) (by omega) (fun v26 seg26 hown26 _ => ?_)
  simp only [Nat.zero_add, List.nil_append] at hown26
  refine WL.buildSlice1 sl_23 rfl rfl (by decide) rfl rfl (by rfl) (fun b27 => ?_)
  refine WL.toMid ?_
  refine WL.append (seg := seg26) (R := (b27, cl [.int .u8 128] 5) :: (b4, cl (iv .u8 (List.replicate 32 (0 : Int))) 32) :: (b2, cl (iv .u8 (List.replicate 32 (0 : Int))) 32) :: (g, shaO [s0, s1, s2, s3, s4, s5, s6, s7] la rl.length lc n) :: (segL ++ H)) (news := iv .u8 [128]) rfl (.none rfl) rfl sl_23 rfl rfl hown26 (Sl.own (List.mem_append_right _ List.mem_cons_self) (fun j x hj => by simpa using hj)) (by rfl) iv_mem (by decide) (by simp only [maxLen]; omega) (by omega) (fun v28 seg28 hown28 _ => ?_)
  obtain ⟨a28, c28, hv28, hc28, _, hs28⟩ := hown28.val
  subst hv28
  refine WL.p (.none rfl) rfl (OpP.assign rfl) ?_
  refine WL.nil ?_
  refine EQ.sub ((Sub.cons (i := 0) rfl (Sub.cons (i := 2) rfl (Sub.cons (i := 3) rfl (Sub.cons (i := 4) rfl (Sub.cons (i := 5) rfl (Sub.nil _))))))) ?_
  refine EQ.code ?_
  refine WC.seq ?_
  refine WC.block ?_
  refine WC.loop (σ := Nat × Option Addr × Nat × Hp) (fun s => [(0, .pointer (some ⟨g, 0, none⟩)), (2, .pointer (some ⟨b2, 0, none⟩)), (4, .pointer (some ⟨b4, 0, none⟩)), (5, .slice s.2.1 (rl.length + 1 + s.1) s.2.2.1)]) (fun s => s.2.2.2 ++ (b4, cl (iv .u8 (List.replicate 32 (0 : Int))) 32) :: (b2, cl (iv .u8 (List.replicate 32 (0 : Int))) 32) :: (g, shaO [s0, s1, s2, s3, s4, s5, s6, s7] la rl.length lc n) :: (segL ++ H)) (fun s => s.1 ≤ Sha.zeros rl.length ∧ OwnS 5 1 (.slice s.2.1 (rl.length + 1 + s.1) s.2.2.1) (rl.length + 1 + s.1) (iv .u8 (rl ++ [128] ++ List.replicate s.1 0)) s.2.2.2) (fun s => Sha.zeros rl.length - s.1) (0, a28, c28, seg28) ⟨Nat.zero_le _, by simpa using hown28⟩ ((Sub.cons rfl (Sub.cons rfl (Sub.cons rfl (Sub.cons rfl (Sub.nil _)))))) (by intro _ h; exact h.drop_mid) (fun ⟨j, a1, c1, seg⟩ hinv => ?_)
  (try simp only at hinv ⊢)
  obtain ⟨hj, hown1⟩ := hinv
  have hzj := zeros_spec rl.length j hj
  refine WC.seq ?_
  refine WC.seq ?_
  refine WC.region ?_
  refine WL.p (.none rfl) rfl (OpP.move rfl) ?_
  refine WL.p (.none rfl) rfl (OpP.lenSl rfl Try.underlying23) ?_
  refine WL.p (.none rfl) rfl (OpP.remN rfl rfl (by omega) (by omega)) ?_
  refine WL.p (.none rfl) rfl (OpP.neqI rfl rfl) ?_
  refine WL.nil ?_
  refine EQ.sub ((Sub.cons (i := 0) rfl (Sub.cons (i := 2) rfl (Sub.cons (i := 4) rfl (Sub.cons (i := 5) rfl (Sub.cons (i := 32) rfl (Sub.nil _))))))) ?_
  refine EQ.code ?_
  refine WC.cond rfl (fun hc1 => ?_) (fun hc1 => ?_)
  · -- cond 1 t
    (try simp only [decide_eq_true_eq, decide_eq_false_iff_not, Bool.not_eq_true', Bool.not_eq_false', Bool.or_eq_true, Bool.and_eq_true, Bool.or_eq_false_iff, Bool.and_eq_false_imp] at hc1)
    refine WC.skip ?_
    refine EQ.code ?_
    refine WC.block ?_
    refine WC.region ?_
    refine WL.p (.none rfl) rfl (OpP.move rfl) ?_
    refine WL.buildSlice1 sl_23 rfl rfl (by decide) rfl rfl (by rfl) (fun b34 => ?_)
    refine WL.toMid ?_
    refine WL.append (seg := seg) (R := (b34, cl [.int .u8 0] 5) :: (b4, cl (iv .u8 (List.replicate 32 (0 : Int))) 32) :: (b2, cl (iv .u8 (List.replicate 32 (0 : Int))) 32) :: (g, shaO [s0, s1, s2, s3, s4, s5, s6, s7] la rl.length lc n) :: (segL ++ H)) (news := iv .u8 [0]) rfl (.none rfl) rfl sl_23 rfl rfl hown1 (Sl.own (List.mem_append_right _ List.mem_cons_self) (fun j x hj => by simpa using hj)) (by rfl) iv_mem (by decide) (by simp only [maxLen]; omega) (by omega) (fun v35 seg35 hown35 _ => ?_)
    obtain ⟨a35, c35, hv35, hc35, _, hs35⟩ := hown35.val
    subst hv35
    refine WL.p (.none rfl) rfl (OpP.assign rfl) ?_
    refine WL.nil ?_
    refine EQ.sub ((Sub.cons (i := 0) rfl (Sub.cons (i := 2) rfl (Sub.cons (i := 4) rfl (Sub.cons (i := 5) rfl (Sub.nil _)))))) ?_
    refine EQ.blockN ?_
    refine EQ.again (j + 1, a35, c35, seg35) ?_ ?_ ?_ ?_
    · exact ⟨by (try simp only); omega, by simpa [List.replicate_succ', ← List.append_assoc, Nat.add_assoc] using hown35⟩
    · (try simp only); omega
    · exact ((Sub.cons rfl (Sub.cons rfl (Sub.cons rfl (Sub.cons rfl (Sub.nil _))))))
    · intro _ h; first | exact h | exact h.drop | exact h.drop_mid | exact h.drop_mid.drop_mid
  · -- cond 1 f
    (try simp only [decide_eq_true_eq, decide_eq_false_iff_not, Bool.not_eq_true', Bool.not_eq_false', Bool.or_eq_true, Bool.and_eq_true, Bool.or_eq_false_iff, Bool.and_eq_false_imp] at hc1)
    refine WC.exit ?_
    refine EQ.thenE ?_
    refine EQ.thenE ?_
    refine EQ.blockHit ?_
    refine EQ.code ?_
    refine WC.seq ?_
    refine WC.seq ?_
    refine WC.region ?_
    refine WL.p (.none rfl) rfl (OpP.assign rfl) ?_
    refine WL.nil ?_
    refine EQ.sub ((Sub.cons (i := 0) rfl (Sub.cons (i := 2) rfl (Sub.cons (i := 4) rfl (Sub.cons (i := 5) rfl (Sub.cons (i := 6) rfl (Sub.nil _))))))) ?_
    refine EQ.code ?_
    refine WC.block ?_
    obtain rfl : j = Sha.zeros rl.length := by omega
    refine WC.loop (σ := Nat × Option Addr × Nat × Hp) (fun s => [(0, .pointer (some ⟨g, 0, none⟩)), (2, .pointer (some ⟨b2, 0, none⟩)), (4, .pointer (some ⟨b4, 0, none⟩)), (5, .slice s.2.1 (rl.length + 1 + Sha.zeros rl.length + s.1) s.2.2.1), (6, .int .i64 (7 - (s.1 : Int)))]) (fun s => s.2.2.2 ++ (b4, cl (iv .u8 (List.replicate 32 (0 : Int))) 32) :: (b2, cl (iv .u8 (List.replicate 32 (0 : Int))) 32) :: (g, shaO [s0, s1, s2, s3, s4, s5, s6, s7] la rl.length lc n) :: (segL ++ H)) (fun s => s.1 ≤ 8 ∧ OwnS 5 1 (.slice s.2.1 (rl.length + 1 + Sha.zeros rl.length + s.1) s.2.2.1) (rl.length + 1 + Sha.zeros rl.length + s.1) (iv .u8 (rl ++ [128] ++ List.replicate (Sha.zeros rl.length) 0 ++ Sha.lens n s.1)) s.2.2.2) (fun s => 8 - s.1) (0, a1, c1, seg) ⟨Nat.zero_le _, by simpa [Sha.lens] using hown1⟩ ((Sub.cons rfl (Sub.cons rfl (Sub.cons rfl (Sub.cons rfl (Sub.cons rfl (Sub.nil _))))))) (by intro _ h; exact h) (fun ⟨k, a1, c1, seg⟩ hinv => ?_)
    (try simp only at hinv ⊢)
    obtain ⟨hk, hown1⟩ := hinv
    refine WC.seq ?_
    refine WC.seq ?_
    refine WC.region ?_
    refine WL.p (.none rfl) rfl (OpP.move rfl) ?_
    refine WL.p (.none rfl) rfl (OpP.geq rfl rfl) ?_
    refine WL.nil ?_
    refine EQ.sub ((Sub.cons (i := 0) rfl (Sub.cons (i := 2) rfl (Sub.cons (i := 4) rfl (Sub.cons (i := 5) rfl (Sub.cons (i := 6) rfl (Sub.cons (i := 37) rfl (Sub.nil _)))))))) ?_
    refine EQ.code ?_
    refine WC.cond rfl (fun hc2 => ?_) (fun hc2 => ?_)
    · -- cond 2 t
      (try simp only [decide_eq_true_eq, decide_eq_false_iff_not, Bool.not_eq_true', Bool.not_eq_false', Bool.or_eq_true, Bool.and_eq_true, Bool.or_eq_false_iff, Bool.and_eq_false_imp] at hc2)
      refine WC.skip ?_
      refine EQ.code ?_
      refine WC.seq ?_
      refine WC.block ?_
      refine WC.region ?_
      refine WL.p (.none rfl) rfl (OpP.move rfl) ?_
      refine WL.p (.none rfl) rfl (OpP.move rfl) ?_
      refine WL.p (.none rfl) rfl (OpP.nilCheck rfl) ?_
      refine WL.p (.none rfl) rfl (OpP.fieldAddr rfl fld_116_2) ?_
      first | (refine WL.p (.none rfl) rfl (OpP.load rfl ty_3 (Rd.own (by repeat (first | assumption | exact List.mem_cons_self | exact List.mem_of_getElem? (by assumption) | exact set_mem (by first | assumption | exact set_hit (by assumption)) | apply List.mem_cons_of_mem | apply List.mem_append_right)) (by rfl))) ?_) | (refine WL.p (.none rfl) rfl (OpP.load rfl ty_3 (Rd.arr (by repeat (first | assumption | exact List.mem_cons_self | exact List.mem_of_getElem? (by assumption) | exact set_mem (by first | assumption | exact set_hit (by assumption)) | apply List.mem_cons_of_mem | apply List.mem_append_right)) (by first | omega | (simp only [List.length_append, List.length_take, List.length_drop, List.length_replicate]; omega)))) ?_)
      refine WL.p (.none rfl) rfl (OpP.conv rfl Try.underlying3 Try.underlying22) ?_
      refine WL.p (.none rfl) rfl (OpP.shl rfl rfl (by omega)) ?_
      refine WL.p (.none rfl) rfl (OpP.move rfl) ?_
      first | (refine WL.p (.none rfl) rfl (OpP.mul64 rfl rfl (by omega)) ?_) | (refine WL.p (.none rfl) rfl (OpP.mul rfl rfl) ?_)
      refine WL.p (.none rfl) rfl (OpP.shr rfl rfl (by omega)) ?_
      refine WL.p (.none rfl) rfl (OpP.conv rfl Try.underlying22 Try.underlying5) ?_
      refine WL.buildSlice1 sl_23 rfl rfl (by decide) rfl rfl (by rfl) (fun b51 => ?_)
      refine WL.toMid ?_
      refine WL.append (seg := seg) (R := (b51, cl [.int .u8 (Sha.lenB n (7 - (k : Int)))] 5) :: (b4, cl (iv .u8 (List.replicate 32 (0 : Int))) 32) :: (b2, cl (iv .u8 (List.replicate 32 (0 : Int))) 32) :: (g, shaO [s0, s1, s2, s3, s4, s5, s6, s7] la rl.length lc n) :: (segL ++ H)) (news := iv .u8 [Sha.lenB n (7 - (k : Int))]) rfl (.none rfl) rfl sl_23 rfl rfl hown1 (Sl.own (List.mem_append_right _ List.mem_cons_self) (fun j x hj => by simpa using hj)) (by rfl) iv_mem (by decide) (by simp only [maxLen]; omega) (by omega) (fun v52 seg52 hown52 _ => ?_)
      obtain ⟨a52, c52, hv52, hc52, _, hs52⟩ := hown52.val
      subst hv52
      refine WL.p (.none rfl) rfl (OpP.assign rfl) ?_
      refine WL.nil ?_
      refine EQ.sub ((Sub.cons (i := 0) rfl (Sub.cons (i := 2) rfl (Sub.cons (i := 4) rfl (Sub.cons (i := 5) rfl (Sub.cons (i := 6) rfl (Sub.nil _))))))) ?_
      refine EQ.blockN ?_
      refine EQ.code ?_
      refine WC.region ?_
      refine WL.p (.none rfl) rfl (OpP.move rfl) ?_
      first | (refine WL.p (.none rfl) rfl (OpP.sub64 rfl rfl (by omega)) ?_) | (refine WL.p (.none rfl) rfl (OpP.sub rfl rfl) ?_)
      refine WL.p (.none rfl) rfl (OpP.assign rfl) ?_
      refine WL.nil ?_
      refine EQ.sub ((Sub.cons (i := 0) rfl (Sub.cons (i := 2) rfl (Sub.cons (i := 4) rfl (Sub.cons (i := 5) rfl (Sub.cons (i := 6) rfl (Sub.nil _))))))) ?_
      refine EQ.again (k + 1, a52, c52, seg52) ?_ ?_ ?_ ?_
      · exact ⟨by (try simp only); omega, by rw [lens_succ]; simpa [← List.append_assoc, Nat.add_assoc] using hown52⟩
      · (try simp only); omega
      · exact (Sub.cons rfl (Sub.cons rfl (Sub.cons rfl (Sub.cons rfl (Sub.cons (congrArg some (congrArg (Value.int .i64) (by (try simp only); omega))) (Sub.nil _))))))
      · intro _ h; first | exact h | exact h.drop | exact h.drop_mid | exact h.drop_mid.drop_mid
    · -- cond 2 f
      (try simp only [decide_eq_true_eq, decide_eq_false_iff_not, Bool.not_eq_true', Bool.not_eq_false', Bool.or_eq_true, Bool.and_eq_true, Bool.or_eq_false_iff, Bool.and_eq_false_imp] at hc2)
      refine WC.exit ?_
      refine EQ.thenE ?_
      refine EQ.thenE ?_
      refine EQ.blockHit ?_
      refine EQ.code ?_
      refine WC.seq ?_
      refine WC.region ?_
      refine WL.p (.none rfl) rfl (OpP.move rfl) ?_
      refine WL.p (.none rfl) rfl (OpP.nilCheck rfl) ?_
      refine WL.p (.none rfl) rfl (OpP.fieldAddr rfl fld_116_0) ?_
      first | (refine WL.p (.none rfl) rfl (OpP.loadB rfl ty_113 (by repeat (first | assumption | exact List.mem_cons_self | exact List.mem_of_getElem? (by assumption) | exact set_mem (by first | assumption | exact set_hit (by assumption)) | apply List.mem_cons_of_mem | apply List.mem_append_right)) (by rfl)) ?_) | (refine WL.p (.none rfl) rfl (OpP.loadW rfl ty_113 (by repeat (first | assumption | exact List.mem_cons_self | exact List.mem_of_getElem? (by assumption) | exact set_mem (by first | assumption | exact set_hit (by assumption)) | apply List.mem_cons_of_mem | apply List.mem_append_right)) (by first | rfl | (simp [spl_length, hst, outB_length]; done) | (simp [spl_length, hst, outB_length]; omega))) ?_)
      refine WL.allocX z_113 rfl (fun b7 => ?_)
      first | (refine WL.s (.none rfl) rfl (OpS.storeAll rfl rfl ty_113 (by repeat (first | assumption | exact at0 | exact set_hit (by first | assumption | exact set_hit (by assumption)) | apply ats)) (by rfl) (by rfl) (by rfl) (by rfl)) ?_) | (refine WL.s (.none rfl) rfl (OpS.store rfl rfl ty_113 (by repeat (first | assumption | exact at0 | exact set_hit (by first | assumption | exact set_hit (by assumption)) | apply ats)) (by rfl) (by first | rfl | (simp [spl_length, hst, outB_length]; done) | (simp [spl_length, hst, outB_length]; omega)) (by first | rfl | exact iv_one _ _ | (simp [Value.oneCell']; done)) (by first | rfl | (refine Nat.ble_eq_true_of_le ?_; simp [spl_length, hst, outB_length]; done) | (refine Nat.ble_eq_true_of_le ?_; simp [spl_length, hst, outB_length]; omega))) ?_)
      refine WL.nil ?_
      refine EQ.sub ((Sub.cons (i := 2) rfl (Sub.cons (i := 4) rfl (Sub.cons (i := 5) rfl (Sub.cons (i := 7) rfl (Sub.nil _)))))) ?_
      refine EQ.code ?_
      refine WC.seq ?_
      refine WC.block ?_
      obtain rfl : k = 8 := by omega
      have hown2 : OwnS 5 1 (.slice a1 (Sha.padded rl n).length c1) (Sha.padded rl n).length (iv .u8 (Sha.padded rl n)) seg := by rw [hpl]; exact hown1
      obtain ⟨a9, c9, hv9, hc9, hc9m, hs9⟩ := hown2.val
      cases hv9
      refine WC.loop (σ := Nat × Option Addr × Nat) (fun s => [(2, .pointer (some ⟨b2, 0, none⟩)), (4, .pointer (some ⟨b4, 0, none⟩)), (5, .slice s.2.1 ((Sha.padded rl n).length - 64 * s.1) s.2.2), (7, .pointer (some ⟨b7, 0, none⟩))]) (fun s => (b7, cl (iv .u32 (Sha.stK [s0, s1, s2, s3, s4, s5, s6, s7] (Sha.padded rl n) s.1)) 113) :: (seg ++ (b4, cl (iv .u8 (List.replicate 32 (0 : Int))) 32) :: (b2, cl (iv .u8 (List.replicate 32 (0 : Int))) 32) :: (g, shaO [s0, s1, s2, s3, s4, s5, s6, s7] la rl.length lc n) :: (segL ++ H))) (fun s => 64 * s.1 ≤ (Sha.padded rl n).length ∧ (Sha.padded rl n).length - 64 * s.1 ≤ s.2.2 ∧ s.2.2 ≤ 9223372036854775807 ∧ Sl W0 (seg ++ (b4, cl (iv .u8 (List.replicate 32 (0 : Int))) 32) :: (b2, cl (iv .u8 (List.replicate 32 (0 : Int))) 32) :: (g, shaO [s0, s1, s2, s3, s4, s5, s6, s7] la rl.length lc n) :: (segL ++ H)) s.2.1 (iv .u8 ((Sha.padded rl n).drop (64 * s.1)))) (fun s => (Sha.padded rl n).length - 64 * s.1) (0, a1, c1) ⟨by simp, by simpa using hc9, by simpa [maxLen] using hc9m, by simpa using hs9 W0 _⟩ (Sub.cons rfl (Sub.cons rfl (Sub.cons (congrArg some (slice_congr rfl (by rw [hpl]; simp) rfl)) (Sub.cons rfl (Sub.nil _))))) (fun _ h => h) (fun ⟨k, ak, ck⟩ hinv => ?_)
      (try simp only at hinv ⊢)
      obtain ⟨hk, hck, hck2, hsk⟩ := hinv
      refine WC.seq ?_
      refine WC.seq ?_
      refine WC.region ?_
      refine WL.p (.none rfl) rfl (OpP.move rfl) ?_
      refine WL.p (.none rfl) rfl (OpP.lenSl rfl Try.underlying23) ?_
      refine WL.p (.none rfl) rfl (OpP.gtr rfl rfl) ?_
      refine WL.nil ?_
      refine EQ.sub ((Sub.cons (i := 2) rfl (Sub.cons (i := 4) rfl (Sub.cons (i := 5) rfl (Sub.cons (i := 7) rfl (Sub.cons (i := 59) rfl (Sub.nil _))))))) ?_
      refine EQ.code ?_
      refine WC.cond rfl (fun hc3 => ?_) (fun hc3 => ?_)
      · -- cond 3 t
        (try simp only [decide_eq_true_eq, decide_eq_false_iff_not, Bool.not_eq_true', Bool.not_eq_false', Bool.or_eq_true, Bool.and_eq_true, Bool.or_eq_false_iff, Bool.and_eq_false_imp] at hc3)
        refine WC.skip ?_
        refine EQ.code ?_
        refine WC.block ?_
        refine WC.seq ?_
        refine WC.drawT 4 (by kernel_rfl) (by kernel_rfl) ?_
        first | (refine WQ.p (.none rfl) rfl (OpP.loadB rfl ty_113 (by repeat (first | assumption | exact List.mem_cons_self | exact List.mem_of_getElem? (by assumption) | exact set_mem (by first | assumption | exact set_hit (by assumption)) | apply List.mem_cons_of_mem | apply List.mem_append_right)) (by rfl)) ?_) | (refine WQ.p (.none rfl) rfl (OpP.loadW rfl ty_113 (by repeat (first | assumption | exact List.mem_cons_self | exact List.mem_of_getElem? (by assumption) | exact set_mem (by first | assumption | exact set_hit (by assumption)) | apply List.mem_cons_of_mem | apply List.mem_append_right)) (by first | rfl | (simp [spl_length, hst, outB_length]; done) | (simp [spl_length, hst, outB_length]; omega))) ?_)
        refine WQ.p (.none rfl) rfl (OpP.move rfl) ?_
        refine WQ.p (.none rfl) rfl (OpP.slice rfl sl_23 (l := _) (rfl) (rfl) (⟨_, rfl⟩) (by omega) (by omega) (by omega) (by omega)) ?_
        refine WQ.callD rfl (.none rfl) rfl k_67 rfl (mix_c (s := Sha.stK [s0, s1, s2, s3, s4, s5, s6, s7] (Sha.padded rl n) k) (b := ((Sha.padded rl n).drop (64 * k)).take 64) (hst k) (by simp; omega) (by omega) (by omega) (by omega) (hsk.cons.cutH 64 _)) ?_
        refine WQ.tail ?_
        first | (refine WL.s (.none rfl) rfl (OpS.storeAll rfl rfl ty_113 (by repeat (first | assumption | exact at0 | exact set_hit (by first | assumption | exact set_hit (by assumption)) | apply ats)) (by rfl) (by rfl) (by rfl) (by rfl)) ?_) | (refine WL.s (.none rfl) rfl (OpS.store rfl rfl ty_113 (by repeat (first | assumption | exact at0 | exact set_hit (by first | assumption | exact set_hit (by assumption)) | apply ats)) (by rfl) (by first | rfl | (simp [spl_length, hst, outB_length]; done) | (simp [spl_length, hst, outB_length]; omega)) (by first | rfl | exact iv_one _ _ | (simp [Value.oneCell']; done)) (by first | rfl | (refine Nat.ble_eq_true_of_le ?_; simp [spl_length, hst, outB_length]; done) | (refine Nat.ble_eq_true_of_le ?_; simp [spl_length, hst, outB_length]; omega))) ?_)
        refine WL.nil ?_
        refine EQ.sub ((Sub.cons (i := 2) rfl (Sub.cons (i := 4) rfl (Sub.cons (i := 5) rfl (Sub.cons (i := 7) rfl (Sub.nil _)))))) ?_
        refine EQ.code ?_
        refine WC.region ?_
        refine WL.p (.none rfl) rfl (OpP.move rfl) ?_
        refine WL.p (.none rfl) rfl (OpP.slice rfl sl_23 (l := _) (⟨_, rfl⟩) (rfl) (⟨rfl, rfl⟩) (by omega) (by omega) (by omega) (by omega)) ?_
        refine WL.p (.none rfl) rfl (OpP.assign rfl) ?_
        refine WL.nil ?_
        refine EQ.sub ((Sub.cons (i := 2) rfl (Sub.cons (i := 4) rfl (Sub.cons (i := 5) rfl (Sub.cons (i := 7) rfl (Sub.nil _)))))) ?_
        refine EQ.blockN ?_
        refine EQ.again (k + 1, if (ck : Int) = 64 then ak else ak.map (·.add ((64 : Int).toNat * 1)), ck - 64) ?_ ?_ ?_ ?_
        · refine ⟨by (try simp only); omega, by (try simp only); omega, by (try simp only); omega, ?_⟩
          have hcut := hsk.cutB (64 : Int) ((ck : Int) = 64) (by intro; simp; omega)
          rw [List.drop_drop] at hcut
          exact hcut
        · (try simp only); omega
        · exact (Sub.cons rfl (Sub.cons rfl (Sub.cons (congrArg some (slice_congr rfl (by (try simp only); omega) (by (try simp only); omega))) (Sub.cons rfl (Sub.nil _)))))
        · intro w h
          (try simp only [List.set_cons_zero] at h)
          rw [spl_all _ _ (by simp [Sha.mix_length, hst])] at h
          exact h
      · -- cond 3 f
        (try simp only [decide_eq_true_eq, decide_eq_false_iff_not, Bool.not_eq_true', Bool.not_eq_false', Bool.or_eq_true, Bool.and_eq_true, Bool.or_eq_false_iff, Bool.and_eq_false_imp] at hc3)
        refine WC.exit ?_
        refine EQ.thenE ?_
        refine EQ.thenE ?_
        refine EQ.blockHit ?_
        refine EQ.code ?_
        refine WC.seq ?_
        refine WC.seq ?_
        refine WC.region ?_
        first | (refine WL.p (.none rfl) rfl (OpP.loadB rfl ty_113 (by repeat (first | assumption | exact List.mem_cons_self | exact List.mem_of_getElem? (by assumption) | exact set_mem (by first | assumption | exact set_hit (by assumption)) | apply List.mem_cons_of_mem | apply List.mem_append_right)) (by rfl)) ?_) | (refine WL.p (.none rfl) rfl (OpP.loadW rfl ty_113 (by repeat (first | assumption | exact List.mem_cons_self | exact List.mem_of_getElem? (by assumption) | exact set_mem (by first | assumption | exact set_hit (by assumption)) | apply List.mem_cons_of_mem | apply List.mem_append_right)) (by first | rfl | (simp [spl_length, hst, outB_length]; done) | (simp [spl_length, hst, outB_length]; omega))) ?_)
        refine WL.p (.none rfl) rfl (OpP.move rfl) ?_
        refine WL.nil ?_
        refine EQ.sub ((Sub.cons (i := 2) rfl (Sub.cons (i := 4) rfl (Sub.cons (i := 66) rfl (Sub.cons (i := 67) rfl (Sub.nil _)))))) ?_
        refine EQ.code ?_
        refine WC.block ?_
        obtain rfl : k = (Sha.padded rl n).length / 64 := by omega
        refine WC.loop (σ := Nat) (fun i => [(2, .pointer (some ⟨b2, 0, none⟩)), (4, .pointer (some ⟨b4, 0, none⟩)), (66, .agg ⟨iv .u32 (Sha.stK [s0, s1, s2, s3, s4, s5, s6, s7] (Sha.padded rl n) ((Sha.padded rl n).length / 64))⟩), (67, .int .i64 (i : Int))]) (fun i => (b4, cl (iv .u8 ((Sha.outB (Sha.stK [s0, s1, s2, s3, s4, s5, s6, s7] (Sha.padded rl n) ((Sha.padded rl n).length / 64))).take (4 * i) ++ (List.replicate 32 (0 : Int)).drop (4 * i))) 32) :: (b2, cl (iv .u8 (List.replicate 32 (0 : Int))) 32) :: (g, shaO [s0, s1, s2, s3, s4, s5, s6, s7] la rl.length lc n) :: (segL ++ H)) (fun i => i ≤ 8) (fun i => 8 - i) 0 (by omega) ((Sub.cons rfl (Sub.cons rfl (Sub.cons rfl (Sub.cons rfl (Sub.nil _)))))) (by intro w h; exact h.drop.sublist (List.sublist_append_right seg _)) (fun i hinv => ?_)
        (try simp only)
        refine WC.seq ?_
        refine WC.region ?_
        refine WL.p (.none rfl) rfl (OpP.lss rfl rfl) ?_
        refine WL.nil ?_
        refine EQ.sub ((Sub.cons (i := 2) rfl (Sub.cons (i := 4) rfl (Sub.cons (i := 66) rfl (Sub.cons (i := 67) rfl (Sub.cons (i := 68) rfl (Sub.nil _))))))) ?_
        refine EQ.code ?_
        refine WC.seq ?_
        refine WC.cond rfl (fun hc4 => ?_) (fun hc4 => ?_)
        · -- cond 4 t
          (try simp only [decide_eq_true_eq, decide_eq_false_iff_not, Bool.not_eq_true', Bool.not_eq_false', Bool.or_eq_true, Bool.and_eq_true, Bool.or_eq_false_iff, Bool.and_eq_false_imp] at hc4)
          refine WC.skip ?_
          refine EQ.code ?_
          refine WC.seq ?_
          refine WC.block ?_
          refine WC.seq ?_
          refine WC.region ?_
          refine WL.p (.none rfl) rfl (OpP.move rfl) ?_
          refine WL.p (.none rfl) rfl (OpP.index rfl rfl el_113 (by omega) (by omega) (iv_get .u32 (Sha.stK [s0, s1, s2, s3, s4, s5, s6, s7] (Sha.padded rl n) ((Sha.padded rl n).length / 64)) _ (by rw [hst]; omega))) ?_
          refine WL.p (.none rfl) rfl (OpP.assign rfl) ?_
          refine WL.p (.none rfl) rfl (OpP.assign rfl) ?_
          refine WL.nil ?_
          refine EQ.sub ((Sub.cons (i := 2) rfl (Sub.cons (i := 4) rfl (Sub.cons (i := 8) rfl (Sub.cons (i := 9) rfl (Sub.cons (i := 66) rfl (Sub.cons (i := 67) rfl (Sub.nil _)))))))) ?_
          refine EQ.code ?_
          refine WC.seq ?_
          refine WC.region ?_
          refine WL.p (.none rfl) rfl (OpP.move rfl) ?_
          refine WL.nil ?_
          refine EQ.sub ((Sub.cons (i := 2) rfl (Sub.cons (i := 4) rfl (Sub.cons (i := 8) rfl (Sub.cons (i := 9) rfl (Sub.cons (i := 66) rfl (Sub.cons (i := 67) rfl (Sub.cons (i := 71) rfl (Sub.nil _))))))))) ?_
          refine EQ.code ?_
          refine WC.block ?_
          refine WC.loop (σ := Nat) (fun k => [(2, .pointer (some ⟨b2, 0, none⟩)), (4, .pointer (some ⟨b4, 0, none⟩)), (8, .int .i64 (i : Int)), (9, .int .u32 ((Sha.stK [s0, s1, s2, s3, s4, s5, s6, s7] (Sha.padded rl n) ((Sha.padded rl n).length / 64)).getD ((i : Int).toNat * 1) 0)), (66, .agg ⟨iv .u32 (Sha.stK [s0, s1, s2, s3, s4, s5, s6, s7] (Sha.padded rl n) ((Sha.padded rl n).length / 64))⟩), (67, .int .i64 (i : Int)), (71, .int .i64 (k : Int))]) (fun k => (b4, cl (iv .u8 ((Sha.outB (Sha.stK [s0, s1, s2, s3, s4, s5, s6, s7] (Sha.padded rl n) ((Sha.padded rl n).length / 64))).take (4 * i + k) ++ (List.replicate 32 (0 : Int)).drop (4 * i + k))) 32) :: (b2, cl (iv .u8 (List.replicate 32 (0 : Int))) 32) :: (g, shaO [s0, s1, s2, s3, s4, s5, s6, s7] la rl.length lc n) :: (segL ++ H)) (fun k => k ≤ 4) (fun k => 4 - k) 0 (by omega) ((Sub.cons rfl (Sub.cons rfl (Sub.cons rfl (Sub.cons rfl (Sub.cons rfl (Sub.cons rfl (Sub.cons rfl (Sub.nil _))))))))) (fun _ h => h) (fun k hinv => ?_)
          (try simp only)
          refine WC.seq ?_
          refine WC.region ?_
          refine WL.p (.none rfl) rfl (OpP.lss rfl rfl) ?_
          refine WL.nil ?_
          refine EQ.sub ((Sub.cons (i := 2) rfl (Sub.cons (i := 4) rfl (Sub.cons (i := 8) rfl (Sub.cons (i := 9) rfl (Sub.cons (i := 66) rfl (Sub.cons (i := 67) rfl (Sub.cons (i := 71) rfl (Sub.cons (i := 72) rfl (Sub.nil _)))))))))) ?_
          refine EQ.code ?_
          refine WC.seq ?_
          refine WC.cond rfl (fun hc5 => ?_) (fun hc5 => ?_)
          · -- cond 5 t
            (try simp only [decide_eq_true_eq, decide_eq_false_iff_not, Bool.not_eq_true', Bool.not_eq_false', Bool.or_eq_true, Bool.and_eq_true, Bool.or_eq_false_iff, Bool.and_eq_false_imp] at hc5)
            refine WC.skip ?_
            refine EQ.code ?_
            refine WC.seq ?_
            refine WC.block ?_
            refine WC.seq ?_
            refine WC.region ?_
            refine WL.p (.none rfl) rfl (OpP.move rfl) ?_
            refine WL.p (.none rfl) rfl (OpP.assign rfl) ?_
            refine WL.nil ?_
            refine EQ.sub ((Sub.cons (i := 2) rfl (Sub.cons (i := 4) rfl (Sub.cons (i := 8) rfl (Sub.cons (i := 9) rfl (Sub.cons (i := 10) rfl (Sub.cons (i := 66) rfl (Sub.cons (i := 67) rfl (Sub.cons (i := 71) rfl (Sub.nil _)))))))))) ?_
            refine EQ.code ?_
            refine WC.region ?_
            refine WL.p (.none rfl) rfl (OpP.move rfl) ?_
            first | (refine WL.p (.none rfl) rfl (OpP.mul64 rfl rfl (by omega)) ?_) | (refine WL.p (.none rfl) rfl (OpP.mul rfl rfl) ?_)
            refine WL.p (.none rfl) rfl (OpP.move rfl) ?_
            first | (refine WL.p (.none rfl) rfl (OpP.add64 rfl rfl (by omega)) ?_) | (refine WL.p (.none rfl) rfl (OpP.add rfl rfl) ?_)
            refine WL.p (.none rfl) rfl (OpP.move rfl) ?_
            refine WL.p (.none rfl) rfl (OpP.move rfl) ?_
            first | (refine WL.p (.none rfl) rfl (OpP.mul64 rfl rfl (by omega)) ?_) | (refine WL.p (.none rfl) rfl (OpP.mul rfl rfl) ?_)
            first | (refine WL.p (.none rfl) rfl (OpP.sub64 rfl rfl (by omega)) ?_) | (refine WL.p (.none rfl) rfl (OpP.sub rfl rfl) ?_)
            refine WL.p (.none rfl) rfl (OpP.shr rfl rfl (by omega)) ?_
            refine WL.p (.none rfl) rfl (OpP.conv rfl Try.underlying107 Try.underlying5) ?_
            refine WL.p (.none rfl) rfl (OpP.indexA rfl rfl el_32 (by omega) (by omega)) ?_
            refine WL.s (.none rfl) rfl (OpS.store rfl rfl ty_5 (by repeat (first | assumption | exact at0 | exact set_hit (by first | assumption | exact set_hit (by assumption)) | apply ats)) (by rfl) (by first | rfl | (simp [spl_length, hst, outB_length]; done) | (simp [spl_length, hst, outB_length]; omega)) (by first | rfl | exact iv_one _ _ | (simp [Value.oneCell']; done)) (by first | rfl | (refine Nat.ble_eq_true_of_le ?_; simp [spl_length, hst, outB_length]; done) | (refine Nat.ble_eq_true_of_le ?_; simp [spl_length, hst, outB_length]; omega))) ?_
            refine WL.nil ?_
            refine EQ.sub ((Sub.cons (i := 2) rfl (Sub.cons (i := 4) rfl (Sub.cons (i := 8) rfl (Sub.cons (i := 9) rfl (Sub.cons (i := 66) rfl (Sub.cons (i := 67) rfl (Sub.cons (i := 71) rfl (Sub.nil _))))))))) ?_
            refine EQ.blockN ?_
            refine EQ.code ?_
            refine WC.region ?_
            first | (refine WL.p (.none rfl) rfl (OpP.add64 rfl rfl (by omega)) ?_) | (refine WL.p (.none rfl) rfl (OpP.add rfl rfl) ?_)
            refine WL.p (.none rfl) rfl (OpP.move rfl) ?_
            refine WL.nil ?_
            refine EQ.sub ((Sub.cons (i := 2) rfl (Sub.cons (i := 4) rfl (Sub.cons (i := 8) rfl (Sub.cons (i := 9) rfl (Sub.cons (i := 66) rfl (Sub.cons (i := 67) rfl (Sub.cons (i := 71) rfl (Sub.nil _))))))))) ?_
            refine EQ.again (k + 1) ?_ ?_ ?_ ?_
            · (try simp only); omega
            · (try simp only); omega
            · exact ((Sub.cons rfl (Sub.cons rfl (Sub.cons rfl (Sub.cons rfl (Sub.cons rfl (Sub.cons rfl (Sub.cons rfl (Sub.nil _)))))))))
            · intro w h
              have e : 0 + (4 * (i : Int) + (k : Int)).toNat * 1 = 4 * i + k := by omega
              have e2 : ((i : Int)).toNat * 1 = i := by omega
              have u := upd_step (Sha.outB (Sha.stK [s0, s1, s2, s3, s4, s5, s6, s7] (Sha.padded rl n) ((Sha.padded rl n).length / 64))) (List.replicate 32 (0 : Int)) 0 (by simp [outB_length]) (4 * i + k) (by rw [outB_length]; omega)
              rw [outB_get _ _ (by omega), show (4 * i + k) / 4 = i from by omega, show (4 * i + k) % 4 = k from by omega] at u
              simp only [List.set_cons_zero, spl_iv, e, e2, u] at h
              exact h
          · -- cond 5 f
            (try simp only [decide_eq_true_eq, decide_eq_false_iff_not, Bool.not_eq_true', Bool.not_eq_false', Bool.or_eq_true, Bool.and_eq_true, Bool.or_eq_false_iff, Bool.and_eq_false_imp] at hc5)
            refine WC.exit ?_
            refine EQ.thenE ?_
            refine EQ.thenE ?_
            refine EQ.blockHit ?_
            refine EQ.blockN ?_
            refine EQ.code ?_
            refine WC.region ?_
            first | (refine WL.p (.none rfl) rfl (OpP.add64 rfl rfl (by omega)) ?_) | (refine WL.p (.none rfl) rfl (OpP.add rfl rfl) ?_)
            refine WL.p (.none rfl) rfl (OpP.move rfl) ?_
            refine WL.nil ?_
            refine EQ.sub ((Sub.cons (i := 2) rfl (Sub.cons (i := 4) rfl (Sub.cons (i := 66) rfl (Sub.cons (i := 67) rfl (Sub.nil _)))))) ?_
            refine EQ.again (i + 1) ?_ ?_ ?_ ?_
            · (try simp only); omega
            · (try simp only); omega
            · exact ((Sub.cons rfl (Sub.cons rfl (Sub.cons rfl (Sub.cons rfl (Sub.nil _))))))
            · intro w h
              obtain rfl : k = 4 := by omega
              exact h
        · -- cond 4 f
          (try simp only [decide_eq_true_eq, decide_eq_false_iff_not, Bool.not_eq_true', Bool.not_eq_false', Bool.or_eq_true, Bool.and_eq_true, Bool.or_eq_false_iff, Bool.and_eq_false_imp] at hc4)
          refine WC.exit ?_
          refine EQ.thenE ?_
          refine EQ.thenE ?_
          refine EQ.blockHit ?_
          refine EQ.code ?_
          refine WC.seq ?_
          refine WC.region ?_
          first | (refine WL.p (.none rfl) rfl (OpP.loadB rfl ty_32 (by repeat (first | assumption | exact List.mem_cons_self | exact List.mem_of_getElem? (by assumption) | exact set_mem (by first | assumption | exact set_hit (by assumption)) | apply List.mem_cons_of_mem | apply List.mem_append_right)) (by rfl)) ?_) | (refine WL.p (.none rfl) rfl (OpP.loadW rfl ty_32 (by repeat (first | assumption | exact List.mem_cons_self | exact List.mem_of_getElem? (by assumption) | exact set_mem (by first | assumption | exact set_hit (by assumption)) | apply List.mem_cons_of_mem | apply List.mem_append_right)) (by first | rfl | (simp [spl_length, hst, outB_length]; done) | (simp [spl_length, hst, outB_length]; omega))) ?_)
          first | (refine WL.s (.none rfl) rfl (OpS.storeAll rfl rfl ty_32 (by repeat (first | assumption | exact at0 | exact set_hit (by first | assumption | exact set_hit (by assumption)) | apply ats)) (by rfl) (by rfl) (by rfl) (by rfl)) ?_) | (refine WL.s (.none rfl) rfl (OpS.store rfl rfl ty_32 (by repeat (first | assumption | exact at0 | exact set_hit (by first | assumption | exact set_hit (by assumption)) | apply ats)) (by rfl) (by first | rfl | (simp [spl_length, hst, outB_length]; done) | (simp [spl_length, hst, outB_length]; omega)) (by first | rfl | exact iv_one _ _ | (simp [Value.oneCell']; done)) (by first | rfl | (refine Nat.ble_eq_true_of_le ?_; simp [spl_length, hst, outB_length]; done) | (refine Nat.ble_eq_true_of_le ?_; simp [spl_length, hst, outB_length]; omega))) ?_)
          refine WL.p (.none rfl) rfl (OpP.assign rfl) ?_
          refine WL.nil ?_
          refine EQ.sub ((Sub.cons (i := 2) rfl (Sub.cons (i := 3) rfl (Sub.nil _)))) ?_
          refine EQ.code ?_
          refine WC.ret ?_
          refine EQ.finD (H' := (g, shaO [s0, s1, s2, s3, s4, s5, s6, s7] la rl.length lc n) :: (segL ++ H)) (res2 rfl (.cellW rfl ty_32 (by repeat (first | assumption | exact List.mem_cons_self | exact List.mem_of_getElem? (by assumption) | exact set_mem (by first | assumption | exact set_hit (by assumption)) | apply List.mem_cons_of_mem | apply List.mem_append_right)) (by first | rfl | (simp [spl_length, hst, outB_length]; done) | (simp [spl_length, hst, outB_length]; omega))) (.tmp rfl)) (by intro _ h; first | exact h | exact h.drop | exact h.drop.drop | exact h.drop.drop.drop | exact h.drop.drop.drop.drop | exact h.drop.drop.drop.drop.drop | exact h.drop.drop.drop.drop.drop.drop | exact h.drop_mid) ?_
          obtain rfl : i = 8 := by omega
          refine ⟨?_, rfl⟩
          have e1 : (Sha.outB (Sha.stK [s0, s1, s2, s3, s4, s5, s6, s7] (Sha.padded rl n) ((Sha.padded rl n).length / 64))).take (4 * 8) ++ (List.replicate 32 (0 : Int)).drop (4 * 8) = Sha.outB (Sha.stK [s0, s1, s2, s3, s4, s5, s6, s7] (Sha.padded rl n) ((Sha.padded rl n).length / 64)) := by rw [List.take_of_length_le (by simp [outB_length]), List.drop_of_length_le (by simp)]; simp
          rw [e1, spl_all _ _ (by simp [outB_length])]
          rfl

end Go.Proofs.Ytmeimjpjelmchaa
