/- Bm: walks of functions of the program, each over the rules of Sx. No conditions but those in the theorems' heads. -/
import Derived.Test.YtmeimjpjelmchaaBits
import Derived.Test.YtmeimjpjelmchaaProg
set_option linter.unusedVariables false
set_option linter.unusedSimpArgs false
namespace Go.Proofs.Ytmeimjpjelmchaa
open Go.RowKit Go.Sx
namespace Bm
theorem bld_38 : bldS Try.prog 38 = some ([(0, 1), (1, 1)], [.int .i64 0, .int .u64 0]) := by kernel_rfl
theorem fld_38_0 : fldI Try.prog 38 0 = some (0, false, 1) := by kernel_rfl
theorem fld_38_1 : fldI Try.prog 38 1 = some (1, false, 1) := by kernel_rfl
theorem k_44 : Cal Try.prog 44 := ⟨_, _, Try.func44, by kernel_rfl, rfl⟩
theorem k_60 : Cal Try.prog 60 := ⟨_, _, Try.func60, by kernel_rfl, rfl⟩
theorem k_65 : Cal Try.prog 65 := ⟨_, _, Try.func65, by kernel_rfl, rfl⟩
theorem sl_60 : slI Try.prog 60 = some (3, 1, 8) := by kernel_rfl
theorem ty_22 : tyI Try.prog 22 = some (false, 1) := by kernel_rfl
theorem ty_3 : tyI Try.prog 3 = some (false, 1) := by kernel_rfl
theorem ty_38 : tyI Try.prog 38 = some (true, 2) := by kernel_rfl
theorem z_38 : zI Try.prog 38 = some [.int .i64 0, .int .u64 0] := by kernel_rfl
end Bm
open Bm

theorem u64_wrap_in {n : Int} (h : 0 ≤ n) (h2 : n < 18446744073709551616) : IntKind.u64.wrap n = n := IntWalk.u64_in n ⟨h, by omega⟩
theorem all_val {n : Int} (h0 : 0 ≤ n) (h1 : n ≤ 64) (h2 : ¬ n = 64) : Value.int .u64 (IntKind.u64.wrap (IntKind.u64.wrap (1 * 2 ^ min n.toNat 64) - 1)) = .int .u64 (mAll n) := by
  have hb := mAll_bd n h0 h1
  unfold mAll at *
  have e : min n.toNat 64 = n.toNat := by omega
  have h3 : (2 : Int) ^ n.toNat ≤ 2 ^ 63 := by
    have : 2 ^ n.toNat ≤ 2 ^ 63 := Nat.pow_le_pow_right (by omega) (by omega)
    exact_mod_cast this
  have h4 : (2 : Int) ^ 63 = 9223372036854775808 := by decide
  rw [e, Int.one_mul, u64_wrap_in (n := 2 ^ n.toNat) (by omega) (by omega), u64_wrap_in (by omega) (by omega)]

set_option maxRecDepth 100000 in
theorem all_c {W0 : World} {H : Hp} {n b : Int} (h0 : 0 ≤ n) (h1 : n ≤ 64) : CxD Try.prog W0 65 #[mv n b] H (.int .u64 (mAll n)) H := by
  refine enter Try.func65 rfl Try.ntmps65 rfl ?_
  refine WC.seq ?_
  refine WC.region ?_
  refine WL.box rfl rfl rfl (fun b1 => ?_)
  refine WL.p (.none rfl) rfl (OpP.assign rfl) ?_
  refine WL.nil ?_
  refine EQ.sub ((Sub.cons (i := 1) rfl (Sub.cons (i := 2) rfl (Sub.nil _)))) ?_
  refine EQ.code ?_
  refine WC.seq ?_
  refine WC.seq ?_
  refine WC.region ?_
  refine WL.p (.none rfl) rfl (OpP.fieldAddr rfl fld_38_0) ?_
  refine WL.p (.none rfl) rfl (OpP.load rfl ty_3 (Rd.own (by repeat (first | assumption | exact List.mem_cons_self | exact List.mem_of_getElem? (by assumption) | exact set_mem (by first | assumption | exact set_hit (by assumption)) | apply List.mem_cons_of_mem | apply List.mem_append_right)) (by rfl))) ?_
  refine WL.p (.none rfl) rfl (OpP.eqlI rfl rfl) ?_
  refine WL.nil ?_
  refine EQ.sub ((Sub.cons (i := 1) rfl (Sub.cons (i := 2) rfl (Sub.cons (i := 5) rfl (Sub.nil _))))) ?_
  refine EQ.code ?_
  refine WC.cond rfl (fun hc0 => ?_) (fun hc0 => ?_)
  · -- cond 0 t
    (try simp only [decide_eq_true_eq, decide_eq_false_iff_not, Bool.not_eq_true', Bool.not_eq_false', Bool.or_eq_true, Bool.and_eq_true, Bool.or_eq_false_iff, Bool.and_eq_false_imp] at hc0)
    refine WC.seq ?_
    refine WC.region ?_
    refine WL.p (.none rfl) rfl (OpP.assign rfl) ?_
    refine WL.nil ?_
    refine EQ.sub ((Sub.cons (i := 1) rfl (Sub.cons (i := 2) rfl (Sub.nil _)))) ?_
    refine EQ.code ?_
    refine WC.ret ?_
    refine EQ.thenR ?_
    refine EQ.finD (H' := H) (res1 rfl (.tmp rfl)) (by intro _ h; first | exact h | exact h.drop | exact h.drop.drop | exact h.drop.drop.drop | exact h.drop.drop.drop.drop | exact h.drop.drop.drop.drop.drop | exact h.drop.drop.drop.drop.drop.drop | exact h.drop_mid) ?_
    exact ⟨by subst hc0; rfl, rfl⟩
  · -- cond 0 f
    (try simp only [decide_eq_true_eq, decide_eq_false_iff_not, Bool.not_eq_true', Bool.not_eq_false', Bool.or_eq_true, Bool.and_eq_true, Bool.or_eq_false_iff, Bool.and_eq_false_imp] at hc0)
    refine WC.skip ?_
    refine EQ.code ?_
    refine WC.seq ?_
    refine WC.region ?_
    refine WL.p (.none rfl) rfl (OpP.fieldAddr rfl fld_38_0) ?_
    refine WL.p (.none rfl) rfl (OpP.load rfl ty_3 (Rd.own (by repeat (first | assumption | exact List.mem_cons_self | exact List.mem_of_getElem? (by assumption) | exact set_mem (by first | assumption | exact set_hit (by assumption)) | apply List.mem_cons_of_mem | apply List.mem_append_right)) (by rfl))) ?_
    refine WL.p (.none rfl) rfl (OpP.shl rfl rfl (by omega)) ?_
    refine WL.p (.none rfl) rfl (OpP.sub rfl rfl) ?_
    refine WL.p (.none rfl) rfl (OpP.assign rfl) ?_
    refine WL.nil ?_
    refine EQ.sub ((Sub.cons (i := 2) rfl (Sub.nil _))) ?_
    refine EQ.code ?_
    refine WC.ret ?_
    refine EQ.finD (H' := H) (res1 rfl (.tmp rfl)) (by intro _ h; first | exact h | exact h.drop | exact h.drop.drop | exact h.drop.drop.drop | exact h.drop.drop.drop.drop | exact h.drop.drop.drop.drop.drop | exact h.drop.drop.drop.drop.drop.drop | exact h.drop_mid) ?_
    exact ⟨by rw [show IntKind.u64.bits = 64 from rfl]; exact all_val h0 h1 hc0, rfl⟩

theorem right_val {n b : Int} (hb : 0 ≤ b) (hb2 : b < 18446744073709551616) : Value.bool (decide (n ≥ 0) && decide (n ≤ 64) && decide (Go.bits .andNot .u64 b (mAll n) = 0)) = .bool (mRight n b) := by
  unfold mRight
  by_cases h0 : 0 ≤ n <;> by_cases h1 : n ≤ 64
  · rw [mRight_eq hb hb2 h0 h1]; simp [h0, h1]
  all_goals simp [h0, h1]

set_option maxRecDepth 100000 in
theorem Right_c {W0 : World} {H : Hp} {n b : Int} (hb : 0 ≤ b) (hb2 : b < 18446744073709551616) : CxD Try.prog W0 60 #[mv n b] H (.bool (mRight n b)) H := by
  refine enter Try.func60 rfl Try.ntmps60 rfl ?_
  refine WC.seq ?_
  refine WC.region ?_
  refine WL.box rfl rfl rfl (fun b1 => ?_)
  refine WL.p (.none rfl) rfl (OpP.assign rfl) ?_
  refine WL.nil ?_
  refine EQ.sub ((Sub.cons (i := 1) rfl (Sub.cons (i := 2) rfl (Sub.nil _)))) ?_
  refine EQ.code ?_
  refine WC.seq ?_
  refine WC.draw (by kernel_rfl) (by kernel_rfl) ?_
  refine WQ.p (.none rfl) rfl (OpP.fieldAddr rfl fld_38_0) ?_
  refine WQ.p (.none rfl) rfl (OpP.load rfl ty_3 (Rd.own (by repeat (first | assumption | exact List.mem_cons_self | exact List.mem_of_getElem? (by assumption) | exact set_mem (by first | assumption | exact set_hit (by assumption)) | apply List.mem_cons_of_mem | apply List.mem_append_right)) (by rfl))) ?_
  refine WQ.p (.none rfl) rfl (OpP.geq rfl rfl) ?_
  refine WQ.p (.none rfl) rfl (OpP.move rfl) ?_
  refine WQ.g (.bool rfl rfl rfl) rfl (fun hg => OpP.fieldAddr rfl fld_38_0) ?_
  refine WQ.g (.bool rfl rfl rfl) rfl (fun hg => OpP.load (gk hg rfl) ty_3 (Rd.own (by repeat (first | assumption | exact List.mem_cons_self | exact List.mem_of_getElem? (by assumption) | exact set_mem (by first | assumption | exact set_hit (by assumption)) | apply List.mem_cons_of_mem | apply List.mem_append_right)) (by rfl))) ?_
  refine WQ.g (.bool rfl rfl rfl) rfl (fun hg => OpP.leq (gk hg rfl) rfl) ?_
  refine WQ.p (.none rfl) rfl (OpP.pand rfl rfl rfl) ?_
  refine WQ.p (.none rfl) rfl (OpP.move rfl) ?_
  refine WQ.g (.bool rfl rfl rfl) rfl (fun hg => OpP.fieldAddr rfl fld_38_1) ?_
  refine WQ.g (.bool rfl rfl rfl) rfl (fun hg => OpP.load (gk hg rfl) ty_22 (Rd.own (by repeat (first | assumption | exact List.mem_cons_self | exact List.mem_of_getElem? (by assumption) | exact set_mem (by first | assumption | exact set_hit (by assumption)) | apply List.mem_cons_of_mem | apply List.mem_append_right)) (by rfl))) ?_
  refine WQ.g (.bool rfl rfl rfl) rfl (fun hg => OpP.loadB rfl ty_38 (by repeat (first | assumption | exact List.mem_cons_self | exact List.mem_of_getElem? (by assumption) | exact set_mem (by first | assumption | exact set_hit (by assumption)) | apply List.mem_cons_of_mem | apply List.mem_append_right)) (by rfl)) ?_
  refine WQ.gcall rfl (.bool rfl rfl rfl) rfl k_65 (fun hg => kops1 (gk hg rfl)) (fun hg => all_c (by simp at hg; omega) (by simp at hg; omega)) ?_
  refine WQ.g (.bool rfl rfl rfl) rfl (fun hg => OpP.bits (gk hg rfl) (gk hg rfl) (by simp)) ?_
  refine WQ.g (.bool rfl rfl rfl) rfl (fun hg => OpP.eqlI (gk hg rfl) rfl) ?_
  refine WQ.p (.none rfl) rfl (OpP.pand rfl rfl rfl) ?_
  refine WQ.p (.none rfl) rfl (OpP.assign rfl) ?_
  refine WQ.done ?_
  refine EQ.sub ((Sub.cons (i := 2) rfl (Sub.nil _))) ?_
  refine EQ.code ?_
  refine WC.ret ?_
  refine EQ.finD (H' := H) (res1 rfl (.tmp rfl)) (by intro _ h; first | exact h | exact h.drop | exact h.drop.drop | exact h.drop.drop.drop | exact h.drop.drop.drop.drop | exact h.drop.drop.drop.drop.drop | exact h.drop.drop.drop.drop.drop.drop | exact h.drop_mid) ?_
  exact ⟨right_val hb hb2, rfl⟩

theorem has_val {n b i : Int} (hb : 0 ≤ b) (hb2 : b < 18446744073709551616) : Value.bool (mRight n b && decide (i ≥ 0) && decide (i < n) && decide (Go.bits .and .u64 (b.fdiv (2 ^ min i.toNat IntKind.u64.bits)) 1 = 1)) = .bool (mHas n b i) := by
  unfold mHas
  cases hr : mRight n b
  · simp
  · by_cases h0 : 0 ≤ i <;> by_cases h1 : i < n <;> simp [h0, h1]
    unfold mRight at hr
    simp only [Bool.and_eq_true, decide_eq_true_eq] at hr
    have e : min i.toNat IntKind.u64.bits = i.toNat := by rw [show IntKind.u64.bits = 64 from rfl]; omega
    have hp : (0 : Int) < 2 ^ i.toNat := Int.pow_pos (by omega)
    have hd : b.fdiv (2 ^ i.toNat) = b / 2 ^ i.toNat := Int.fdiv_eq_ediv_of_nonneg _ (by omega)
    have h3 : 0 ≤ b / 2 ^ i.toNat := Int.ediv_nonneg hb (by omega)
    have h4 : b / 2 ^ i.toNat ≤ b := Int.ediv_le_self _ hb
    rw [e, hd, u64_and _ _ h3 (by omega) (by omega) (by omega)]
    unfold mBit
    have h5 : (b / 2 ^ i.toNat).toNat &&& (1 : Int).toNat = (b / 2 ^ i.toNat).toNat % 2 := by
      rw [show (1 : Int).toNat = 1 from rfl, Nat.and_one_is_mod]
    rw [h5]
    have : (((b / 2 ^ i.toNat).toNat % 2 : Nat) : Int) = b / 2 ^ i.toNat % 2 := by omega
    rw [this]
    by_cases h : b / 2 ^ i.toNat % 2 = 1 <;> simp [h]

set_option maxRecDepth 100000 in
theorem Has_c {W0 : World} {H : Hp} {n b i : Int} (hb : 0 ≤ b) (hb2 : b < 18446744073709551616) (hi1 : -9223372036854775808 ≤ i) (hi2 : i ≤ 9223372036854775807) : CxD Try.prog W0 44 #[mv n b, .int .i64 i] H (.bool (mHas n b i)) H := by
  refine enter Try.func44 rfl Try.ntmps44 rfl ?_
  refine WC.seq ?_
  refine WC.region ?_
  refine WL.box rfl rfl rfl (fun b2 => ?_)
  refine WL.p (.none rfl) rfl (OpP.assign rfl) ?_
  refine WL.nil ?_
  refine EQ.sub ((Sub.cons (i := 1) rfl (Sub.cons (i := 2) rfl (Sub.cons (i := 4) rfl (Sub.nil _))))) ?_
  refine EQ.code ?_
  refine WC.seq ?_
  refine WC.region ?_
  refine WL.p (.none rfl) rfl (OpP.loadB rfl ty_38 (by repeat (first | assumption | exact List.mem_cons_self | exact List.mem_of_getElem? (by assumption) | exact set_mem (by first | assumption | exact set_hit (by assumption)) | apply List.mem_cons_of_mem | apply List.mem_append_right)) (by rfl)) ?_
  refine WL.callD rfl (.none rfl) rfl k_60 rfl (Right_c hb hb2) ?_
  refine WL.p (.none rfl) rfl (OpP.move rfl) ?_
  refine WL.g (.bool rfl rfl rfl) rfl (fun hg => OpP.move rfl) ?_
  refine WL.g (.bool rfl rfl rfl) rfl (fun hg => OpP.geq (gk hg rfl) rfl) ?_
  refine WL.p (.none rfl) rfl (OpP.pand rfl rfl rfl) ?_
  refine WL.p (.none rfl) rfl (OpP.move rfl) ?_
  refine WL.g (.bool rfl rfl rfl) rfl (fun hg => OpP.move rfl) ?_
  refine WL.g (.bool rfl rfl rfl) rfl (fun hg => OpP.fieldAddr rfl fld_38_0) ?_
  refine WL.g (.bool rfl rfl rfl) rfl (fun hg => OpP.load (gk hg rfl) ty_3 (Rd.own (by repeat (first | assumption | exact List.mem_cons_self | exact List.mem_of_getElem? (by assumption) | exact set_mem (by first | assumption | exact set_hit (by assumption)) | apply List.mem_cons_of_mem | apply List.mem_append_right)) (by rfl))) ?_
  refine WL.g (.bool rfl rfl rfl) rfl (fun hg => OpP.lss (gk hg rfl) (gk hg rfl)) ?_
  refine WL.p (.none rfl) rfl (OpP.pand rfl rfl rfl) ?_
  refine WL.p (.none rfl) rfl (OpP.move rfl) ?_
  refine WL.g (.bool rfl rfl rfl) rfl (fun hg => OpP.fieldAddr rfl fld_38_1) ?_
  refine WL.g (.bool rfl rfl rfl) rfl (fun hg => OpP.load (gk hg rfl) ty_22 (Rd.own (by repeat (first | assumption | exact List.mem_cons_self | exact List.mem_of_getElem? (by assumption) | exact set_mem (by first | assumption | exact set_hit (by assumption)) | apply List.mem_cons_of_mem | apply List.mem_append_right)) (by rfl))) ?_
  refine WL.g (.bool rfl rfl rfl) rfl (fun hg => OpP.move rfl) ?_
  refine WL.g (.bool rfl rfl rfl) rfl (fun hg => OpP.shr (gk hg rfl) (gk hg rfl) (by (try simp at hg); omega)) ?_
  refine WL.g (.bool rfl rfl rfl) rfl (fun hg => OpP.bits (gk hg rfl) rfl (by simp)) ?_
  refine WL.g (.bool rfl rfl rfl) rfl (fun hg => OpP.eqlI (gk hg rfl) rfl) ?_
  refine WL.p (.none rfl) rfl (OpP.pand rfl rfl rfl) ?_
  refine WL.p (.none rfl) rfl (OpP.assign rfl) ?_
  refine WL.nil ?_
  refine EQ.sub ((Sub.cons (i := 4) rfl (Sub.nil _))) ?_
  refine EQ.code ?_
  refine WC.ret ?_
  refine EQ.finD (H' := H) (res1 rfl (.tmp rfl)) (by intro _ h; first | exact h | exact h.drop | exact h.drop.drop | exact h.drop.drop.drop | exact h.drop.drop.drop.drop | exact h.drop.drop.drop.drop.drop | exact h.drop.drop.drop.drop.drop.drop | exact h.drop_mid) ?_
  exact ⟨has_val hb hb2, rfl⟩

set_option maxRecDepth 100000 in
theorem New_c {W0 : World} {H : Hp} {n : Int} : CxD Try.prog W0 45 #[.int .i64 n] H (.tuple #[if 0 ≤ n ∧ n ≤ 64 then mv n 0 else mv 0 0, .int .i64 (if 0 ≤ n ∧ n ≤ 64 then 0 else 1)]) H := by
  refine enter Try.func45 rfl Try.ntmps45 rfl ?_
  refine WC.seq ?_
  refine WC.region ?_
  refine WL.allocX z_38 rfl (fun b2 => ?_)
  refine WL.p (.none rfl) rfl (OpP.assign rfl) ?_
  refine WL.nil ?_
  refine EQ.sub ((Sub.cons (i := 0) rfl (Sub.cons (i := 2) rfl (Sub.cons (i := 3) rfl (Sub.nil _))))) ?_
  refine EQ.code ?_
  refine WC.seq ?_
  refine WC.seq ?_
  refine WC.region ?_
  refine WL.p (.none rfl) rfl (OpP.move rfl) ?_
  refine WL.p (.none rfl) rfl (OpP.lss rfl rfl) ?_
  refine WL.p (.none rfl) rfl (OpP.move rfl) ?_
  refine WL.g (.bool rfl rfl rfl) rfl (fun hg => OpP.move rfl) ?_
  refine WL.g (.bool rfl rfl rfl) rfl (fun hg => OpP.gtr (gk hg rfl) rfl) ?_
  refine WL.p (.none rfl) rfl (OpP.por rfl rfl rfl) ?_
  refine WL.nil ?_
  refine EQ.sub ((Sub.cons (i := 0) rfl (Sub.cons (i := 2) rfl (Sub.cons (i := 3) rfl (Sub.cons (i := 9) rfl (Sub.nil _)))))) ?_
  refine EQ.code ?_
  refine WC.cond rfl (fun hc0 => ?_) (fun hc0 => ?_)
  · -- cond 0 t
    (try simp only [decide_eq_true_eq, decide_eq_false_iff_not, Bool.not_eq_true', Bool.not_eq_false', Bool.or_eq_true, Bool.and_eq_true, Bool.or_eq_false_iff, Bool.and_eq_false_imp] at hc0)
    refine WC.seq ?_
    refine WC.region ?_
    refine WL.p (.none rfl) rfl (OpP.buildS bld_38 kI0 (by rfl)) ?_
    first | (refine WL.s (.none rfl) rfl (OpS.storeAll rfl rfl ty_38 (by repeat (first | assumption | exact at0 | exact set_hit (by first | assumption | exact set_hit (by assumption)) | apply ats)) (by rfl) (by rfl) (by rfl) (by rfl)) ?_) | (refine WL.s (.none rfl) rfl (OpS.store rfl rfl ty_38 (by repeat (first | assumption | exact at0 | exact set_hit (by first | assumption | exact set_hit (by assumption)) | apply ats)) (by rfl) (by rfl) (by rfl) (by rfl)) ?_)
    refine WL.p (.none rfl) rfl (OpP.assign rfl) ?_
    refine WL.nil ?_
    refine EQ.sub ((Sub.cons (i := 0) rfl (Sub.cons (i := 2) rfl (Sub.cons (i := 3) rfl (Sub.nil _))))) ?_
    refine EQ.code ?_
    refine WC.ret ?_
    refine EQ.thenR ?_
    refine EQ.finD (H' := H) (res2 rfl (.cellB rfl ty_38 (by repeat (first | assumption | exact List.mem_cons_self | exact List.mem_of_getElem? (by assumption) | exact set_mem (by first | assumption | exact set_hit (by assumption)) | apply List.mem_cons_of_mem | apply List.mem_append_right)) (by rfl)) (.tmp rfl)) (by intro _ h; first | exact h | exact h.drop | exact h.drop.drop | exact h.drop.drop.drop | exact h.drop.drop.drop.drop | exact h.drop.drop.drop.drop.drop | exact h.drop.drop.drop.drop.drop.drop | exact h.drop_mid) ?_
    exact ⟨by rw [if_neg (by omega), if_neg (by omega)]; rfl, rfl⟩
  · -- cond 0 f
    (try simp only [decide_eq_true_eq, decide_eq_false_iff_not, Bool.not_eq_true', Bool.not_eq_false', Bool.or_eq_true, Bool.and_eq_true, Bool.or_eq_false_iff, Bool.and_eq_false_imp] at hc0)
    refine WC.skip ?_
    refine EQ.code ?_
    refine WC.seq ?_
    refine WC.region ?_
    refine WL.p (.none rfl) rfl (OpP.move rfl) ?_
    refine WL.p (.none rfl) rfl (OpP.buildS bld_38 (kI rfl kI0) (by rfl)) ?_
    first | (refine WL.s (.none rfl) rfl (OpS.storeAll rfl rfl ty_38 (by repeat (first | assumption | exact at0 | exact set_hit (by first | assumption | exact set_hit (by assumption)) | apply ats)) (by rfl) (by rfl) (by rfl) (by rfl)) ?_) | (refine WL.s (.none rfl) rfl (OpS.store rfl rfl ty_38 (by repeat (first | assumption | exact at0 | exact set_hit (by first | assumption | exact set_hit (by assumption)) | apply ats)) (by rfl) (by rfl) (by rfl) (by rfl)) ?_)
    refine WL.p (.none rfl) rfl (OpP.assign rfl) ?_
    refine WL.nil ?_
    refine EQ.sub ((Sub.cons (i := 2) rfl (Sub.cons (i := 3) rfl (Sub.nil _)))) ?_
    refine EQ.code ?_
    refine WC.ret ?_
    refine EQ.finD (H' := H) (res2 rfl (.cellB rfl ty_38 (by repeat (first | assumption | exact List.mem_cons_self | exact List.mem_of_getElem? (by assumption) | exact set_mem (by first | assumption | exact set_hit (by assumption)) | apply List.mem_cons_of_mem | apply List.mem_append_right)) (by rfl)) (.tmp rfl)) (by intro _ h; first | exact h | exact h.drop | exact h.drop.drop | exact h.drop.drop.drop | exact h.drop.drop.drop.drop | exact h.drop.drop.drop.drop.drop | exact h.drop.drop.drop.drop.drop.drop | exact h.drop_mid) ?_
    exact ⟨by rw [if_pos (by omega), if_pos (by omega)]; rfl, rfl⟩

theorem eqlM (a b c d : Int) (w : World) : (binOp .eql 38 (.agg #[.int .i64 a, .int .u64 b]) (.agg #[.int .i64 c, .int .u64 d])).run Try.prog w = .ok (.bool (decide (a = c) && decide (b = d))) w := by
  have h38 := Try.underlying38
  have h3 := Try.underlying3
  have h22 := Try.underlying22
  have hs : Try.prog.stoodInHeld 38 = false := by kernel_rfl
  have hf : Try.prog.fieldsOf 38 = #[⟨ "N", 3, 0, false, "", "", 0⟩, ⟨ "Bits", 22, 1, false, "", "", 8⟩] := by kernel_rfl
  rw [run_eql_struct, run_equalIn_struct w 9999 38 _ _ (by rw [hf]; exact h38) hs]
  have q3 := fun (a b : Int) (w : World) => run_equalIn_int (P := Try.prog) w 9998 3 .i64 .i64 a b h3
  have q22 := fun (a b : Int) (w : World) => run_equalIn_int (P := Try.prog) w 9998 22 .u64 .u64 a b h22
  simp [hf, Op.eqFields, part, isAgg, underlying, h3, h22, q3, q22]
  by_cases h : a = c <;> by_cases h2 : b = d <;> simp [h, h2]
theorem _root_.Go.Sx.OpP.eqlAgg_38 {W0 : World} {n : Nat} {kn : Kn} {H : Hp} {d ty pos aft g} {t' : TypeId} {x y : Operand} {a b c e : Int} (hx : kop kn x = some (mv a b)) (hy : kop kn y = some (mv c e)) :
    OpP Try.prog W0 n kn H ⟨d, .binOp .eql 38 x y t', ty, pos, aft, g⟩ (.bool (decide (a = c) && decide (b = e))) :=
  OpP.binR hx hy (eqGuard_agg _ _ _ _ _ _ (by kernel_rfl)) (fun w => eqlM a b c e w)

set_option maxRecDepth 100000 in
theorem Full_c {W0 : World} {H : Hp} {n b : Int} (hb : 0 ≤ b) (hb2 : b < 18446744073709551616) : CxD Try.prog W0 52 #[mv n b] H (.bool (mRight n b && decide (b = mAll n))) H := by
  refine enter Try.func52 rfl Try.ntmps52 rfl ?_
  refine WC.seq ?_
  refine WC.region ?_
  refine WL.box rfl rfl rfl (fun b1 => ?_)
  refine WL.p (.none rfl) rfl (OpP.assign rfl) ?_
  refine WL.nil ?_
  refine EQ.sub ((Sub.cons (i := 1) rfl (Sub.cons (i := 2) rfl (Sub.nil _)))) ?_
  refine EQ.code ?_
  refine WC.seq ?_
  refine WC.draw (by kernel_rfl) (by kernel_rfl) ?_
  refine WQ.p (.none rfl) rfl (OpP.loadB rfl ty_38 (by repeat (first | assumption | exact List.mem_cons_self | exact List.mem_of_getElem? (by assumption) | exact set_mem (by first | assumption | exact set_hit (by assumption)) | apply List.mem_cons_of_mem | apply List.mem_append_right)) (by rfl)) ?_
  refine WQ.callD rfl (.none rfl) rfl k_60 rfl (Right_c hb hb2) ?_
  refine WQ.p (.none rfl) rfl (OpP.move rfl) ?_
  refine WQ.g (.bool rfl rfl rfl) rfl (fun hg => OpP.loadB rfl ty_38 (by repeat (first | assumption | exact List.mem_cons_self | exact List.mem_of_getElem? (by assumption) | exact set_mem (by first | assumption | exact set_hit (by assumption)) | apply List.mem_cons_of_mem | apply List.mem_append_right)) (by rfl)) ?_
  refine WQ.g (.bool rfl rfl rfl) rfl (fun hg => OpP.fieldAddr rfl fld_38_0) ?_
  refine WQ.g (.bool rfl rfl rfl) rfl (fun hg => OpP.load (gk hg rfl) ty_3 (Rd.own (by repeat (first | assumption | exact List.mem_cons_self | exact List.mem_of_getElem? (by assumption) | exact set_mem (by first | assumption | exact set_hit (by assumption)) | apply List.mem_cons_of_mem | apply List.mem_append_right)) (by rfl))) ?_
  refine WQ.g (.bool rfl rfl rfl) rfl (fun hg => OpP.loadB rfl ty_38 (by repeat (first | assumption | exact List.mem_cons_self | exact List.mem_of_getElem? (by assumption) | exact set_mem (by first | assumption | exact set_hit (by assumption)) | apply List.mem_cons_of_mem | apply List.mem_append_right)) (by rfl)) ?_
  refine WQ.gcall rfl (.bool rfl rfl rfl) rfl k_65 (fun hg => kops1 (gk hg rfl)) (fun hg => all_c (by simp [mRight] at hg; omega) (by simp [mRight] at hg; omega)) ?_
  refine WQ.g (.bool rfl rfl rfl) rfl (fun hg => OpP.buildS bld_38 (kI (gk hg rfl) (kI (gk hg rfl) kI0)) (by rfl)) ?_
  refine WQ.g (.bool rfl rfl rfl) rfl (fun hg => OpP.eqlAgg_38 (gk hg rfl) (gk hg rfl)) ?_
  refine WQ.p (.none rfl) rfl (OpP.pand rfl rfl rfl) ?_
  refine WQ.p (.none rfl) rfl (OpP.assign rfl) ?_
  refine WQ.done ?_
  refine EQ.sub ((Sub.cons (i := 2) rfl (Sub.nil _))) ?_
  refine EQ.code ?_
  refine WC.ret ?_
  refine EQ.finD (H' := H) (res1 rfl (.tmp rfl)) (by intro _ h; first | exact h | exact h.drop | exact h.drop.drop | exact h.drop.drop.drop | exact h.drop.drop.drop.drop | exact h.drop.drop.drop.drop.drop | exact h.drop.drop.drop.drop.drop.drop | exact h.drop_mid) ?_
  exact ⟨by simp, rfl⟩

theorem with_val {n b i : Int} (hb : 0 ≤ b) (hb2 : b < 18446744073709551616) (hr : mRight n b = true) (hi1 : 0 ≤ i) (hi2 : i < n) : b + (if mBit b i then 0 else 2 ^ i.toNat) = Go.bits .or .u64 b (IntKind.u64.wrap (1 * 2 ^ min i.toNat IntKind.u64.bits)) := by
  unfold mRight at hr
  simp only [Bool.and_eq_true, decide_eq_true_eq] at hr
  have e : min i.toNat IntKind.u64.bits = i.toNat := by rw [show IntKind.u64.bits = 64 from rfl]; omega
  have h3 : (2 : Int) ^ i.toNat ≤ 2 ^ 63 := by
    have : 2 ^ i.toNat ≤ 2 ^ 63 := Nat.pow_le_pow_right (by omega) (by omega)
    exact_mod_cast this
  have h4 : (2 : Int) ^ 63 = 9223372036854775808 := by decide
  have hp : (0 : Int) < 2 ^ i.toNat := Int.pow_pos (by omega)
  have hc : ((2 ^ i.toNat : Nat) : Int) = (2 : Int) ^ i.toNat := by push_cast; rfl
  rw [e, Int.one_mul, u64_wrap_in (by omega) (by omega), u64_or b _ hb hb2 (by omega) (by omega)]
  have h5 : ((2 : Int) ^ i.toNat).toNat = 2 ^ i.toNat := by omega
  rw [h5, or_bit]
  obtain ⟨B, rfl⟩ := Int.eq_ofNat_of_zero_le hb
  unfold mBit
  have h6 : ((B : Int) / 2 ^ i.toNat % 2) = ((B / 2 ^ i.toNat % 2 : Nat) : Int) := by push_cast; rfl
  rw [h6, Int.toNat_natCast]
  by_cases h : B / 2 ^ i.toNat % 2 = 1
  · simp [h]
  · have : ¬ ((B / 2 ^ i.toNat % 2 : Nat) : Int) = 1 := by omega
    simp only [h, if_false]
    rw [if_neg (by simpa using this)]
    push_cast; rfl

set_option maxRecDepth 100000 in
theorem With_c {W0 : World} {H : Hp} {n b i : Int} (hb : 0 ≤ b) (hb2 : b < 18446744073709551616) (hr : mRight n b = true) (hi1 : 0 ≤ i) (hi2 : i < n) : CxD Try.prog W0 46 #[mv n b, .int .i64 i] H (.tuple #[mv n (b + (if mBit b i then 0 else 2 ^ i.toNat)), .int .i64 0]) H := by
  refine enter Try.func46 rfl Try.ntmps46 rfl ?_
  refine WC.seq ?_
  refine WC.region ?_
  refine WL.box rfl rfl rfl (fun b2 => ?_)
  refine WL.allocX z_38 rfl (fun b4 => ?_)
  refine WL.p (.none rfl) rfl (OpP.assign rfl) ?_
  refine WL.nil ?_
  refine EQ.sub ((Sub.cons (i := 1) rfl (Sub.cons (i := 2) rfl (Sub.cons (i := 4) rfl (Sub.cons (i := 5) rfl (Sub.nil _)))))) ?_
  refine EQ.code ?_
  refine WC.seq ?_
  refine WC.block ?_
  refine WC.seq ?_
  refine WC.region ?_
  refine WL.p (.none rfl) rfl (OpP.loadB rfl ty_38 (by repeat (first | assumption | exact List.mem_cons_self | exact List.mem_of_getElem? (by assumption) | exact set_mem (by first | assumption | exact set_hit (by assumption)) | apply List.mem_cons_of_mem | apply List.mem_append_right)) (by rfl)) ?_
  refine WL.callD rfl (.none rfl) rfl k_60 rfl (Right_c hb hb2) ?_
  refine WL.p (.none rfl) rfl (OpP.not rfl) ?_
  refine WL.p (.none rfl) rfl (OpP.assign rfl) ?_
  refine WL.nil ?_
  refine EQ.sub ((Sub.cons (i := 1) rfl (Sub.cons (i := 2) rfl (Sub.cons (i := 4) rfl (Sub.cons (i := 5) rfl (Sub.cons (i := 6) rfl (Sub.nil _))))))) ?_
  refine EQ.code ?_
  refine WC.cond rfl (fun hc0 => ?_) (fun hc0 => ?_)
  · -- cond 0 t
    (try simp only [decide_eq_true_eq, decide_eq_false_iff_not, Bool.not_eq_true', Bool.not_eq_false', Bool.or_eq_true, Bool.and_eq_true, Bool.or_eq_false_iff, Bool.and_eq_false_imp] at hc0)
    rw [hr] at hc0; cases hc0
  · -- cond 0 f
    (try simp only [decide_eq_true_eq, decide_eq_false_iff_not, Bool.not_eq_true', Bool.not_eq_false', Bool.or_eq_true, Bool.and_eq_true, Bool.or_eq_false_iff, Bool.and_eq_false_imp] at hc0)
    refine WC.seq ?_
    refine WC.region ?_
    refine WL.p (.none rfl) rfl (OpP.move rfl) ?_
    refine WL.p (.none rfl) rfl (OpP.lss rfl rfl) ?_
    refine WL.p (.none rfl) rfl (OpP.move rfl) ?_
    refine WL.g (.bool rfl rfl rfl) rfl (fun hg => OpP.move rfl) ?_
    refine WL.g (.bool rfl rfl rfl) rfl (fun hg => OpP.fieldAddr rfl fld_38_0) ?_
    refine WL.g (.bool rfl rfl rfl) rfl (fun hg => OpP.load (gk hg rfl) ty_3 (Rd.own (by repeat (first | assumption | exact List.mem_cons_self | exact List.mem_of_getElem? (by assumption) | exact set_mem (by first | assumption | exact set_hit (by assumption)) | apply List.mem_cons_of_mem | apply List.mem_append_right)) (by rfl))) ?_
    refine WL.g (.bool rfl rfl rfl) rfl (fun hg => OpP.geq (gk hg rfl) (gk hg rfl)) ?_
    refine WL.p (.none rfl) rfl (OpP.por rfl rfl rfl) ?_
    refine WL.p (.none rfl) rfl (OpP.assign rfl) ?_
    refine WL.nil ?_
    refine EQ.sub ((Sub.cons (i := 1) rfl (Sub.cons (i := 2) rfl (Sub.cons (i := 4) rfl (Sub.cons (i := 5) rfl (Sub.cons (i := 11) rfl (Sub.nil _))))))) ?_
    refine EQ.code ?_
    refine WC.cond rfl (fun hc1 => ?_) (fun hc1 => ?_)
    · -- cond 1 t
      (try simp only [decide_eq_true_eq, decide_eq_false_iff_not, Bool.not_eq_true', Bool.not_eq_false', Bool.or_eq_true, Bool.and_eq_true, Bool.or_eq_false_iff, Bool.and_eq_false_imp] at hc1)
      exfalso; omega
    · -- cond 1 f
      (try simp only [decide_eq_true_eq, decide_eq_false_iff_not, Bool.not_eq_true', Bool.not_eq_false', Bool.or_eq_true, Bool.and_eq_true, Bool.or_eq_false_iff, Bool.and_eq_false_imp] at hc1)
      refine WC.skip ?_
      refine EQ.blockN ?_
      refine EQ.code ?_
      refine WC.seq ?_
      refine WC.drawT 6 (by kernel_rfl) (by kernel_rfl) ?_
      refine WQ.p (.none rfl) rfl (OpP.fieldAddr rfl fld_38_1) ?_
      refine WQ.p (.none rfl) rfl (OpP.load rfl ty_22 (Rd.own (by repeat (first | assumption | exact List.mem_cons_self | exact List.mem_of_getElem? (by assumption) | exact set_mem (by first | assumption | exact set_hit (by assumption)) | apply List.mem_cons_of_mem | apply List.mem_append_right)) (by rfl))) ?_
      refine WQ.p (.none rfl) rfl (OpP.move rfl) ?_
      refine WQ.p (.none rfl) rfl (OpP.shl rfl rfl (by omega)) ?_
      refine WQ.p (.none rfl) rfl (OpP.bits rfl rfl (by simp)) ?_
      refine WQ.p (.none rfl) rfl (OpP.fieldAddr rfl fld_38_1) ?_
      refine WQ.tail ?_
      refine WL.s (.none rfl) rfl (OpS.store rfl rfl ty_22 (by repeat (first | assumption | exact at0 | exact set_hit (by first | assumption | exact set_hit (by assumption)) | apply ats)) (by rfl) (by rfl) (by rfl) (by rfl)) ?_
      refine WL.nil ?_
      refine EQ.sub ((Sub.cons (i := 2) rfl (Sub.cons (i := 4) rfl (Sub.cons (i := 5) rfl (Sub.nil _))))) ?_
      refine EQ.code ?_
      refine WC.seq ?_
      refine WC.region ?_
      refine WL.p (.none rfl) rfl (OpP.loadB rfl ty_38 (by repeat (first | assumption | exact List.mem_cons_self | exact List.mem_of_getElem? (by assumption) | exact set_mem (by first | assumption | exact set_hit (by assumption)) | apply List.mem_cons_of_mem | apply List.mem_append_right)) (by rfl)) ?_
      first | (refine WL.s (.none rfl) rfl (OpS.storeAll rfl rfl ty_38 (by repeat (first | assumption | exact at0 | exact set_hit (by first | assumption | exact set_hit (by assumption)) | apply ats)) (by rfl) (by rfl) (by rfl) (by rfl)) ?_) | (refine WL.s (.none rfl) rfl (OpS.store rfl rfl ty_38 (by repeat (first | assumption | exact at0 | exact set_hit (by first | assumption | exact set_hit (by assumption)) | apply ats)) (by rfl) (by rfl) (by rfl) (by rfl)) ?_)
      refine WL.p (.none rfl) rfl (OpP.assign rfl) ?_
      refine WL.nil ?_
      refine EQ.sub ((Sub.cons (i := 4) rfl (Sub.cons (i := 5) rfl (Sub.nil _)))) ?_
      refine EQ.code ?_
      refine WC.ret ?_
      refine EQ.finD (H' := H) (res2 rfl (.cellB rfl ty_38 (by repeat (first | assumption | exact List.mem_cons_self | exact List.mem_of_getElem? (by assumption) | exact set_mem (by first | assumption | exact set_hit (by assumption)) | apply List.mem_cons_of_mem | apply List.mem_append_right)) (by rfl)) (.tmp rfl)) (by intro _ h; first | exact h | exact h.drop | exact h.drop.drop | exact h.drop.drop.drop | exact h.drop.drop.drop.drop | exact h.drop.drop.drop.drop.drop | exact h.drop.drop.drop.drop.drop.drop | exact h.drop_mid) ?_
      exact ⟨by rw [with_val hb hb2 hr hi1 hi2]; rfl, rfl⟩

set_option maxRecDepth 100000 in
theorem Or_c {W0 : World} {H : Hp} {n b c : Int} (hb : 0 ≤ b) (hb2 : b < 18446744073709551616) (hcc1 : 0 ≤ c) (hcc2 : c < 18446744073709551616) (hr : mRight n b = true) (hr2 : mRight n c = true) : CxD Try.prog W0 51 #[mv n b, mv n c] H (.tuple #[mv n (Go.bits .or .u64 b c), .int .i64 0]) H := by
  refine enter Try.func51 rfl Try.ntmps51 rfl ?_
  refine WC.seq ?_
  refine WC.region ?_
  refine WL.box rfl rfl rfl (fun b2 => ?_)
  refine WL.box rfl rfl rfl (fun b3 => ?_)
  refine WL.allocX z_38 rfl (fun b4 => ?_)
  refine WL.p (.none rfl) rfl (OpP.assign rfl) ?_
  refine WL.nil ?_
  refine EQ.sub ((Sub.cons (i := 2) rfl (Sub.cons (i := 3) rfl (Sub.cons (i := 4) rfl (Sub.cons (i := 5) rfl (Sub.nil _)))))) ?_
  refine EQ.code ?_
  refine WC.seq ?_
  refine WC.block ?_
  refine WC.seq ?_
  refine WC.region ?_
  refine WL.p (.none rfl) rfl (OpP.loadB rfl ty_38 (by repeat (first | assumption | exact List.mem_cons_self | exact List.mem_of_getElem? (by assumption) | exact set_mem (by first | assumption | exact set_hit (by assumption)) | apply List.mem_cons_of_mem | apply List.mem_append_right)) (by rfl)) ?_
  refine WL.callD rfl (.none rfl) rfl k_60 rfl (Right_c hb hb2) ?_
  refine WL.p (.none rfl) rfl (OpP.not rfl) ?_
  refine WL.p (.none rfl) rfl (OpP.move rfl) ?_
  refine WL.g (.bool rfl rfl rfl) rfl (fun hg => OpP.loadB rfl ty_38 (by repeat (first | assumption | exact List.mem_cons_self | exact List.mem_of_getElem? (by assumption) | exact set_mem (by first | assumption | exact set_hit (by assumption)) | apply List.mem_cons_of_mem | apply List.mem_append_right)) (by rfl)) ?_
  refine WL.gcall rfl (.bool rfl rfl rfl) rfl k_60 (fun hg => kops1 (gk hg rfl)) (fun hg => Right_c hcc1 hcc2) ?_
  refine WL.g (.bool rfl rfl rfl) rfl (fun hg => OpP.not (gk hg rfl)) ?_
  refine WL.p (.none rfl) rfl (OpP.por rfl rfl rfl) ?_
  refine WL.p (.none rfl) rfl (OpP.assign rfl) ?_
  refine WL.nil ?_
  refine EQ.sub ((Sub.cons (i := 2) rfl (Sub.cons (i := 3) rfl (Sub.cons (i := 4) rfl (Sub.cons (i := 5) rfl (Sub.cons (i := 6) rfl (Sub.nil _))))))) ?_
  refine EQ.code ?_
  refine WC.cond rfl (fun hc0 => ?_) (fun hc0 => ?_)
  · -- cond 0 t
    (try simp only [decide_eq_true_eq, decide_eq_false_iff_not, Bool.not_eq_true', Bool.not_eq_false', Bool.or_eq_true, Bool.and_eq_true, Bool.or_eq_false_iff, Bool.and_eq_false_imp] at hc0)
    simp [hr, hr2] at hc0
  · -- cond 0 f
    (try simp only [decide_eq_true_eq, decide_eq_false_iff_not, Bool.not_eq_true', Bool.not_eq_false', Bool.or_eq_true, Bool.and_eq_true, Bool.or_eq_false_iff, Bool.and_eq_false_imp] at hc0)
    refine WC.seq ?_
    refine WC.region ?_
    refine WL.p (.none rfl) rfl (OpP.fieldAddr rfl fld_38_0) ?_
    refine WL.p (.none rfl) rfl (OpP.load rfl ty_3 (Rd.own (by repeat (first | assumption | exact List.mem_cons_self | exact List.mem_of_getElem? (by assumption) | exact set_mem (by first | assumption | exact set_hit (by assumption)) | apply List.mem_cons_of_mem | apply List.mem_append_right)) (by rfl))) ?_
    refine WL.p (.none rfl) rfl (OpP.fieldAddr rfl fld_38_0) ?_
    refine WL.p (.none rfl) rfl (OpP.load rfl ty_3 (Rd.own (by repeat (first | assumption | exact List.mem_cons_self | exact List.mem_of_getElem? (by assumption) | exact set_mem (by first | assumption | exact set_hit (by assumption)) | apply List.mem_cons_of_mem | apply List.mem_append_right)) (by rfl))) ?_
    refine WL.p (.none rfl) rfl (OpP.neqI rfl rfl) ?_
    refine WL.p (.none rfl) rfl (OpP.assign rfl) ?_
    refine WL.nil ?_
    refine EQ.sub ((Sub.cons (i := 2) rfl (Sub.cons (i := 3) rfl (Sub.cons (i := 4) rfl (Sub.cons (i := 5) rfl (Sub.cons (i := 16) rfl (Sub.nil _))))))) ?_
    refine EQ.code ?_
    refine WC.cond rfl (fun hc1 => ?_) (fun hc1 => ?_)
    · -- cond 1 t
      (try simp only [decide_eq_true_eq, decide_eq_false_iff_not, Bool.not_eq_true', Bool.not_eq_false', Bool.or_eq_true, Bool.and_eq_true, Bool.or_eq_false_iff, Bool.and_eq_false_imp] at hc1)
      simp at hc1
    · -- cond 1 f
      (try simp only [decide_eq_true_eq, decide_eq_false_iff_not, Bool.not_eq_true', Bool.not_eq_false', Bool.or_eq_true, Bool.and_eq_true, Bool.or_eq_false_iff, Bool.and_eq_false_imp] at hc1)
      refine WC.skip ?_
      refine EQ.blockN ?_
      refine EQ.code ?_
      refine WC.seq ?_
      refine WC.region ?_
      refine WL.p (.none rfl) rfl (OpP.fieldAddr rfl fld_38_0) ?_
      refine WL.p (.none rfl) rfl (OpP.load rfl ty_3 (Rd.own (by repeat (first | assumption | exact List.mem_cons_self | exact List.mem_of_getElem? (by assumption) | exact set_mem (by first | assumption | exact set_hit (by assumption)) | apply List.mem_cons_of_mem | apply List.mem_append_right)) (by rfl))) ?_
      refine WL.p (.none rfl) rfl (OpP.fieldAddr rfl fld_38_1) ?_
      refine WL.p (.none rfl) rfl (OpP.load rfl ty_22 (Rd.own (by repeat (first | assumption | exact List.mem_cons_self | exact List.mem_of_getElem? (by assumption) | exact set_mem (by first | assumption | exact set_hit (by assumption)) | apply List.mem_cons_of_mem | apply List.mem_append_right)) (by rfl))) ?_
      refine WL.p (.none rfl) rfl (OpP.fieldAddr rfl fld_38_1) ?_
      refine WL.p (.none rfl) rfl (OpP.load rfl ty_22 (Rd.own (by repeat (first | assumption | exact List.mem_cons_self | exact List.mem_of_getElem? (by assumption) | exact set_mem (by first | assumption | exact set_hit (by assumption)) | apply List.mem_cons_of_mem | apply List.mem_append_right)) (by rfl))) ?_
      refine WL.p (.none rfl) rfl (OpP.bits rfl rfl (by simp)) ?_
      refine WL.p (.none rfl) rfl (OpP.buildS bld_38 (kI rfl (kI rfl kI0)) (by rfl)) ?_
      first | (refine WL.s (.none rfl) rfl (OpS.storeAll rfl rfl ty_38 (by repeat (first | assumption | exact at0 | exact set_hit (by first | assumption | exact set_hit (by assumption)) | apply ats)) (by rfl) (by rfl) (by rfl) (by rfl)) ?_) | (refine WL.s (.none rfl) rfl (OpS.store rfl rfl ty_38 (by repeat (first | assumption | exact at0 | exact set_hit (by first | assumption | exact set_hit (by assumption)) | apply ats)) (by rfl) (by rfl) (by rfl) (by rfl)) ?_)
      refine WL.p (.none rfl) rfl (OpP.assign rfl) ?_
      refine WL.nil ?_
      refine EQ.sub ((Sub.cons (i := 4) rfl (Sub.cons (i := 5) rfl (Sub.nil _)))) ?_
      refine EQ.code ?_
      refine WC.ret ?_
      refine EQ.finD (H' := H) (res2 rfl (.cellB rfl ty_38 (by repeat (first | assumption | exact List.mem_cons_self | exact List.mem_of_getElem? (by assumption) | exact set_mem (by first | assumption | exact set_hit (by assumption)) | apply List.mem_cons_of_mem | apply List.mem_append_right)) (by rfl)) (.tmp rfl)) (by intro _ h; first | exact h | exact h.drop | exact h.drop.drop | exact h.drop.drop.drop | exact h.drop.drop.drop.drop | exact h.drop.drop.drop.drop.drop | exact h.drop.drop.drop.drop.drop.drop | exact h.drop_mid) ?_
      exact ⟨rfl, rfl⟩

set_option maxRecDepth 100000 in
theorem Missing_c {W0 : World} {H : Hp} {n b : Int} (hb : 0 ≤ b) (hb2 : b < 18446744073709551616) (hr : mRight n b = true) : CxX Try.prog W0 56 #[mv n b] H (fun v H' => ∃ seg, H' = seg ++ H ∧ OwnS 3 1 v (missL n b).length (ivs (missL n b)) seg) := by
  have hn : 0 ≤ n ∧ n ≤ 64 := by simp [mRight] at hr; omega
  refine enter Try.func56 rfl Try.ntmps56 rfl ?_
  refine WC.seq ?_
  refine WC.region ?_
  refine WL.box rfl rfl rfl (fun b1 => ?_)
  refine WL.p (.none rfl) rfl (OpP.assign rfl) ?_
  refine WL.nil ?_
  refine EQ.sub ((Sub.cons (i := 1) rfl (Sub.cons (i := 2) rfl (Sub.nil _)))) ?_
  refine EQ.code ?_
  refine WC.seq ?_
  refine WC.region ?_
  refine WL.p (.none rfl) rfl (OpP.assign rfl) ?_
  refine WL.nil ?_
  refine EQ.sub ((Sub.cons (i := 1) rfl (Sub.cons (i := 2) rfl (Sub.cons (i := 3) rfl (Sub.nil _))))) ?_
  refine EQ.code ?_
  refine WC.seq ?_
  refine WC.seq ?_
  refine WC.region ?_
  refine WL.p (.none rfl) rfl (OpP.loadB rfl ty_38 (by repeat (first | assumption | exact List.mem_cons_self | exact List.mem_of_getElem? (by assumption) | exact set_mem (by first | assumption | exact set_hit (by assumption)) | apply List.mem_cons_of_mem | apply List.mem_append_right)) (by rfl)) ?_
  refine WL.callD rfl (.none rfl) rfl k_60 rfl (Right_c hb hb2) ?_
  refine WL.nil ?_
  refine EQ.sub ((Sub.cons (i := 1) rfl (Sub.cons (i := 2) rfl (Sub.cons (i := 3) rfl (Sub.cons (i := 6) rfl (Sub.nil _)))))) ?_
  refine EQ.code ?_
  refine WC.cond rfl (fun hc0 => ?_) (fun hc0 => ?_)
  · -- cond 0 t
    (try simp only [decide_eq_true_eq, decide_eq_false_iff_not, Bool.not_eq_true', Bool.not_eq_false', Bool.or_eq_true, Bool.and_eq_true, Bool.or_eq_false_iff, Bool.and_eq_false_imp] at hc0)
    refine WC.seq ?_
    refine WC.region ?_
    refine WL.p (.none rfl) rfl (OpP.fieldAddr rfl fld_38_0) ?_
    refine WL.p (.none rfl) rfl (OpP.load rfl ty_3 (Rd.own (by repeat (first | assumption | exact List.mem_cons_self | exact List.mem_of_getElem? (by assumption) | exact set_mem (by first | assumption | exact set_hit (by assumption)) | apply List.mem_cons_of_mem | apply List.mem_append_right)) (by rfl))) ?_
    refine WL.p (.none rfl) rfl (OpP.move rfl) ?_
    refine WL.nil ?_
    refine EQ.sub ((Sub.cons (i := 1) rfl (Sub.cons (i := 2) rfl (Sub.cons (i := 3) rfl (Sub.cons (i := 8) rfl (Sub.cons (i := 9) rfl (Sub.nil _))))))) ?_
    refine EQ.code ?_
    refine WC.block ?_
    refine WC.loop (σ := Nat × Value × Hp) (fun s => [(1, .pointer (some ⟨b1, 0, none⟩)), (3, s.2.1), (8, .int .i64 n), (9, .int .i64 (s.1 : Int))]) (fun s => s.2.2 ++ ((b1, cl [.int .i64 n, .int .u64 b] 38) :: H)) (fun s => (s.1 : Int) ≤ n ∧ OwnS 3 1 s.2.1 (missTo n b s.1).length (ivs (missTo n b s.1)) s.2.2) (fun s => n.toNat - s.1) (0, .slice none 0 0, []) ⟨by omega, OwnS.nil _ _⟩ ((Sub.cons rfl (Sub.cons rfl (Sub.cons rfl (Sub.cons rfl (Sub.nil _)))))) (fun _ h => h) (fun ⟨k, v, seg⟩ hinv => ?_)
    obtain ⟨hk, hown⟩ := hinv
    simp only at hk hown ⊢
    have hlen := missTo_length n b k
    refine WC.seq ?_
    refine WC.region ?_
    refine WL.p (.none rfl) rfl (OpP.lss rfl rfl) ?_
    refine WL.nil ?_
    refine EQ.sub ((Sub.cons (i := 1) rfl (Sub.cons (i := 3) rfl (Sub.cons (i := 8) rfl (Sub.cons (i := 9) rfl (Sub.cons (i := 10) rfl (Sub.nil _))))))) ?_
    refine EQ.code ?_
    refine WC.seq ?_
    refine WC.cond rfl (fun hc1 => ?_) (fun hc1 => ?_)
    · -- cond 1 t
      (try simp only [decide_eq_true_eq, decide_eq_false_iff_not, Bool.not_eq_true', Bool.not_eq_false', Bool.or_eq_true, Bool.and_eq_true, Bool.or_eq_false_iff, Bool.and_eq_false_imp] at hc1)
      refine WC.skip ?_
      refine EQ.code ?_
      refine WC.seq ?_
      refine WC.block ?_
      refine WC.seq ?_
      refine WC.region ?_
      refine WL.p (.none rfl) rfl (OpP.move rfl) ?_
      refine WL.p (.none rfl) rfl (OpP.assign rfl) ?_
      refine WL.nil ?_
      refine EQ.sub ((Sub.cons (i := 1) rfl (Sub.cons (i := 3) rfl (Sub.cons (i := 4) rfl (Sub.cons (i := 8) rfl (Sub.cons (i := 9) rfl (Sub.nil _))))))) ?_
      refine EQ.code ?_
      refine WC.seq ?_
      refine WC.region ?_
      refine WL.p (.none rfl) rfl (OpP.loadB rfl ty_38 (by repeat (first | assumption | exact List.mem_cons_self | exact List.mem_of_getElem? (by assumption) | exact set_mem (by first | assumption | exact set_hit (by assumption)) | apply List.mem_cons_of_mem | apply List.mem_append_right)) (by rfl)) ?_
      refine WL.p (.none rfl) rfl (OpP.move rfl) ?_
      refine WL.callD rfl (.none rfl) rfl k_44 rfl (Has_c hb hb2 (by omega) (by omega)) ?_
      refine WL.p (.none rfl) rfl (OpP.not rfl) ?_
      refine WL.nil ?_
      refine EQ.sub ((Sub.cons (i := 1) rfl (Sub.cons (i := 3) rfl (Sub.cons (i := 4) rfl (Sub.cons (i := 8) rfl (Sub.cons (i := 9) rfl (Sub.cons (i := 15) rfl (Sub.nil _)))))))) ?_
      refine EQ.code ?_
      refine WC.cond rfl (fun hc2 => ?_) (fun hc2 => ?_)
      · -- cond 2 t
        (try simp only [decide_eq_true_eq, decide_eq_false_iff_not, Bool.not_eq_true', Bool.not_eq_false', Bool.or_eq_true, Bool.and_eq_true, Bool.or_eq_false_iff, Bool.and_eq_false_imp] at hc2)
        refine WC.region ?_
        refine WL.p (.none rfl) rfl (OpP.move rfl) ?_
        refine WL.p (.none rfl) rfl (OpP.move rfl) ?_
        refine WL.buildSlice1 sl_60 rfl rfl (by decide) rfl rfl (by rfl) (fun b18 => ?_)
        refine WL.toMid ?_
        refine WL.append (seg := seg) (R := (b18, cl [.int .i64 (k : Int)] 3) :: (b1, cl [.int .i64 n, .int .u64 b] 38) :: H) (news := [.int .i64 (k : Int)]) rfl (.none rfl) rfl sl_60 rfl rfl hown (Sl.own (List.mem_append_right _ List.mem_cons_self) (fun j x hj => by simpa using hj)) rfl (by simp [Value.oneCell']) (by decide) (by simp only [maxLen]; omega) (by omega) (fun v19 seg2 hown2 _ => ?_)
        refine WL.p (.none rfl) rfl (OpP.assign rfl) ?_
        refine WL.nil ?_
        refine EQ.sub ((Sub.cons (i := 1) rfl (Sub.cons (i := 3) rfl (Sub.cons (i := 8) rfl (Sub.cons (i := 9) rfl (Sub.nil _)))))) ?_
        refine EQ.blockN ?_
        refine EQ.code ?_
        refine WC.region ?_
        first | (refine WL.p (.none rfl) rfl (OpP.add64 rfl rfl (by omega)) ?_) | (refine WL.p (.none rfl) rfl (OpP.add rfl rfl) ?_)
        refine WL.p (.none rfl) rfl (OpP.move rfl) ?_
        refine WL.nil ?_
        refine EQ.sub ((Sub.cons (i := 1) rfl (Sub.cons (i := 3) rfl (Sub.cons (i := 8) rfl (Sub.cons (i := 9) rfl (Sub.nil _)))))) ?_
        refine EQ.again (k + 1, v19, seg2) ?_ ?_ ?_ ?_
        · exact ⟨by simp only; omega, by rw [missTo_succ, if_neg (by simp [hc2])]; simpa using hown2⟩
        · simp only; omega
        · exact ((Sub.cons rfl (Sub.cons rfl (Sub.cons rfl (Sub.cons rfl (Sub.nil _))))))
        · intro _ h; first | exact h | exact h.drop | exact h.drop_mid | exact h.drop_mid.drop_mid
      · -- cond 2 f
        (try simp only [decide_eq_true_eq, decide_eq_false_iff_not, Bool.not_eq_true', Bool.not_eq_false', Bool.or_eq_true, Bool.and_eq_true, Bool.or_eq_false_iff, Bool.and_eq_false_imp] at hc2)
        refine WC.skip ?_
        refine EQ.blockN ?_
        refine EQ.code ?_
        refine WC.region ?_
        first | (refine WL.p (.none rfl) rfl (OpP.add64 rfl rfl (by omega)) ?_) | (refine WL.p (.none rfl) rfl (OpP.add rfl rfl) ?_)
        refine WL.p (.none rfl) rfl (OpP.move rfl) ?_
        refine WL.nil ?_
        refine EQ.sub ((Sub.cons (i := 1) rfl (Sub.cons (i := 3) rfl (Sub.cons (i := 8) rfl (Sub.cons (i := 9) rfl (Sub.nil _)))))) ?_
        refine EQ.again (k + 1, v, seg) ?_ ?_ ?_ ?_
        · exact ⟨by simp only; omega, by rw [missTo_succ, if_pos (by simpa using hc2)]; exact hown⟩
        · simp only; omega
        · exact ((Sub.cons rfl (Sub.cons rfl (Sub.cons rfl (Sub.cons rfl (Sub.nil _))))))
        · intro _ h; first | exact h | exact h.drop | exact h.drop_mid | exact h.drop_mid.drop_mid
    · -- cond 1 f
      (try simp only [decide_eq_true_eq, decide_eq_false_iff_not, Bool.not_eq_true', Bool.not_eq_false', Bool.or_eq_true, Bool.and_eq_true, Bool.or_eq_false_iff, Bool.and_eq_false_imp] at hc1)
      refine WC.exit ?_
      refine EQ.thenE ?_
      refine EQ.thenE ?_
      refine EQ.blockHit ?_
      refine EQ.code ?_
      refine WC.seq ?_
      refine WC.region ?_
      refine WL.p (.none rfl) rfl (OpP.move rfl) ?_
      refine WL.p (.none rfl) rfl (OpP.assign rfl) ?_
      refine WL.nil ?_
      refine EQ.sub ((Sub.cons (i := 2) rfl (Sub.nil _))) ?_
      refine EQ.code ?_
      refine WC.ret ?_
      refine EQ.finD (H' := seg ++ H) (res1 rfl (.tmp rfl)) (by intro _ h; first | exact h | exact h.drop | exact h.drop.drop | exact h.drop.drop.drop | exact h.drop.drop.drop.drop | exact h.drop.drop.drop.drop.drop | exact h.drop.drop.drop.drop.drop.drop | exact h.drop_mid) ?_
      obtain rfl : k = n.toNat := by omega
      exact ⟨seg, rfl, hown⟩
  · -- cond 0 f
    (try simp only [decide_eq_true_eq, decide_eq_false_iff_not, Bool.not_eq_true', Bool.not_eq_false', Bool.or_eq_true, Bool.and_eq_true, Bool.or_eq_false_iff, Bool.and_eq_false_imp] at hc0)
    rw [hr] at hc0; cases hc0

end Go.Proofs.Ytmeimjpjelmchaa
