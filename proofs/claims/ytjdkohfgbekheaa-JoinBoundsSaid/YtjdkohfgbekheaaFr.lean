/- Fr: walks of functions of the program, each over the rules of Sx. No conditions but those in the theorems' heads. -/
import Derived.Test.YtjdkohfgbekheaaTb
import Derived.Test.YtjdkohfgbekheaaSxMore
import Derived.Test.YtjdkohfgbekheaaSxSize
import Derived.Test.YtjdkohfgbekheaaProg
set_option linter.unusedVariables false
set_option linter.unusedSimpArgs false
namespace Go.Proofs.Ytjdkohfgbekheaa
open Go.RowKit Go.Sx
namespace Fr
theorem bld_35 : bldS Try.prog 35 = some ([(0, 1), (1, 1), (2, 1), (3, 1)], [.int .u64 0, .int .i64 0, .int .i64 0, .slice none 0 0]) := by kernel_rfl
theorem fld_35_0 : fldI Try.prog 35 0 = some (0, false, 1) := by kernel_rfl
theorem fld_35_1 : fldI Try.prog 35 1 = some (1, false, 1) := by kernel_rfl
theorem fld_35_2 : fldI Try.prog 35 2 = some (2, false, 1) := by kernel_rfl
theorem fld_35_3 : fldI Try.prog 35 3 = some (3, false, 1) := by kernel_rfl
theorem k_18 : Cal Try.prog 18 := ⟨_, _, Try.func18, by kernel_rfl, rfl⟩
theorem k_19 : Cal Try.prog 19 := ⟨_, _, Try.func19, by kernel_rfl, rfl⟩
theorem k_20 : Cal Try.prog 20 := ⟨_, _, Try.func20, by kernel_rfl, rfl⟩
theorem sl_23 : slI Try.prog 23 = some (5, 1, 1) := by kernel_rfl
theorem sl_25 : slI Try.prog 25 = some (35, 4, 48) := by kernel_rfl
theorem ty_22 : tyI Try.prog 22 = some (false, 1) := by kernel_rfl
theorem ty_23 : tyI Try.prog 23 = some (false, 1) := by kernel_rfl
theorem ty_3 : tyI Try.prog 3 = some (false, 1) := by kernel_rfl
end Fr
open Fr

set_option maxRecDepth 100000 in
theorem isID_c {W0 : World} {H : Hp} {id : Int} : CxD Try.prog W0 19 #[.int .u64 id] H (.bool (decide (id ≥ 1) && decide (id ≤ 4611686018427387903))) H := by
  refine enter Try.func19 rfl Try.ntmps19 rfl ?_
  refine WC.seq ?_
  refine WC.region ?_
  refine WL.p (.none rfl) rfl (OpP.assign rfl) ?_
  refine WL.nil ?_
  refine EQ.sub ((Sub.cons (i := 0) rfl (Sub.cons (i := 2) rfl (Sub.nil _)))) ?_
  refine EQ.code ?_
  refine WC.seq ?_
  refine WC.region ?_
  refine WL.p (.none rfl) rfl (OpP.move rfl) ?_
  refine WL.p (.none rfl) rfl (OpP.geq rfl rfl) ?_
  refine WL.p (.none rfl) rfl (OpP.move rfl) ?_
  refine WL.g (.bool rfl rfl rfl) rfl (fun hg => OpP.move rfl) ?_
  refine WL.g (.bool rfl rfl rfl) rfl (fun hg => OpP.leq (gk hg rfl) rfl) ?_
  refine WL.p (.none rfl) rfl (OpP.pand rfl rfl rfl) ?_
  refine WL.p (.none rfl) rfl (OpP.assign rfl) ?_
  refine WL.nil ?_
  refine EQ.sub ((Sub.cons (i := 2) rfl (Sub.nil _))) ?_
  refine EQ.code ?_
  refine WC.ret ?_
  refine EQ.fin (res1 rfl (.tmp rfl)) ?_
  exact ⟨rfl, rfl⟩

set_option maxRecDepth 100000 in
theorem Right_c {W0 : World} {H : Hp} {id ix n : Int} {a : Option Addr} {len c : Nat} (hn : -9223372036854775808 ≤ n) (hn2 : n ≤ 9223372036854775807) : CxD Try.prog W0 22 #[ptV id ix n a len c] H (.bool (ptOk id ix n len)) H := by
  refine enter Try.func22 rfl Try.ntmps22 rfl ?_
  refine WC.seq ?_
  refine WC.region ?_
  refine WL.box rfl rfl rfl (fun b1 => ?_)
  refine WL.p (.none rfl) rfl (OpP.assign rfl) ?_
  refine WL.nil ?_
  refine EQ.sub ((Sub.cons (i := 1) rfl (Sub.cons (i := 2) rfl (Sub.nil _)))) ?_
  refine EQ.code ?_
  refine WC.seq ?_
  refine WC.region ?_
  refine WL.p (.none rfl) rfl (OpP.fieldAddr rfl fld_35_3) ?_
  refine WL.p (.none rfl) rfl (OpP.load rfl ty_23 (Rd.own (by repeat (first | assumption | exact List.mem_cons_self | exact List.mem_of_getElem? (by assumption) | exact set_mem (by first | assumption | exact set_hit (by assumption)) | apply List.mem_cons_of_mem | apply List.mem_append_right)) (by rfl))) ?_
  refine WL.p (.none rfl) rfl (OpP.lenSl rfl Try.underlying23) ?_
  refine WL.p (.none rfl) rfl (OpP.assign rfl) ?_
  refine WL.nil ?_
  refine EQ.sub ((Sub.cons (i := 1) rfl (Sub.cons (i := 2) rfl (Sub.cons (i := 3) rfl (Sub.nil _))))) ?_
  refine EQ.code ?_
  refine WC.seq ?_
  refine WC.block ?_
  refine WC.seq ?_
  refine WC.region ?_
  refine WL.p (.none rfl) rfl (OpP.fieldAddr rfl fld_35_0) ?_
  refine WL.p (.none rfl) rfl (OpP.load rfl ty_22 (Rd.own (by repeat (first | assumption | exact List.mem_cons_self | exact List.mem_of_getElem? (by assumption) | exact set_mem (by first | assumption | exact set_hit (by assumption)) | apply List.mem_cons_of_mem | apply List.mem_append_right)) (by rfl))) ?_
  refine WL.callD rfl (.none rfl) rfl k_19 rfl (isID_c) ?_
  refine WL.p (.none rfl) rfl (OpP.not rfl) ?_
  refine WL.p (.none rfl) rfl (OpP.move rfl) ?_
  refine WL.g (.bool rfl rfl rfl) rfl (fun hg => OpP.fieldAddr rfl fld_35_2) ?_
  refine WL.g (.bool rfl rfl rfl) rfl (fun hg => OpP.load (gk hg rfl) ty_3 (Rd.own (by repeat (first | assumption | exact List.mem_cons_self | exact List.mem_of_getElem? (by assumption) | exact set_mem (by first | assumption | exact set_hit (by assumption)) | apply List.mem_cons_of_mem | apply List.mem_append_right)) (by rfl))) ?_
  refine WL.g (.bool rfl rfl rfl) rfl (fun hg => OpP.lss (gk hg rfl) rfl) ?_
  refine WL.p (.none rfl) rfl (OpP.por rfl rfl rfl) ?_
  refine WL.p (.none rfl) rfl (OpP.move rfl) ?_
  refine WL.g (.bool rfl rfl rfl) rfl (fun hg => OpP.fieldAddr rfl fld_35_2) ?_
  refine WL.g (.bool rfl rfl rfl) rfl (fun hg => OpP.load (gk hg rfl) ty_3 (Rd.own (by repeat (first | assumption | exact List.mem_cons_self | exact List.mem_of_getElem? (by assumption) | exact set_mem (by first | assumption | exact set_hit (by assumption)) | apply List.mem_cons_of_mem | apply List.mem_append_right)) (by rfl))) ?_
  refine WL.g (.bool rfl rfl rfl) rfl (fun hg => OpP.gtr (gk hg rfl) rfl) ?_
  refine WL.p (.none rfl) rfl (OpP.por rfl rfl rfl) ?_
  refine WL.p (.none rfl) rfl (OpP.move rfl) ?_
  refine WL.g (.bool rfl rfl rfl) rfl (fun hg => OpP.fieldAddr rfl fld_35_1) ?_
  refine WL.g (.bool rfl rfl rfl) rfl (fun hg => OpP.load (gk hg rfl) ty_3 (Rd.own (by repeat (first | assumption | exact List.mem_cons_self | exact List.mem_of_getElem? (by assumption) | exact set_mem (by first | assumption | exact set_hit (by assumption)) | apply List.mem_cons_of_mem | apply List.mem_append_right)) (by rfl))) ?_
  refine WL.g (.bool rfl rfl rfl) rfl (fun hg => OpP.lss (gk hg rfl) rfl) ?_
  refine WL.p (.none rfl) rfl (OpP.por rfl rfl rfl) ?_
  refine WL.p (.none rfl) rfl (OpP.move rfl) ?_
  refine WL.g (.bool rfl rfl rfl) rfl (fun hg => OpP.fieldAddr rfl fld_35_1) ?_
  refine WL.g (.bool rfl rfl rfl) rfl (fun hg => OpP.load (gk hg rfl) ty_3 (Rd.own (by repeat (first | assumption | exact List.mem_cons_self | exact List.mem_of_getElem? (by assumption) | exact set_mem (by first | assumption | exact set_hit (by assumption)) | apply List.mem_cons_of_mem | apply List.mem_append_right)) (by rfl))) ?_
  refine WL.g (.bool rfl rfl rfl) rfl (fun hg => OpP.fieldAddr rfl fld_35_2) ?_
  refine WL.g (.bool rfl rfl rfl) rfl (fun hg => OpP.load (gk hg rfl) ty_3 (Rd.own (by repeat (first | assumption | exact List.mem_cons_self | exact List.mem_of_getElem? (by assumption) | exact set_mem (by first | assumption | exact set_hit (by assumption)) | apply List.mem_cons_of_mem | apply List.mem_append_right)) (by rfl))) ?_
  refine WL.g (.bool rfl rfl rfl) rfl (fun hg => OpP.geq (gk hg rfl) (gk hg rfl)) ?_
  refine WL.p (.none rfl) rfl (OpP.por rfl rfl rfl) ?_
  refine WL.p (.none rfl) rfl (OpP.move rfl) ?_
  refine WL.g (.bool rfl rfl rfl) rfl (fun hg => OpP.move rfl) ?_
  refine WL.g (.bool rfl rfl rfl) rfl (fun hg => OpP.gtr (gk hg rfl) rfl) ?_
  refine WL.p (.none rfl) rfl (OpP.por rfl rfl rfl) ?_
  refine WL.p (.none rfl) rfl (OpP.assign rfl) ?_
  refine WL.nil ?_
  refine EQ.sub ((Sub.cons (i := 1) rfl (Sub.cons (i := 2) rfl (Sub.cons (i := 3) rfl (Sub.cons (i := 7) rfl (Sub.nil _)))))) ?_
  refine EQ.code ?_
  refine WC.cond rfl (fun hc0 => ?_) (fun hc0 => ?_)
  · -- cond 0 t
    (try simp only [decide_eq_true_eq, decide_eq_false_iff_not, Bool.not_eq_true', Bool.not_eq_false', Bool.or_eq_true, Bool.and_eq_true, Bool.or_eq_false_iff, Bool.and_eq_false_imp, Option.isNone_some, Bool.false_eq_true, false_or, true_and] at hc0)
    refine WC.seq ?_
    refine WC.region ?_
    refine WL.p (.none rfl) rfl (OpP.assign rfl) ?_
    refine WL.nil ?_
    refine EQ.sub ((Sub.cons (i := 1) rfl (Sub.cons (i := 2) rfl (Sub.cons (i := 3) rfl (Sub.nil _))))) ?_
    refine EQ.code ?_
    refine WC.ret ?_
    refine EQ.blockR ?_
    refine EQ.thenR ?_
    refine EQ.finD (H' := H) (res1 rfl (.tmp rfl)) (by intro _ h; first | exact h | exact h.drop | exact h.drop.drop | exact h.drop.drop.drop | exact h.drop.drop.drop.drop | exact h.drop.drop.drop.drop.drop | exact h.drop.drop.drop.drop.drop.drop | exact h.drop_mid) ?_
    refine ⟨congrArg Value.bool (decide_eq_false ?_).symm, rfl⟩
    omega
  · -- cond 0 f
    (try simp only [decide_eq_true_eq, decide_eq_false_iff_not, Bool.not_eq_true', Bool.not_eq_false', Bool.or_eq_true, Bool.and_eq_true, Bool.or_eq_false_iff, Bool.and_eq_false_imp, Option.isNone_some, Bool.false_eq_true, false_or, true_and] at hc0)
    refine WC.seq ?_
    refine WC.region ?_
    refine WL.p (.none rfl) rfl (OpP.move rfl) ?_
    refine WL.p (.none rfl) rfl (OpP.eqlI rfl rfl) ?_
    refine WL.p (.none rfl) rfl (OpP.assign rfl) ?_
    refine WL.nil ?_
    refine EQ.sub ((Sub.cons (i := 1) rfl (Sub.cons (i := 2) rfl (Sub.cons (i := 3) rfl (Sub.cons (i := 38) rfl (Sub.nil _)))))) ?_
    refine EQ.code ?_
    refine WC.cond rfl (fun hc1 => ?_) (fun hc1 => ?_)
    · -- cond 1 t
      (try simp only [decide_eq_true_eq, decide_eq_false_iff_not, Bool.not_eq_true', Bool.not_eq_false', Bool.or_eq_true, Bool.and_eq_true, Bool.or_eq_false_iff, Bool.and_eq_false_imp, Option.isNone_some, Bool.false_eq_true, false_or, true_and] at hc1)
      refine WC.seq ?_
      refine WC.region ?_
      refine WL.p (.none rfl) rfl (OpP.fieldAddr rfl fld_35_2) ?_
      refine WL.p (.none rfl) rfl (OpP.load rfl ty_3 (Rd.own (by repeat (first | assumption | exact List.mem_cons_self | exact List.mem_of_getElem? (by assumption) | exact set_mem (by first | assumption | exact set_hit (by assumption)) | apply List.mem_cons_of_mem | apply List.mem_append_right)) (by rfl))) ?_
      refine WL.p (.none rfl) rfl (OpP.eqlI rfl rfl) ?_
      refine WL.p (.none rfl) rfl (OpP.assign rfl) ?_
      refine WL.nil ?_
      refine EQ.sub ((Sub.cons (i := 1) rfl (Sub.cons (i := 2) rfl (Sub.cons (i := 3) rfl (Sub.nil _))))) ?_
      refine EQ.code ?_
      refine WC.ret ?_
      refine EQ.blockR ?_
      refine EQ.thenR ?_
      refine EQ.finD (H' := H) (res1 rfl (.tmp rfl)) (by intro _ h; first | exact h | exact h.drop | exact h.drop.drop | exact h.drop.drop.drop | exact h.drop.drop.drop.drop | exact h.drop.drop.drop.drop.drop | exact h.drop.drop.drop.drop.drop.drop | exact h.drop_mid) ?_
      refine ⟨congrArg Value.bool (decide_eq_decide.2 ?_), rfl⟩
      omega
    · -- cond 1 f
      (try simp only [decide_eq_true_eq, decide_eq_false_iff_not, Bool.not_eq_true', Bool.not_eq_false', Bool.or_eq_true, Bool.and_eq_true, Bool.or_eq_false_iff, Bool.and_eq_false_imp, Option.isNone_some, Bool.false_eq_true, false_or, true_and] at hc1)
      refine WC.skip ?_
      refine EQ.blockN ?_
      refine EQ.code ?_
      refine WC.seq ?_
      refine WC.region ?_
      refine WL.p (.none rfl) rfl (OpP.move rfl) ?_
      refine WL.p (.none rfl) rfl (OpP.eqlI rfl rfl) ?_
      refine WL.p (.none rfl) rfl (OpP.move rfl) ?_
      refine WL.g (.bool rfl rfl rfl) rfl (fun hg => OpP.fieldAddr rfl fld_35_1) ?_
      refine WL.g (.bool rfl rfl rfl) rfl (fun hg => OpP.load (gk hg rfl) ty_3 (Rd.own (by repeat (first | assumption | exact List.mem_cons_self | exact List.mem_of_getElem? (by assumption) | exact set_mem (by first | assumption | exact set_hit (by assumption)) | apply List.mem_cons_of_mem | apply List.mem_append_right)) (by rfl))) ?_
      refine WL.g (.bool rfl rfl rfl) rfl (fun hg => OpP.fieldAddr rfl fld_35_2) ?_
      refine WL.g (.bool rfl rfl rfl) rfl (fun hg => OpP.load (gk hg rfl) ty_3 (Rd.own (by repeat (first | assumption | exact List.mem_cons_self | exact List.mem_of_getElem? (by assumption) | exact set_mem (by first | assumption | exact set_hit (by assumption)) | apply List.mem_cons_of_mem | apply List.mem_append_right)) (by rfl))) ?_
      first | (refine WL.g (.bool rfl rfl rfl) rfl (fun hg => OpP.sub64 (gk hg rfl) rfl (by (try simp at hg); omega)) ?_) | (refine WL.g (.bool rfl rfl rfl) rfl (fun hg => OpP.sub (gk hg rfl) rfl) ?_)
      refine WL.g (.bool rfl rfl rfl) rfl (fun hg => OpP.eqlI (gk hg rfl) (gk hg rfl)) ?_
      refine WL.p (.none rfl) rfl (OpP.por rfl rfl rfl) ?_
      refine WL.p (.none rfl) rfl (OpP.assign rfl) ?_
      refine WL.nil ?_
      refine EQ.sub ((Sub.cons (i := 2) rfl (Sub.nil _))) ?_
      refine EQ.code ?_
      refine WC.ret ?_
      refine EQ.finD (H' := H) (res1 rfl (.tmp rfl)) (by intro _ h; first | exact h | exact h.drop | exact h.drop.drop | exact h.drop.drop.drop | exact h.drop.drop.drop.drop | exact h.drop.drop.drop.drop.drop | exact h.drop.drop.drop.drop.drop.drop | exact h.drop_mid) ?_
      refine ⟨congrArg Value.bool ?_, rfl⟩
      rw [← Bool.decide_or]
      refine decide_eq_decide.2 ?_
      omega

set_option maxRecDepth 100000 in
theorem Clone_c {W0 : World} {H : Hp} {a : Option Addr} {m cp : Nat} {l : List Int} (hl : l.length = m) (hb : l.length ≤ 17592186044416) (hsl : Sl W0 H a (iv .u8 l)) :
    CxX Try.prog W0 20 #[.slice a m cp] H (fun v H' => ∃ ds, H' = ds ++ H ∧ OwnS 5 1 v m (iv .u8 l) ds ∧ (a.isNone = true → v = .slice none 0 0)) := by
  refine enter Try.func20 rfl Try.ntmps20 rfl ?_
  refine WC.seq ?_
  refine WC.region ?_
  refine WL.p (.none rfl) rfl (OpP.assign rfl) ?_
  refine WL.nil ?_
  refine EQ.sub ((Sub.cons (i := 0) rfl (Sub.cons (i := 2) rfl (Sub.nil _)))) ?_
  refine EQ.code ?_
  refine WC.seq ?_
  refine WC.seq ?_
  refine WC.region ?_
  refine WL.p (.none rfl) rfl (OpP.move rfl) ?_
  refine WL.p (.none rfl) rfl (OpP.eqlSl rfl rfl Try.underlying23) ?_
  refine WL.nil ?_
  refine EQ.sub ((Sub.cons (i := 0) rfl (Sub.cons (i := 2) rfl (Sub.cons (i := 4) rfl (Sub.nil _))))) ?_
  refine EQ.code ?_
  refine WC.cond rfl (fun hc0 => ?_) (fun hc0 => ?_)
  · -- cond 0 t
    (try simp only [decide_eq_true_eq, decide_eq_false_iff_not, Bool.not_eq_true', Bool.not_eq_false', Bool.or_eq_true, Bool.and_eq_true, Bool.or_eq_false_iff, Bool.and_eq_false_imp, Option.isNone_some, Bool.false_eq_true, false_or, true_and] at hc0)
    refine WC.seq ?_
    refine WC.region ?_
    refine WL.p (.none rfl) rfl (OpP.assign rfl) ?_
    refine WL.nil ?_
    refine EQ.sub ((Sub.cons (i := 0) rfl (Sub.cons (i := 2) rfl (Sub.nil _)))) ?_
    refine EQ.code ?_
    refine WC.ret ?_
    refine EQ.thenR ?_
    refine EQ.finD (H' := H) (res1 rfl (.tmp rfl)) (by intro _ h; first | exact h | exact h.drop | exact h.drop.drop | exact h.drop.drop.drop | exact h.drop.drop.drop.drop | exact h.drop.drop.drop.drop.drop | exact h.drop.drop.drop.drop.drop.drop | exact h.drop_mid) ?_
    obtain ⟨p, rfl⟩ : ∃ p, a = p := ⟨_, rfl⟩
    have hn : a = none := by simpa using hc0
    have h0 : l = [] := by have := hsl.1 hn; simpa using this
    subst h0
    simp only [List.length_nil] at hl
    subst hl
    exact ⟨[], rfl, OwnS.nil _ _, fun _ => rfl⟩
  · -- cond 0 f
    (try simp only [decide_eq_true_eq, decide_eq_false_iff_not, Bool.not_eq_true', Bool.not_eq_false', Bool.or_eq_true, Bool.and_eq_true, Bool.or_eq_false_iff, Bool.and_eq_false_imp, Option.isNone_some, Bool.false_eq_true, false_or, true_and] at hc0)
    refine WC.skip ?_
    refine EQ.code ?_
    refine WC.seq ?_
    refine WC.region ?_
    refine WL.buildSlice1 sl_23 rfl rfl (by decide) rfl rfl (by rfl) (fun b5 => ?_)
    refine WL.p (.none rfl) rfl (OpP.move rfl) ?_
    refine WL.append (seg := [(b5, cl [] 5)]) (R := H) (cs := []) (news := iv .u8 l) rfl (.none rfl) rfl sl_23 rfl rfl (OwnS.empty 5 1 b5) (hsl.of (by intro w h; exact h.drop)) (by simp [hl]) iv_mem (by decide) (by simp only [maxLen]; omega) (by omega) (fun v7 ds hown _ => ?_)
    simp only [Nat.zero_add, List.nil_append] at hown
    refine WL.p (.none rfl) rfl (OpP.assign rfl) ?_
    refine WL.nil ?_
    refine EQ.sub ((Sub.cons (i := 2) rfl (Sub.nil _))) ?_
    refine EQ.code ?_
    refine WC.ret ?_
    refine EQ.finD (H' := ds ++ H) (res1 rfl (.tmp rfl)) (by intro _ h; first | exact h | exact h.drop | exact h.drop.drop | exact h.drop.drop.drop | exact h.drop.drop.drop.drop | exact h.drop.drop.drop.drop.drop | exact h.drop.drop.drop.drop.drop.drop | exact h.drop_mid) ?_
    exact ⟨ds, rfl, hown, fun h => by rw [hc0] at h; cases h⟩

def fCount (n : Int) : Int := if n < 0 ∨ n > 24000 then 0 else max 1 ((n + 479) / 480)
theorem fCount_pos {n : Int} (h : 0 ≤ n) (h2 : n ≤ 24000) : 1 ≤ fCount n ∧ fCount n ≤ 50 ∧ 480 * (fCount n - 1) ≤ n ∧ n ≤ 480 * fCount n := by
  unfold fCount
  rw [if_neg (by omega)]
  omega
/-- The bytes of a part of a frame. -/
def cut (l : List Int) (i : Nat) : List Int := (l.drop (480 * i)).take 480
theorem cut_len (l : List Int) (i : Nat) : (cut l i).length = min 480 (l.length - 480 * i) := by simp [cut]
theorem cut_eq (l : List Int) (k : Nat) : (l.drop ((k : Int) * 480).toNat).take 480 = cut l k := by
  unfold cut
  rw [show ((k : Int) * 480).toNat = 480 * k by omega]
theorem cut_cat (l : List Int) : ∀ k, (List.range k).flatMap (cut l) = l.take (480 * k)
  | 0 => by simp
  | k + 1 => by
    rw [List.range_succ, List.flatMap_append, cut_cat l k]
    simp only [List.flatMap_cons, List.flatMap_nil, List.append_nil, cut]
    rw [show 480 * (k + 1) = 480 * k + 480 by omega, List.take_add]

set_option maxRecDepth 100000 in
theorem Count_c {W0 : World} {H : Hp} {n : Int} (hn : -9223372036854775808 ≤ n) (hn2 : n ≤ 9223372036854775807) : CxD Try.prog W0 18 #[.int .i64 n] H (.int .i64 (fCount n)) H := by
  refine enter Try.func18 rfl Try.ntmps18 rfl ?_
  refine WC.seq ?_
  refine WC.region ?_
  refine WL.p (.none rfl) rfl (OpP.assign rfl) ?_
  refine WL.nil ?_
  refine EQ.sub ((Sub.cons (i := 0) rfl (Sub.cons (i := 2) rfl (Sub.nil _)))) ?_
  refine EQ.code ?_
  refine WC.seq ?_
  refine WC.seq ?_
  refine WC.region ?_
  refine WL.p (.none rfl) rfl (OpP.move rfl) ?_
  refine WL.p (.none rfl) rfl (OpP.lss rfl rfl) ?_
  refine WL.p (.none rfl) rfl (OpP.move rfl) ?_
  refine WL.g (.bool rfl rfl rfl) rfl (fun hg => OpP.move rfl) ?_
  refine WL.g (.bool rfl rfl rfl) rfl (fun hg => OpP.gtr (gk hg rfl) rfl) ?_
  refine WL.p (.none rfl) rfl (OpP.por rfl rfl rfl) ?_
  refine WL.nil ?_
  refine EQ.sub ((Sub.cons (i := 0) rfl (Sub.cons (i := 2) rfl (Sub.cons (i := 8) rfl (Sub.nil _))))) ?_
  refine EQ.code ?_
  refine WC.cond rfl (fun hc0 => ?_) (fun hc0 => ?_)
  · -- cond 0 t
    (try simp only [decide_eq_true_eq, decide_eq_false_iff_not, Bool.not_eq_true', Bool.not_eq_false', Bool.or_eq_true, Bool.and_eq_true, Bool.or_eq_false_iff, Bool.and_eq_false_imp, Option.isNone_some, Bool.false_eq_true, false_or, true_and] at hc0)
    refine WC.seq ?_
    refine WC.region ?_
    refine WL.p (.none rfl) rfl (OpP.assign rfl) ?_
    refine WL.nil ?_
    refine EQ.sub ((Sub.cons (i := 0) rfl (Sub.cons (i := 2) rfl (Sub.nil _)))) ?_
    refine EQ.code ?_
    refine WC.ret ?_
    refine EQ.thenR ?_
    refine EQ.fin (res1 rfl (.tmp rfl)) ?_
    exact ⟨by unfold fCount; rw [if_pos (by omega)], rfl⟩
  · -- cond 0 f
    (try simp only [decide_eq_true_eq, decide_eq_false_iff_not, Bool.not_eq_true', Bool.not_eq_false', Bool.or_eq_true, Bool.and_eq_true, Bool.or_eq_false_iff, Bool.and_eq_false_imp, Option.isNone_some, Bool.false_eq_true, false_or, true_and] at hc0)
    refine WC.skip ?_
    refine EQ.code ?_
    refine WC.seq ?_
    refine WC.region ?_
    refine WL.p (.none rfl) rfl (OpP.move rfl) ?_
    first | (refine WL.p (.none rfl) rfl (OpP.add64 rfl rfl (by omega)) ?_) | (refine WL.p (.none rfl) rfl (OpP.add rfl rfl) ?_)
    first | (refine WL.p (.none rfl) rfl (OpP.sub64 rfl rfl (by omega)) ?_) | (refine WL.p (.none rfl) rfl (OpP.sub rfl rfl) ?_)
    first | (refine WL.p (.none rfl) rfl (OpP.quoN rfl rfl (by omega) (by omega) (by omega)) ?_) | (refine WL.p (.none rfl) rfl (OpP.quo rfl rfl (by omega)) ?_)
    refine WL.p (.none rfl) rfl (OpP.max2 rfl rfl) ?_
    refine WL.p (.none rfl) rfl (OpP.assign rfl) ?_
    refine WL.nil ?_
    refine EQ.sub ((Sub.cons (i := 2) rfl (Sub.nil _))) ?_
    refine EQ.code ?_
    refine WC.ret ?_
    refine EQ.fin (res1 rfl (.tmp rfl)) ?_
    refine ⟨congrArg (Value.int .i64) ?_, rfl⟩
    unfold fCount
    rw [if_neg (by omega), show n + 480 - 1 = n + 479 by omega]
    try rfl

/-- Parts as they lie in a list, each part's bytes in a segment of its own. -/
structure PL (id n : Int) (d : Nat → List Int) (k : Nat) (C : List (List Value)) (S : List Hp) : Prop where
  lc : C.length = k
  ls : S.length = k
  ent : ∀ i, i < k → ∃ a c, C.getD i [] = ptL id i n a (d i).length c ∧ ∀ W R, Sl W (S.getD i [] ++ R) a (iv .u8 (d i))
theorem PL.nil (id n : Int) (d : Nat → List Int) : PL id n d 0 [] [] := ⟨rfl, rfl, fun i hi => by omega⟩
theorem PL.snoc {id n : Int} {d : Nat → List Int} {k : Nat} {C : List (List Value)} {S : List Hp} (h : PL id n d k C S) {a : Option Addr} {c : Nat} {s : Hp} (hs : ∀ W R, Sl W (s ++ R) a (iv .u8 (d k))) :
    PL id n d (k + 1) (C ++ [ptL id k n a (d k).length c]) (S ++ [s]) := by
  refine ⟨by simp [h.lc], by simp [h.ls], fun i hi => ?_⟩
  have hc := h.lc
  have hl := h.ls
  by_cases e : i = k
  · subst e
    refine ⟨a, c, ?_, fun W R => ?_⟩
    · simp [List.getD_eq_getElem?_getD, ← hc]
    · have : (S ++ [s]).getD i [] = s := by simp [List.getD_eq_getElem?_getD, ← hl]
      rw [this]; exact hs W R
  · obtain ⟨a', c', h1, h2⟩ := h.ent i (by omega)
    refine ⟨a', c', ?_, ?_⟩
    · rw [← h1]; simp [List.getD_eq_getElem?_getD, List.getElem?_append_left (show i < C.length by omega)]
    · have : (S ++ [s]).getD i [] = S.getD i [] := by simp [List.getD_eq_getElem?_getD, List.getElem?_append_left (show i < S.length by omega)]
      rw [this]; exact h2
theorem PL.cells {id n : Int} {d : Nat → List Int} {k : Nat} {C : List (List Value)} {S : List Hp} (h : PL id n d k C S) : ∀ c ∈ C, c.length = 4 := fun c hc => by
  obtain ⟨i, hi, rfl⟩ := List.mem_iff_getElem.1 hc
  obtain ⟨a, k', h1, _⟩ := h.ent i (by rw [← h.lc]; exact hi)
  rw [List.getD_eq_getElem?_getD, List.getElem?_eq_getElem hi] at h1
  simp only [Option.getD_some] at h1
  rw [h1]; rfl

set_option maxRecDepth 100000 in
theorem Split_c {W0 : World} {H : Hp} {id : Int} {a : Option Addr} {cp : Nat} {l : List Int} (hc : l.length ≤ cp) (hcp : cp ≤ 9223372036854775807) (hsl : ∀ H', (∀ w, St W0 w H' → St W0 w H) → Sl W0 H' a (iv .u8 l)) :
    CxX Try.prog W0 7 #[.int .u64 id, .slice a l.length cp] H (fun v H' => (l.length ≤ 24000 → 1 ≤ id → id ≤ 4611686018427387903 → ∃ sl ds C S, v = .tuple #[sl, .int .i64 0] ∧ H' = ds ++ (S.flatten ++ H) ∧ OwnS 35 4 sl (fCount l.length).toNat C.flatten ds ∧ PL id (fCount l.length) (cut l) (fCount l.length).toNat C S)) := by
  refine enter Try.func7 rfl Try.ntmps7 rfl ?_
  refine WC.seq ?_
  refine WC.region ?_
  refine WL.p (.none rfl) rfl (OpP.assign rfl) ?_
  refine WL.p (.none rfl) rfl (OpP.assign rfl) ?_
  refine WL.nil ?_
  refine EQ.sub ((Sub.cons (i := 0) rfl (Sub.cons (i := 1) rfl (Sub.cons (i := 4) rfl (Sub.cons (i := 5) rfl (Sub.nil _)))))) ?_
  refine EQ.code ?_
  refine WC.seq ?_
  refine WC.region ?_
  refine WL.p (.none rfl) rfl (OpP.move rfl) ?_
  refine WL.p (.none rfl) rfl (OpP.lenSl rfl Try.underlying23) ?_
  refine WL.callD rfl (.none rfl) rfl k_18 rfl (Count_c (by omega) (by omega)) ?_
  refine WL.p (.none rfl) rfl (OpP.assign rfl) ?_
  refine WL.nil ?_
  refine EQ.sub ((Sub.cons (i := 0) rfl (Sub.cons (i := 1) rfl (Sub.cons (i := 4) rfl (Sub.cons (i := 5) rfl (Sub.cons (i := 6) rfl (Sub.nil _))))))) ?_
  refine EQ.code ?_
  refine WC.seq ?_
  refine WC.block ?_
  refine WC.seq ?_
  refine WC.region ?_
  refine WL.p (.none rfl) rfl (OpP.move rfl) ?_
  refine WL.p (.none rfl) rfl (OpP.eqlI rfl rfl) ?_
  refine WL.p (.none rfl) rfl (OpP.assign rfl) ?_
  refine WL.nil ?_
  refine EQ.sub ((Sub.cons (i := 0) rfl (Sub.cons (i := 1) rfl (Sub.cons (i := 4) rfl (Sub.cons (i := 5) rfl (Sub.cons (i := 6) rfl (Sub.cons (i := 14) rfl (Sub.nil _)))))))) ?_
  refine EQ.code ?_
  refine WC.cond rfl (fun hc0 => ?_) (fun hc0 => ?_)
  · -- cond 0 t
    (try simp only [decide_eq_true_eq, decide_eq_false_iff_not, Bool.not_eq_true', Bool.not_eq_false', Bool.or_eq_true, Bool.and_eq_true, Bool.or_eq_false_iff, Bool.and_eq_false_imp, Option.isNone_some, Bool.false_eq_true, false_or, true_and] at hc0)
    refine WC.seq ?_
    refine WC.region ?_
    refine WL.p (.none rfl) rfl (OpP.assign rfl) ?_
    refine WL.p (.none rfl) rfl (OpP.assign rfl) ?_
    refine WL.nil ?_
    refine EQ.sub ((Sub.cons (i := 0) rfl (Sub.cons (i := 1) rfl (Sub.cons (i := 4) rfl (Sub.cons (i := 5) rfl (Sub.cons (i := 6) rfl (Sub.nil _))))))) ?_
    refine EQ.code ?_
    refine WC.ret ?_
    refine EQ.blockR ?_
    refine EQ.thenR ?_
    refine EQ.finD (H' := H) (res2 rfl (.tmp rfl) (.tmp rfl)) (by intro _ h; first | exact h | exact h.drop | exact h.drop.drop | exact h.drop.drop.drop | exact h.drop.drop.drop.drop | exact h.drop.drop.drop.drop.drop | exact h.drop.drop.drop.drop.drop.drop | exact h.drop_mid) ?_
    exact fun h => by unfold fCount at hc0; split at hc0 <;> omega
  · -- cond 0 f
    (try simp only [decide_eq_true_eq, decide_eq_false_iff_not, Bool.not_eq_true', Bool.not_eq_false', Bool.or_eq_true, Bool.and_eq_true, Bool.or_eq_false_iff, Bool.and_eq_false_imp, Option.isNone_some, Bool.false_eq_true, false_or, true_and] at hc0)
    have hl24 : l.length ≤ 24000 := by unfold fCount at hc0; split at hc0 <;> omega
    have hfc := fCount_pos (n := (l.length : Int)) (by omega) (by omega)
    refine WC.seq ?_
    refine WC.region ?_
    refine WL.p (.none rfl) rfl (OpP.move rfl) ?_
    refine WL.callD rfl (.none rfl) rfl k_19 rfl (isID_c) ?_
    refine WL.p (.none rfl) rfl (OpP.not rfl) ?_
    refine WL.p (.none rfl) rfl (OpP.assign rfl) ?_
    refine WL.nil ?_
    refine EQ.sub ((Sub.cons (i := 0) rfl (Sub.cons (i := 1) rfl (Sub.cons (i := 4) rfl (Sub.cons (i := 5) rfl (Sub.cons (i := 6) rfl (Sub.cons (i := 17) rfl (Sub.nil _)))))))) ?_
    refine EQ.code ?_
    refine WC.cond rfl (fun hc1 => ?_) (fun hc1 => ?_)
    · -- cond 1 t
      (try simp only [decide_eq_true_eq, decide_eq_false_iff_not, Bool.not_eq_true', Bool.not_eq_false', Bool.or_eq_true, Bool.and_eq_true, Bool.or_eq_false_iff, Bool.and_eq_false_imp, Option.isNone_some, Bool.false_eq_true, false_or, true_and] at hc1)
      refine WC.seq ?_
      refine WC.region ?_
      refine WL.p (.none rfl) rfl (OpP.assign rfl) ?_
      refine WL.p (.none rfl) rfl (OpP.assign rfl) ?_
      refine WL.nil ?_
      refine EQ.sub ((Sub.cons (i := 0) rfl (Sub.cons (i := 1) rfl (Sub.cons (i := 4) rfl (Sub.cons (i := 5) rfl (Sub.cons (i := 6) rfl (Sub.nil _))))))) ?_
      refine EQ.code ?_
      refine WC.ret ?_
      refine EQ.blockR ?_
      refine EQ.thenR ?_
      refine EQ.finD (H' := H) (res2 rfl (.tmp rfl) (.tmp rfl)) (by intro _ h; first | exact h | exact h.drop | exact h.drop.drop | exact h.drop.drop.drop | exact h.drop.drop.drop.drop | exact h.drop.drop.drop.drop.drop | exact h.drop.drop.drop.drop.drop.drop | exact h.drop_mid) ?_
      exact fun _ h1 h2 => by omega
    · -- cond 1 f
      (try simp only [decide_eq_true_eq, decide_eq_false_iff_not, Bool.not_eq_true', Bool.not_eq_false', Bool.or_eq_true, Bool.and_eq_true, Bool.or_eq_false_iff, Bool.and_eq_false_imp, Option.isNone_some, Bool.false_eq_true, false_or, true_and] at hc1)
      refine WC.skip ?_
      refine EQ.blockN ?_
      refine EQ.code ?_
      refine WC.seq ?_
      refine WC.region ?_
      refine WL.p (.none rfl) rfl (OpP.assign rfl) ?_
      refine WL.nil ?_
      refine EQ.sub ((Sub.cons (i := 0) rfl (Sub.cons (i := 1) rfl (Sub.cons (i := 4) rfl (Sub.cons (i := 5) rfl (Sub.cons (i := 6) rfl (Sub.cons (i := 7) rfl (Sub.nil _)))))))) ?_
      refine EQ.code ?_
      refine WC.seq ?_
      refine WC.seq ?_
      refine WC.region ?_
      refine WL.p (.none rfl) rfl (OpP.move rfl) ?_
      refine WL.p (.none rfl) rfl (OpP.move rfl) ?_
      refine WL.nil ?_
      refine EQ.sub ((Sub.cons (i := 0) rfl (Sub.cons (i := 1) rfl (Sub.cons (i := 4) rfl (Sub.cons (i := 5) rfl (Sub.cons (i := 6) rfl (Sub.cons (i := 7) rfl (Sub.cons (i := 21) rfl (Sub.cons (i := 22) rfl (Sub.nil _)))))))))) ?_
      refine EQ.code ?_
      refine WC.block ?_
      refine WC.loop (σ := Nat × Value × Hp × List (List Value) × List Hp) (fun s => [(0, .int .u64 id), (1, .slice a l.length cp), (6, .int .i64 (fCount l.length)), (7, s.2.1), (21, .int .i64 (fCount l.length)), (22, .int .i64 (s.1 : Int))]) (fun s => s.2.2.1 ++ (s.2.2.2.2.flatten ++ H)) (fun s => (s.1 : Int) ≤ fCount l.length ∧ OwnS 35 4 s.2.1 s.1 s.2.2.2.1.flatten s.2.2.1 ∧ PL id (fCount l.length) (cut l) s.1 s.2.2.2.1 s.2.2.2.2) (fun s => (fCount l.length).toNat - s.1) (0, .slice none 0 0, [], [], []) ⟨by omega, OwnS.nil _ _, PL.nil _ _ _⟩ ((Sub.cons rfl (Sub.cons rfl (Sub.cons rfl (Sub.cons rfl (Sub.cons rfl (Sub.cons rfl (Sub.nil _)))))))) (fun _ h => h) (fun ⟨k, sv, sg, C, S⟩ hinv => ?_)
      (try simp only at hinv ⊢)
      obtain ⟨hk, hown, hpl⟩ := hinv
      refine WC.seq ?_
      refine WC.region ?_
      refine WL.p (.none rfl) rfl (OpP.lss rfl rfl) ?_
      refine WL.nil ?_
      refine EQ.sub ((Sub.cons (i := 0) rfl (Sub.cons (i := 1) rfl (Sub.cons (i := 6) rfl (Sub.cons (i := 7) rfl (Sub.cons (i := 21) rfl (Sub.cons (i := 22) rfl (Sub.cons (i := 23) rfl (Sub.nil _))))))))) ?_
      refine EQ.code ?_
      refine WC.seq ?_
      refine WC.cond rfl (fun hc2 => ?_) (fun hc2 => ?_)
      · -- cond 2 t
        (try simp only [decide_eq_true_eq, decide_eq_false_iff_not, Bool.not_eq_true', Bool.not_eq_false', Bool.or_eq_true, Bool.and_eq_true, Bool.or_eq_false_iff, Bool.and_eq_false_imp, Option.isNone_some, Bool.false_eq_true, false_or, true_and] at hc2)
        refine WC.skip ?_
        refine EQ.code ?_
        refine WC.seq ?_
        refine WC.block ?_
        refine WC.seq ?_
        refine WC.region ?_
        refine WL.p (.none rfl) rfl (OpP.move rfl) ?_
        refine WL.p (.none rfl) rfl (OpP.assign rfl) ?_
        refine WL.nil ?_
        refine EQ.sub ((Sub.cons (i := 0) rfl (Sub.cons (i := 1) rfl (Sub.cons (i := 6) rfl (Sub.cons (i := 7) rfl (Sub.cons (i := 8) rfl (Sub.cons (i := 21) rfl (Sub.cons (i := 22) rfl (Sub.nil _))))))))) ?_
        refine EQ.code ?_
        refine WC.seq ?_
        refine WC.region ?_
        refine WL.p (.none rfl) rfl (OpP.move rfl) ?_
        first | (refine WL.p (.none rfl) rfl (OpP.mul64 rfl rfl (by omega)) ?_) | (refine WL.p (.none rfl) rfl (OpP.mul rfl rfl) ?_)
        refine WL.p (.none rfl) rfl (OpP.move rfl) ?_
        first | (refine WL.p (.none rfl) rfl (OpP.add64 rfl rfl (by omega)) ?_) | (refine WL.p (.none rfl) rfl (OpP.add rfl rfl) ?_)
        first | (refine WL.p (.none rfl) rfl (OpP.mul64 rfl rfl (by omega)) ?_) | (refine WL.p (.none rfl) rfl (OpP.mul rfl rfl) ?_)
        refine WL.p (.none rfl) rfl (OpP.move rfl) ?_
        refine WL.p (.none rfl) rfl (OpP.lenSl rfl Try.underlying23) ?_
        refine WL.p (.none rfl) rfl (OpP.min2 rfl rfl) ?_
        refine WL.p (.none rfl) rfl (OpP.assign rfl) ?_
        refine WL.p (.none rfl) rfl (OpP.assign rfl) ?_
        refine WL.nil ?_
        refine EQ.sub ((Sub.cons (i := 0) rfl (Sub.cons (i := 1) rfl (Sub.cons (i := 6) rfl (Sub.cons (i := 7) rfl (Sub.cons (i := 8) rfl (Sub.cons (i := 9) rfl (Sub.cons (i := 10) rfl (Sub.cons (i := 21) rfl (Sub.cons (i := 22) rfl (Sub.nil _))))))))))) ?_
        refine EQ.code ?_
        refine WC.region ?_
        refine WL.p (.none rfl) rfl (OpP.move rfl) ?_
        refine WL.p (.none rfl) rfl (OpP.move rfl) ?_
        refine WL.p (.none rfl) rfl (OpP.move rfl) ?_
        refine WL.p (.none rfl) rfl (OpP.move rfl) ?_
        refine WL.p (.none rfl) rfl (OpP.move rfl) ?_
        refine WL.p (.none rfl) rfl (OpP.move rfl) ?_
        refine WL.p (.none rfl) rfl (OpP.move rfl) ?_
        refine WL.p (.none rfl) rfl (OpP.move rfl) ?_
        refine WL.p (.none rfl) rfl (OpP.slice rfl sl_23 (l := _) (⟨_, rfl⟩) (⟨_, rfl⟩) (⟨_, rfl⟩) (by omega) (by omega) (by omega) (by omega)) ?_
        refine WL.call rfl (.none rfl) rfl k_20 rfl (Clone_c (l := (l.drop ((k : Int) * 480).toNat).take 480) (by simp; omega) (by simp; omega) (((hsl _ (fun w h => h.sublist ((List.sublist_append_right _ _).trans (List.sublist_append_right _ _)))).cutB ((k : Int) * 480) _ (by intro hq; omega)).takeB 480)) ?_
        rintro _ _ ⟨dn, rfl, hown2, _⟩
        rw [cut_eq] at hown2
        rw [show (min (((k : Int) + 1) * 480) (l.length : Int) - (k : Int) * 480).toNat = (cut l k).length by rw [cut_len]; omega] at hown2
        obtain ⟨pa, pc, rfl, hpc, hpc2, hps⟩ := hown2.val
        refine WL.p (.none rfl) rfl (OpP.buildS bld_35 (kI rfl (kI rfl (kI rfl (kI rfl kI0)))) (by rfl)) ?_
        refine WL.buildSlice sl_25 rfl rfl (by decide) (l := ptL id (k : Int) (fCount l.length) pa (cut l k).length pc) (fun z _ => fill4 z _ _ _ _) (fun b44 => ?_)
        refine WL.perm (H' := sg ++ ((b44, cl (ptL id (k : Int) (fCount l.length) pa (cut l k).length pc) 35) :: (dn ++ (S.flatten ++ H)))) ?_ ?_
        · exact (List.perm_append_comm_assoc (_ :: dn) sg _)
        refine WL.append (seg := sg) (R := (b44, cl (ptL id (k : Int) (fCount l.length) pa (cut l k).length pc) 35) :: (dn ++ (S.flatten ++ H))) (news := ptL id (k : Int) (fCount l.length) pa (cut l k).length pc) rfl (.none rfl) rfl sl_25 rfl rfl hown (Sl.own (List.mem_append_right _ List.mem_cons_self) (fun j x hj => by simpa using hj)) rfl (fun u hu => by simp at hu; rcases hu with rfl | rfl | rfl | rfl <;> rfl) (by decide) (by simp only [maxLen]; omega) (by omega) (fun v45 sg2 hown3 _ => ?_)
        refine WL.p (.none rfl) rfl (OpP.assign rfl) ?_
        refine WL.nil ?_
        refine EQ.sub ((Sub.cons (i := 0) rfl (Sub.cons (i := 1) rfl (Sub.cons (i := 6) rfl (Sub.cons (i := 7) rfl (Sub.cons (i := 21) rfl (Sub.cons (i := 22) rfl (Sub.nil _)))))))) ?_
        refine EQ.blockN ?_
        refine EQ.code ?_
        refine WC.region ?_
        first | (refine WL.p (.none rfl) rfl (OpP.add64 rfl rfl (by omega)) ?_) | (refine WL.p (.none rfl) rfl (OpP.add rfl rfl) ?_)
        refine WL.p (.none rfl) rfl (OpP.move rfl) ?_
        refine WL.nil ?_
        refine EQ.sub ((Sub.cons (i := 0) rfl (Sub.cons (i := 1) rfl (Sub.cons (i := 6) rfl (Sub.cons (i := 7) rfl (Sub.cons (i := 21) rfl (Sub.cons (i := 22) rfl (Sub.nil _)))))))) ?_
        refine EQ.again (k + 1, v45, sg2, C ++ [ptL id k (fCount l.length) pa (cut l k).length pc], S ++ [dn]) ?_ ?_ ?_ ?_
        · exact ⟨by (try simp only); omega, by simpa [List.flatten_append] using hown3, hpl.snoc hps⟩
        · (try simp only); omega
        · exact ((Sub.cons rfl (Sub.cons rfl (Sub.cons rfl (Sub.cons rfl (Sub.cons rfl (Sub.cons rfl (Sub.nil _))))))))
        · intro w h
          have h3 := (h.sublist (List.Sublist.append_left (List.sublist_cons_self _ _) sg2)).perm (List.Perm.append_left sg2 (List.perm_append_comm_assoc dn S.flatten H))
          simpa [List.flatten_append, List.append_assoc] using h3
      · -- cond 2 f
        (try simp only [decide_eq_true_eq, decide_eq_false_iff_not, Bool.not_eq_true', Bool.not_eq_false', Bool.or_eq_true, Bool.and_eq_true, Bool.or_eq_false_iff, Bool.and_eq_false_imp, Option.isNone_some, Bool.false_eq_true, false_or, true_and] at hc2)
        refine WC.exit ?_
        refine EQ.thenE ?_
        refine EQ.thenE ?_
        refine EQ.blockHit ?_
        refine EQ.code ?_
        refine WC.seq ?_
        refine WC.region ?_
        refine WL.p (.none rfl) rfl (OpP.move rfl) ?_
        refine WL.p (.none rfl) rfl (OpP.assign rfl) ?_
        refine WL.p (.none rfl) rfl (OpP.assign rfl) ?_
        refine WL.nil ?_
        refine EQ.sub ((Sub.cons (i := 4) rfl (Sub.cons (i := 5) rfl (Sub.nil _)))) ?_
        refine EQ.code ?_
        refine WC.ret ?_
        refine EQ.finD (H' := sg ++ (S.flatten ++ H)) (res2 rfl (.tmp rfl) (.tmp rfl)) (by intro _ h; first | exact h | exact h.drop | exact h.drop.drop | exact h.drop.drop.drop | exact h.drop.drop.drop.drop | exact h.drop.drop.drop.drop.drop | exact h.drop.drop.drop.drop.drop.drop | exact h.drop_mid) ?_
        refine fun _ _ _ => ⟨sv, sg, C, S, rfl, rfl, ?_, ?_⟩
        · rwa [show (fCount l.length).toNat = k by omega]
        · rwa [show (fCount l.length).toNat = k by omega]

end Go.Proofs.Ytjdkohfgbekheaa
