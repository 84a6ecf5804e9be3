/- Rf: walks of functions of the program, each over the rules of Sx. No conditions but those in the theorems' heads. -/
import Derived.Test.YtmeimjpjelmchaaLc
import Derived.Test.YtmeimjpjelmchaaProg
set_option linter.unusedVariables false
set_option linter.unusedSimpArgs false
namespace Go.Proofs.Ytmeimjpjelmchaa
open Go.RowKit Go.Sx
namespace Rf
theorem bld_85 : bldS Try.prog 85 = some ([(0, 1), (1, 1), (2, 1), (3, 1)], [.slice none 0 0, .slice none 0 0, .int .i64 0, .bool false]) := by kernel_rfl
theorem el_46 : elI Try.prog 46 = some (none, 4, false, 1) := by kernel_rfl
theorem fld_85_1 : fldI Try.prog 85 1 = some (1, false, 1) := by kernel_rfl
theorem fld_85_3 : fldI Try.prog 85 3 = some (3, false, 1) := by kernel_rfl
theorem k_24 : Cal Try.prog 24 := ⟨_, _, Try.func24, by kernel_rfl, rfl⟩
theorem k_26 : Cal Try.prog 26 := ⟨_, _, Try.func26, by kernel_rfl, rfl⟩
theorem k_31 : Cal Try.prog 31 := ⟨_, _, Try.func31, by kernel_rfl, rfl⟩
theorem sl_46 : slI Try.prog 46 = some (4, 1, 1) := by kernel_rfl
theorem ty_4 : tyI Try.prog 4 = some (false, 1) := by kernel_rfl
theorem ty_46 : tyI Try.prog 46 = some (false, 1) := by kernel_rfl
theorem z_4 : zI Try.prog 4 = some [.bool false] := by kernel_rfl
end Rf
open Rf

/-- The other sender: what it has of its chunks, where it stands, whether it was taken back. -/
structure Rsn where
  ca : Option Addr
  cn : Nat
  cc : Nat
  hb : Nat
  has : List Bool
  pos : Int
  gone : Bool
abbrev bv (l : List Bool) : List Value := l.map Value.bool
abbrev Rsn.l (x : Rsn) : List Value := [.slice x.ca x.cn x.cc, .slice (some ⟨x.hb, 0, none⟩) x.has.length x.has.length, .int .i64 x.pos, .bool x.gone]
abbrev Rsn.obj (x : Rsn) : Obj := cl x.l 85
abbrev Rsn.hob (x : Rsn) : Obj := cl (bv x.has) 4
def missB (l : List Bool) (k : Nat) : Nat := (l.take k).countP (fun b => !b)
theorem missB_le (l : List Bool) (k : Nat) : missB l k ≤ k := by
  unfold missB
  exact Nat.le_trans List.countP_le_length (by simp; omega)
theorem missB_succ (l : List Bool) (k : Nat) (hk : k < l.length) : missB l (k + 1) = missB l k + (if l.getD k false then 0 else 1) := by
  unfold missB
  rw [List.take_succ_eq_append_getElem hk, List.countP_append]
  have e : l.getD k false = l[k] := by simp [List.getD_eq_getElem?_getD, hk]
  rw [e]
  cases l[k] <;> simp
def Rsn.left (x : Rsn) : Int := if x.gone then 0 else ((missB x.has x.has.length : Nat) : Int)
def Rsn.state (x : Rsn) : Int := if x.gone then 1 else if x.left = 0 then 2 else 0
theorem bv_get {W0 : World} {H : Hp} {b : Nat} {l : List Bool} (h : (b, cl (bv l) 4) ∈ H) (k : Nat) (hk : k < l.length) : Rd W0 H ⟨b, 0 + k * 1, none⟩ (.bool (l.getD k false)) := by
  refine Rd.own h ?_
  simp [List.getD_eq_getElem?_getD, hk]

set_option maxRecDepth 100000 in
theorem rLeft_c {W0 : World} {H : Hp} {g i j : Nat} {x : Rsn} (hi : H[i]? = some (g, x.obj)) (hj : H[j]? = some (x.hb, x.hob)) (hlen : x.has.length ≤ 64) : CxD Try.prog W0 24 #[.pointer (some ⟨g, 0, none⟩)] H (.int .i64 x.left) H := by
  refine enter Try.func24 rfl Try.ntmps24 rfl ?_
  refine WC.seq ?_
  refine WC.region ?_
  refine WL.p (.none rfl) rfl (OpP.assign rfl) ?_
  refine WL.nil ?_
  refine EQ.sub ((Sub.cons (i := 0) rfl (Sub.cons (i := 2) rfl (Sub.nil _)))) ?_
  refine EQ.code ?_
  refine WC.seq ?_
  refine WC.region ?_
  refine WL.p (.none rfl) rfl (OpP.assign rfl) ?_
  refine WL.nil ?_
  refine EQ.sub ((Sub.cons (i := 0) rfl (Sub.cons (i := 2) rfl (Sub.cons (i := 3) rfl (Sub.nil _))))) ?_
  refine EQ.code ?_
  refine WC.seq ?_
  refine WC.seq ?_
  refine WC.region ?_
  refine WL.p (.none rfl) rfl (OpP.assign rfl) ?_
  refine WL.nil ?_
  refine EQ.sub ((Sub.cons (i := 0) rfl (Sub.cons (i := 2) rfl (Sub.cons (i := 3) rfl (Sub.cons (i := 4) rfl (Sub.nil _)))))) ?_
  refine EQ.code ?_
  refine WC.block ?_
  refine WC.loop (σ := Nat) (fun k => [(0, .pointer (some ⟨g, 0, none⟩)), (3, .int .i64 ((missB x.has k : Nat) : Int)), (4, .int .i64 (k : Int))]) (fun k => H) (fun k => k ≤ x.has.length ∧ (x.gone = true → k = 0)) (fun k => x.has.length - k) 0 ⟨Nat.zero_le _, fun _ => rfl⟩ ((Sub.cons rfl (Sub.cons rfl (Sub.cons rfl (Sub.nil _))))) (fun _ h => h) (fun k hinv => ?_)
  obtain ⟨hk, hg⟩ := hinv
  have hml := missB_le x.has k
  refine WC.seq ?_
  refine WC.seq ?_
  refine WC.region ?_
  refine WL.p (.none rfl) rfl (OpP.move rfl) ?_
  refine WL.p (.none rfl) rfl (OpP.move rfl) ?_
  refine WL.p (.none rfl) rfl (OpP.nilCheck rfl) ?_
  refine WL.p (.none rfl) rfl (OpP.fieldAddr rfl fld_85_1) ?_
  refine WL.p (.none rfl) rfl (OpP.load rfl ty_46 (Rd.own (by repeat (first | assumption | exact List.mem_cons_self | exact List.mem_of_getElem? (by assumption) | exact set_mem (by first | assumption | exact set_hit (by assumption)) | apply List.mem_cons_of_mem | apply List.mem_append_right)) (by rfl))) ?_
  refine WL.p (.none rfl) rfl (OpP.lenSl rfl Try.underlying46) ?_
  refine WL.p (.none rfl) rfl (OpP.lss rfl rfl) ?_
  refine WL.p (.none rfl) rfl (OpP.move rfl) ?_
  refine WL.g (.bool rfl rfl rfl) rfl (fun hg => OpP.move rfl) ?_
  refine WL.g (.bool rfl rfl rfl) rfl (fun hg => OpP.nilCheck (gk hg rfl)) ?_
  refine WL.g (.bool rfl rfl rfl) rfl (fun hg => OpP.fieldAddr (gk hg rfl) fld_85_3) ?_
  refine WL.g (.bool rfl rfl rfl) rfl (fun hg => OpP.load (gk hg rfl) ty_4 (Rd.own (by repeat (first | assumption | exact List.mem_cons_self | exact List.mem_of_getElem? (by assumption) | exact set_mem (by first | assumption | exact set_hit (by assumption)) | apply List.mem_cons_of_mem | apply List.mem_append_right)) (by rfl))) ?_
  refine WL.g (.bool rfl rfl rfl) rfl (fun hg => OpP.not (gk hg rfl)) ?_
  refine WL.p (.none rfl) rfl (OpP.pand rfl rfl rfl) ?_
  refine WL.nil ?_
  refine EQ.sub ((Sub.cons (i := 0) rfl (Sub.cons (i := 3) rfl (Sub.cons (i := 4) rfl (Sub.cons (i := 18) rfl (Sub.nil _)))))) ?_
  refine EQ.code ?_
  refine WC.cond rfl (fun hc0 => ?_) (fun hc0 => ?_)
  · -- cond 0 t
    (try simp only [decide_eq_true_eq, decide_eq_false_iff_not, Bool.not_eq_true', Bool.not_eq_false', Bool.or_eq_true, Bool.and_eq_true, Bool.or_eq_false_iff, Bool.and_eq_false_imp, Option.isNone_some, Bool.false_eq_true, false_or, true_and] at hc0)
    refine WC.skip ?_
    refine EQ.code ?_
    refine WC.seq ?_
    refine WC.block ?_
    refine WC.seq ?_
    refine WC.region ?_
    refine WL.p (.none rfl) rfl (OpP.move rfl) ?_
    refine WL.p (.none rfl) rfl (OpP.nilCheck rfl) ?_
    refine WL.p (.none rfl) rfl (OpP.fieldAddr rfl fld_85_1) ?_
    refine WL.p (.none rfl) rfl (OpP.load rfl ty_46 (Rd.own (by repeat (first | assumption | exact List.mem_cons_self | exact List.mem_of_getElem? (by assumption) | exact set_mem (by first | assumption | exact set_hit (by assumption)) | apply List.mem_cons_of_mem | apply List.mem_append_right)) (by rfl))) ?_
    refine WL.p (.none rfl) rfl (OpP.move rfl) ?_
    refine WL.p (.none rfl) rfl (OpP.indexS rfl rfl el_46 (by omega) (by omega)) ?_
    refine WL.p (.none rfl) rfl (OpP.load rfl ty_4 (bv_get (List.mem_of_getElem? hj) k (by omega))) ?_
    refine WL.p (.none rfl) rfl (OpP.not rfl) ?_
    refine WL.nil ?_
    refine EQ.sub ((Sub.cons (i := 0) rfl (Sub.cons (i := 3) rfl (Sub.cons (i := 4) rfl (Sub.cons (i := 28) rfl (Sub.nil _)))))) ?_
    refine EQ.code ?_
    refine WC.cond rfl (fun hc1 => ?_) (fun hc1 => ?_)
    · -- cond 1 t
      (try simp only [decide_eq_true_eq, decide_eq_false_iff_not, Bool.not_eq_true', Bool.not_eq_false', Bool.or_eq_true, Bool.and_eq_true, Bool.or_eq_false_iff, Bool.and_eq_false_imp, Option.isNone_some, Bool.false_eq_true, false_or, true_and] at hc1)
      refine WC.region ?_
      refine WL.p (.none rfl) rfl (OpP.move rfl) ?_
      first | (refine WL.p (.none rfl) rfl (OpP.add64 rfl rfl (by omega)) ?_) | (refine WL.p (.none rfl) rfl (OpP.add rfl rfl) ?_)
      refine WL.p (.none rfl) rfl (OpP.assign rfl) ?_
      refine WL.nil ?_
      refine EQ.sub ((Sub.cons (i := 0) rfl (Sub.cons (i := 3) rfl (Sub.cons (i := 4) rfl (Sub.nil _))))) ?_
      refine EQ.blockN ?_
      refine EQ.code ?_
      refine WC.region ?_
      refine WL.p (.none rfl) rfl (OpP.move rfl) ?_
      first | (refine WL.p (.none rfl) rfl (OpP.add64 rfl rfl (by omega)) ?_) | (refine WL.p (.none rfl) rfl (OpP.add rfl rfl) ?_)
      refine WL.p (.none rfl) rfl (OpP.assign rfl) ?_
      refine WL.nil ?_
      refine EQ.sub ((Sub.cons (i := 0) rfl (Sub.cons (i := 3) rfl (Sub.cons (i := 4) rfl (Sub.nil _))))) ?_
      have hs := missB_succ x.has k (by omega)
      (try simp only [Int.toNat_natCast] at hc1)
      rw [hc1] at hs
      refine EQ.again (k + 1) ?_ ?_ ?_ ?_
      · exact ⟨by omega, fun h => by rw [hc0.2] at h; cases h⟩
      · omega
      · exact (Sub.cons rfl (Sub.cons (congrArg some (congrArg (Value.int .i64) (by simp at hs; omega))) (Sub.cons rfl (Sub.nil _))))
      · intro _ h; first | exact h | exact h.drop | exact h.drop_mid | exact h.drop_mid.drop_mid
    · -- cond 1 f
      (try simp only [decide_eq_true_eq, decide_eq_false_iff_not, Bool.not_eq_true', Bool.not_eq_false', Bool.or_eq_true, Bool.and_eq_true, Bool.or_eq_false_iff, Bool.and_eq_false_imp, Option.isNone_some, Bool.false_eq_true, false_or, true_and] at hc1)
      refine WC.skip ?_
      refine EQ.blockN ?_
      refine EQ.code ?_
      refine WC.region ?_
      refine WL.p (.none rfl) rfl (OpP.move rfl) ?_
      first | (refine WL.p (.none rfl) rfl (OpP.add64 rfl rfl (by omega)) ?_) | (refine WL.p (.none rfl) rfl (OpP.add rfl rfl) ?_)
      refine WL.p (.none rfl) rfl (OpP.assign rfl) ?_
      refine WL.nil ?_
      refine EQ.sub ((Sub.cons (i := 0) rfl (Sub.cons (i := 3) rfl (Sub.cons (i := 4) rfl (Sub.nil _))))) ?_
      have hs := missB_succ x.has k (by omega)
      (try simp only [Int.toNat_natCast] at hc1)
      rw [hc1] at hs
      refine EQ.again (k + 1) ?_ ?_ ?_ ?_
      · exact ⟨by omega, fun h => by rw [hc0.2] at h; cases h⟩
      · omega
      · exact (Sub.cons rfl (Sub.cons (congrArg some (congrArg (Value.int .i64) (by simp at hs; omega))) (Sub.cons rfl (Sub.nil _))))
      · intro _ h; first | exact h | exact h.drop | exact h.drop_mid | exact h.drop_mid.drop_mid
  · -- cond 0 f
    (try simp only [decide_eq_true_eq, decide_eq_false_iff_not, Bool.not_eq_true', Bool.not_eq_false', Bool.or_eq_true, Bool.and_eq_true, Bool.or_eq_false_iff, Bool.and_eq_false_imp, Option.isNone_some, Bool.false_eq_true, false_or, true_and] at hc0)
    refine WC.exit ?_
    refine EQ.thenE ?_
    refine EQ.thenE ?_
    refine EQ.blockHit ?_
    refine EQ.code ?_
    refine WC.seq ?_
    refine WC.region ?_
    refine WL.p (.none rfl) rfl (OpP.move rfl) ?_
    refine WL.p (.none rfl) rfl (OpP.assign rfl) ?_
    refine WL.nil ?_
    refine EQ.sub ((Sub.cons (i := 2) rfl (Sub.nil _))) ?_
    refine EQ.code ?_
    refine WC.ret ?_
    refine EQ.fin (res1 rfl (.tmp rfl)) ?_
    refine ⟨congrArg (Value.int .i64) ?_, rfl⟩
    unfold Rsn.left
    cases hgn : x.gone with
    | true => rw [hg hgn]; simp [missB]
    | false =>
      have : k = x.has.length := by
        by_cases hq : k < x.has.length
        · have := hc0 (by omega); rw [hgn] at this; cases this
        · omega
      rw [this]; simp

set_option maxRecDepth 100000 in
theorem rState_c {W0 : World} {H : Hp} {g i j : Nat} {x : Rsn} (hi : H[i]? = some (g, x.obj)) (hj : H[j]? = some (x.hb, x.hob)) (hlen : x.has.length ≤ 64) : CxD Try.prog W0 26 #[.pointer (some ⟨g, 0, none⟩)] H (.int .i64 x.state) H := by
  refine enter Try.func26 rfl Try.ntmps26 rfl ?_
  refine WC.seq ?_
  refine WC.region ?_
  refine WL.p (.none rfl) rfl (OpP.assign rfl) ?_
  refine WL.nil ?_
  refine EQ.sub ((Sub.cons (i := 0) rfl (Sub.cons (i := 2) rfl (Sub.nil _)))) ?_
  refine EQ.code ?_
  refine WC.seq ?_
  refine WC.seq ?_
  refine WC.region ?_
  refine WL.p (.none rfl) rfl (OpP.move rfl) ?_
  refine WL.p (.none rfl) rfl (OpP.nilCheck rfl) ?_
  refine WL.p (.none rfl) rfl (OpP.fieldAddr rfl fld_85_3) ?_
  refine WL.p (.none rfl) rfl (OpP.load rfl ty_4 (Rd.own (by repeat (first | assumption | exact List.mem_cons_self | exact List.mem_of_getElem? (by assumption) | exact set_mem (by first | assumption | exact set_hit (by assumption)) | apply List.mem_cons_of_mem | apply List.mem_append_right)) (by rfl))) ?_
  refine WL.nil ?_
  refine EQ.sub ((Sub.cons (i := 0) rfl (Sub.cons (i := 2) rfl (Sub.cons (i := 6) rfl (Sub.nil _))))) ?_
  refine EQ.code ?_
  refine WC.cond rfl (fun hc0 => ?_) (fun hc0 => ?_)
  · -- cond 0 t
    (try simp only [decide_eq_true_eq, decide_eq_false_iff_not, Bool.not_eq_true', Bool.not_eq_false', Bool.or_eq_true, Bool.and_eq_true, Bool.or_eq_false_iff, Bool.and_eq_false_imp, Option.isNone_some, Bool.false_eq_true, false_or, true_and] at hc0)
    refine WC.seq ?_
    refine WC.region ?_
    refine WL.p (.none rfl) rfl (OpP.assign rfl) ?_
    refine WL.nil ?_
    refine EQ.sub ((Sub.cons (i := 0) rfl (Sub.cons (i := 2) rfl (Sub.nil _)))) ?_
    refine EQ.code ?_
    refine WC.ret ?_
    refine EQ.thenR ?_
    refine EQ.fin (res1 rfl (.tmp rfl)) ?_
    exact ⟨by simp [Rsn.state, hc0], rfl⟩
  · -- cond 0 f
    (try simp only [decide_eq_true_eq, decide_eq_false_iff_not, Bool.not_eq_true', Bool.not_eq_false', Bool.or_eq_true, Bool.and_eq_true, Bool.or_eq_false_iff, Bool.and_eq_false_imp, Option.isNone_some, Bool.false_eq_true, false_or, true_and] at hc0)
    refine WC.skip ?_
    refine EQ.code ?_
    refine WC.seq ?_
    refine WC.seq ?_
    refine WC.region ?_
    refine WL.p (.none rfl) rfl (OpP.move rfl) ?_
    refine WL.callD rfl (.none rfl) rfl k_24 rfl (rLeft_c hi hj hlen) ?_
    refine WL.p (.none rfl) rfl (OpP.eqlI rfl rfl) ?_
    refine WL.nil ?_
    refine EQ.sub ((Sub.cons (i := 2) rfl (Sub.cons (i := 9) rfl (Sub.nil _)))) ?_
    refine EQ.code ?_
    refine WC.cond rfl (fun hc1 => ?_) (fun hc1 => ?_)
    · -- cond 1 t
      (try simp only [decide_eq_true_eq, decide_eq_false_iff_not, Bool.not_eq_true', Bool.not_eq_false', Bool.or_eq_true, Bool.and_eq_true, Bool.or_eq_false_iff, Bool.and_eq_false_imp, Option.isNone_some, Bool.false_eq_true, false_or, true_and] at hc1)
      refine WC.seq ?_
      refine WC.region ?_
      refine WL.p (.none rfl) rfl (OpP.assign rfl) ?_
      refine WL.nil ?_
      refine EQ.sub ((Sub.cons (i := 2) rfl (Sub.nil _))) ?_
      refine EQ.code ?_
      refine WC.ret ?_
      refine EQ.thenR ?_
      refine EQ.fin (res1 rfl (.tmp rfl)) ?_
      exact ⟨by simp [Rsn.state, hc0, hc1], rfl⟩
    · -- cond 1 f
      (try simp only [decide_eq_true_eq, decide_eq_false_iff_not, Bool.not_eq_true', Bool.not_eq_false', Bool.or_eq_true, Bool.and_eq_true, Bool.or_eq_false_iff, Bool.and_eq_false_imp, Option.isNone_some, Bool.false_eq_true, false_or, true_and] at hc1)
      refine WC.skip ?_
      refine EQ.code ?_
      refine WC.seq ?_
      refine WC.region ?_
      refine WL.p (.none rfl) rfl (OpP.assign rfl) ?_
      refine WL.nil ?_
      refine EQ.sub ((Sub.cons (i := 2) rfl (Sub.nil _))) ?_
      refine EQ.code ?_
      refine WC.ret ?_
      refine EQ.fin (res1 rfl (.tmp rfl)) ?_
      exact ⟨by simp [Rsn.state, hc0, hc1], rfl⟩

set_option maxRecDepth 100000 in
theorem rCancel_c {W0 : World} {H : Hp} {g i j : Nat} {x : Rsn} (hi : H[i]? = some (g, x.obj)) (hj : H[j]? = some (x.hb, x.hob)) (hlen : x.has.length ≤ 64) : CxD Try.prog W0 22 #[.pointer (some ⟨g, 0, none⟩)] H (.int .i64 (if x.state = 0 then 0 else 7)) (if x.state = 0 then H.set i (g, { x with gone := true }.obj) else H) := by
  refine enter Try.func22 rfl Try.ntmps22 rfl ?_
  refine WC.seq ?_
  refine WC.region ?_
  refine WL.p (.none rfl) rfl (OpP.assign rfl) ?_
  refine WL.nil ?_
  refine EQ.sub ((Sub.cons (i := 0) rfl (Sub.cons (i := 2) rfl (Sub.nil _)))) ?_
  refine EQ.code ?_
  refine WC.seq ?_
  refine WC.seq ?_
  refine WC.region ?_
  refine WL.p (.none rfl) rfl (OpP.move rfl) ?_
  refine WL.callD rfl (.none rfl) rfl k_26 rfl (rState_c hi hj hlen) ?_
  refine WL.p (.none rfl) rfl (OpP.neqI rfl rfl) ?_
  refine WL.nil ?_
  refine EQ.sub ((Sub.cons (i := 0) rfl (Sub.cons (i := 2) rfl (Sub.cons (i := 5) rfl (Sub.nil _))))) ?_
  refine EQ.code ?_
  refine WC.cond rfl (fun hc0 => ?_) (fun hc0 => ?_)
  · -- cond 0 t
    (try simp only [decide_eq_true_eq, decide_eq_false_iff_not, Bool.not_eq_true', Bool.not_eq_false', Bool.or_eq_true, Bool.and_eq_true, Bool.or_eq_false_iff, Bool.and_eq_false_imp, Option.isNone_some, Bool.false_eq_true, false_or, true_and] at hc0)
    refine WC.seq ?_
    refine WC.region ?_
    refine WL.p (.none rfl) rfl (OpP.assign rfl) ?_
    refine WL.nil ?_
    refine EQ.sub ((Sub.cons (i := 0) rfl (Sub.cons (i := 2) rfl (Sub.nil _)))) ?_
    refine EQ.code ?_
    refine WC.ret ?_
    refine EQ.thenR ?_
    refine EQ.fin (res1 rfl (.tmp rfl)) ?_
    exact ⟨by rw [if_neg hc0], by rw [if_neg hc0]⟩
  · -- cond 0 f
    (try simp only [decide_eq_true_eq, decide_eq_false_iff_not, Bool.not_eq_true', Bool.not_eq_false', Bool.or_eq_true, Bool.and_eq_true, Bool.or_eq_false_iff, Bool.and_eq_false_imp, Option.isNone_some, Bool.false_eq_true, false_or, true_and] at hc0)
    refine WC.skip ?_
    refine EQ.code ?_
    refine WC.seq ?_
    refine WC.region ?_
    refine WL.p (.none rfl) rfl (OpP.move rfl) ?_
    refine WL.p (.none rfl) rfl (OpP.nilCheck rfl) ?_
    refine WL.p (.none rfl) rfl (OpP.fieldAddr rfl fld_85_3) ?_
    refine WL.s (.none rfl) rfl (OpS.store rfl rfl ty_4 (by repeat (first | assumption | exact at0 | exact set_hit (by first | assumption | exact set_hit (by assumption)) | apply ats)) (by rfl) (by rfl) (by rfl) (by rfl)) ?_
    refine WL.nil ?_
    refine EQ.sub ((Sub.cons (i := 2) rfl (Sub.nil _))) ?_
    refine EQ.code ?_
    refine WC.seq ?_
    refine WC.region ?_
    refine WL.p (.none rfl) rfl (OpP.assign rfl) ?_
    refine WL.nil ?_
    refine EQ.sub ((Sub.cons (i := 2) rfl (Sub.nil _))) ?_
    refine EQ.code ?_
    refine WC.ret ?_
    refine EQ.fin (res1 rfl (.tmp rfl)) ?_
    exact ⟨by rw [if_pos (by omega)], by rw [if_pos (by omega)]; rfl⟩

def newRsn (a : Option Addr) (m cp hb : Nat) : Rsn := { ca := a, cn := m, cc := cp, hb := hb, has := List.replicate (chunks m).toNat false, pos := 0, gone := false }
theorem rChunksN_c {W0 : World} {H : Hp} {n : Int} : CxD Try.prog W0 31 #[.int .i64 n] H (.int .i64 (((chunks n).toNat : Nat) : Int)) H := by
  have e := rChunks_c (W0 := W0) (H := H) (n := n)
  have h := chunks_bd n
  rw [show (((chunks n).toNat : Nat) : Int) = chunks n by omega]
  exact e

set_option maxRecDepth 100000 in
theorem rNew_c {W0 : World} {H : Hp} {a : Option Addr} {m cp : Nat} : CxX Try.prog W0 11 #[.slice a m cp] H (fun v H' => ∃ g hb, v = .pointer (some ⟨g, 0, none⟩) ∧ H' = (g, (newRsn a m cp hb).obj) :: (hb, (newRsn a m cp hb).hob) :: H) := by
  have hch := chunks_bd m
  refine enter Try.func11 rfl Try.ntmps11 rfl ?_
  refine WC.seq ?_
  refine WC.region ?_
  refine WL.p (.none rfl) rfl (OpP.assign rfl) ?_
  refine WL.nil ?_
  refine EQ.sub ((Sub.cons (i := 0) rfl (Sub.cons (i := 2) rfl (Sub.nil _)))) ?_
  refine EQ.code ?_
  refine WC.seq ?_
  refine WC.region ?_
  refine WL.p (.none rfl) rfl (OpP.move rfl) ?_
  refine WL.p (.none rfl) rfl (OpP.move rfl) ?_
  refine WL.p (.none rfl) rfl (OpP.lenSl rfl Try.underlying23) ?_
  refine WL.callD rfl (.none rfl) rfl k_31 rfl (rChunksN_c) ?_
  refine WL.makeSlice sl_46 z_4 rfl rfl rfl (by first | omega | decide) (by first | omega | decide) (fun b7 => ?_)
  refine WL.p (.none rfl) rfl (OpP.buildS (l := [.slice a m cp, .slice (some ⟨b7, 0, none⟩) (chunks m).toNat (chunks m).toNat, .int .i64 0, .bool false]) bld_85 (kI rfl (kI rfl kI0)) (by kernel_rfl)) ?_
  refine WL.box rfl rfl rfl (fun b9 => ?_)
  refine WL.p (.none rfl) rfl (OpP.assign rfl) ?_
  refine WL.nil ?_
  refine EQ.sub ((Sub.cons (i := 2) rfl (Sub.nil _))) ?_
  refine EQ.code ?_
  refine WC.ret ?_
  refine EQ.fin (res1 rfl (.tmp rfl)) ?_
  exact ⟨b9, b7, rfl, by simp [newRsn]⟩

end Go.Proofs.Ytmeimjpjelmchaa
