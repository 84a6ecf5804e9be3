/- Rnx: walks of functions of the program, each over the rules of Sx. No conditions but those in the theorems' heads. -/
import Derived.Test.YtmeimjpjelmchaaRby
import Derived.Test.YtmeimjpjelmchaaProg
set_option linter.unusedVariables false
set_option linter.unusedSimpArgs false
namespace Go.Proofs.Ytmeimjpjelmchaa
open Go.RowKit Go.Sx
namespace Rnx
theorem el_46 : elI Try.prog 46 = some (none, 4, false, 1) := by kernel_rfl
theorem fld_85_1 : fldI Try.prog 85 1 = some (1, false, 1) := by kernel_rfl
theorem fld_85_2 : fldI Try.prog 85 2 = some (2, false, 1) := by kernel_rfl
theorem k_26 : Cal Try.prog 26 := ⟨_, _, Try.func26, by kernel_rfl, rfl⟩
theorem ty_3 : tyI Try.prog 3 = some (false, 1) := by kernel_rfl
theorem ty_4 : tyI Try.prog 4 = some (false, 1) := by kernel_rfl
theorem ty_46 : tyI Try.prog 46 = some (false, 1) := by kernel_rfl
end Rnx
open Rnx

/-- What the other sender sends next: the first of the places 0 .. 2n - 1, taken round, that is not had and is behind one round or at the mark. -/
def Rsn.hit (x : Rsn) (t : Nat) : Bool := !(x.has.getD (t % x.has.length) false) && (decide (x.has.length ≤ t) || decide (((t % x.has.length : Nat) : Int) ≥ x.pos))
def Rsn.next (x : Rsn) : Int := if x.state = 0 then (match (List.range (2 * x.has.length)).find? x.hit with
  | some t => ((t % x.has.length : Nat) : Int)
  | none => -1) else -1
theorem find_range_some (p : Nat → Bool) : ∀ (n k : Nat), k < n → p k = true → (∀ j, j < k → p j = false) → (List.range n).find? p = some k := by
  intro n k hk hp hn
  rw [List.find?_eq_some_iff_getElem]
  refine ⟨hp, k, by simpa using hk, by simp, fun j hj => ?_⟩
  simp [hn j hj]
theorem find_range_none (p : Nat → Bool) (n : Nat) (hn : ∀ j, j < n → p j = false) : (List.range n).find? p = none := by
  rw [List.find?_eq_none]
  intro x hx
  rw [hn x (by simpa using hx)]
  simp

set_option maxRecDepth 100000 in
theorem rNext_c {W0 : World} {H : Hp} {g i j : Nat} {x : Rsn} (hi : H[i]? = some (g, x.obj)) (hj : H[j]? = some (x.hb, x.hob)) (hlen : x.has.length ≤ 64) {b : Bool} : CxD Try.prog W0 13 #[.pointer (some ⟨g, 0, none⟩), .bool b] H (.int .i64 x.next) (if b = true ∧ 0 ≤ x.next then H.set i (g, { x with pos := x.next + 1 }.obj) else H) := by
  refine enter Try.func13 rfl Try.ntmps13 rfl ?_
  refine WC.seq ?_
  refine WC.region ?_
  refine WL.p (.none rfl) rfl (OpP.assign rfl) ?_
  refine WL.nil ?_
  refine EQ.sub ((Sub.cons (i := 0) rfl (Sub.cons (i := 1) rfl (Sub.cons (i := 4) rfl (Sub.nil _))))) ?_
  refine EQ.code ?_
  refine WC.seq ?_
  refine WC.seq ?_
  refine WC.region ?_
  refine WL.p (.none rfl) rfl (OpP.move rfl) ?_
  refine WL.callD rfl (.none rfl) rfl k_26 rfl (rState_c hi hj hlen) ?_
  refine WL.p (.none rfl) rfl (OpP.neqI rfl rfl) ?_
  refine WL.nil ?_
  refine EQ.sub ((Sub.cons (i := 0) rfl (Sub.cons (i := 1) rfl (Sub.cons (i := 4) rfl (Sub.cons (i := 9) rfl (Sub.nil _)))))) ?_
  refine EQ.code ?_
  refine WC.cond rfl (fun hc0 => ?_) (fun hc0 => ?_)
  · -- cond 0 t
    (try simp only [decide_eq_true_eq, decide_eq_false_iff_not, Bool.not_eq_true', Bool.not_eq_false', Bool.or_eq_true, Bool.and_eq_true, Bool.or_eq_false_iff, Bool.and_eq_false_imp, Option.isNone_some, Bool.false_eq_true, false_or, true_and] at hc0)
    refine WC.seq ?_
    refine WC.region ?_
    refine WL.p (.none rfl) rfl (OpP.assign rfl) ?_
    refine WL.nil ?_
    refine EQ.sub ((Sub.cons (i := 0) rfl (Sub.cons (i := 1) rfl (Sub.cons (i := 4) rfl (Sub.nil _))))) ?_
    refine EQ.code ?_
    refine WC.ret ?_
    refine EQ.thenR ?_
    refine EQ.fin (res1 rfl (.tmp rfl)) ?_
    have e : x.next = -1 := by unfold Rsn.next; rw [if_neg hc0]
    exact ⟨by rw [e], by rw [if_neg (by rw [e]; omega)]⟩
  · -- cond 0 f
    (try simp only [decide_eq_true_eq, decide_eq_false_iff_not, Bool.not_eq_true', Bool.not_eq_false', Bool.or_eq_true, Bool.and_eq_true, Bool.or_eq_false_iff, Bool.and_eq_false_imp, Option.isNone_some, Bool.false_eq_true, false_or, true_and] at hc0)
    refine WC.skip ?_
    refine EQ.code ?_
    refine WC.seq ?_
    refine WC.seq ?_
    refine WC.region ?_
    refine WL.p (.none rfl) rfl (OpP.assign rfl) ?_
    refine WL.nil ?_
    refine EQ.sub ((Sub.cons (i := 0) rfl (Sub.cons (i := 1) rfl (Sub.cons (i := 4) rfl (Sub.cons (i := 5) rfl (Sub.nil _)))))) ?_
    refine EQ.code ?_
    refine WC.block ?_
    refine WC.loop (σ := Nat) (fun t => [(0, .pointer (some ⟨g, 0, none⟩)), (1, .bool b), (5, .int .i64 (t : Int))]) (fun t => H) (fun t => t ≤ 2 * x.has.length ∧ ∀ s, s < t → x.hit s = false) (fun t => 2 * x.has.length - t) 0 ⟨Nat.zero_le _, fun s h => by omega⟩ ((Sub.cons rfl (Sub.cons rfl (Sub.cons rfl (Sub.nil _))))) (fun _ h => h) (fun t hinv => ?_)
    obtain ⟨ht, hall⟩ := hinv
    refine WC.seq ?_
    refine WC.seq ?_
    refine WC.region ?_
    refine WL.p (.none rfl) rfl (OpP.move rfl) ?_
    refine WL.p (.none rfl) rfl (OpP.move rfl) ?_
    refine WL.p (.none rfl) rfl (OpP.nilCheck rfl) ?_
    refine WL.p (.none rfl) rfl (OpP.fieldAddr rfl fld_85_1) ?_
    refine WL.p (.none rfl) rfl (OpP.load rfl ty_46 (Rd.own (by repeat (first | assumption | exact List.mem_cons_self | exact List.mem_of_getElem? (by assumption) | exact set_mem (by first | assumption | exact set_hit (by assumption)) | apply List.mem_cons_of_mem | apply List.mem_append_right)) (by rfl))) ?_
    refine WL.p (.none rfl) rfl (OpP.lenSl rfl Try.underlying46) ?_
    first | (refine WL.p (.none rfl) rfl (OpP.mul64 rfl rfl (by omega)) ?_) | (refine WL.p (.none rfl) rfl (OpP.mul rfl rfl) ?_)
    refine WL.p (.none rfl) rfl (OpP.lss rfl rfl) ?_
    refine WL.nil ?_
    refine EQ.sub ((Sub.cons (i := 0) rfl (Sub.cons (i := 1) rfl (Sub.cons (i := 5) rfl (Sub.cons (i := 17) rfl (Sub.nil _)))))) ?_
    refine EQ.code ?_
    refine WC.cond rfl (fun hc1 => ?_) (fun hc1 => ?_)
    · -- cond 1 t
      (try simp only [decide_eq_true_eq, decide_eq_false_iff_not, Bool.not_eq_true', Bool.not_eq_false', Bool.or_eq_true, Bool.and_eq_true, Bool.or_eq_false_iff, Bool.and_eq_false_imp, Option.isNone_some, Bool.false_eq_true, false_or, true_and] at hc1)
      have hm : t % x.has.length < x.has.length := Nat.mod_lt _ (by omega)
      refine WC.skip ?_
      refine EQ.code ?_
      refine WC.seq ?_
      refine WC.block ?_
      refine WC.seq ?_
      refine WC.region ?_
      refine WL.p (.none rfl) rfl (OpP.move rfl) ?_
      refine WL.p (.none rfl) rfl (OpP.move rfl) ?_
      refine WL.p (.none rfl) rfl (OpP.nilCheck rfl) ?_
      refine WL.p (.none rfl) rfl (OpP.fieldAddr rfl fld_85_1) ?_
      refine WL.p (.none rfl) rfl (OpP.load rfl ty_46 (Rd.own (by repeat (first | assumption | exact List.mem_cons_self | exact List.mem_of_getElem? (by assumption) | exact set_mem (by first | assumption | exact set_hit (by assumption)) | apply List.mem_cons_of_mem | apply List.mem_append_right)) (by rfl))) ?_
      refine WL.p (.none rfl) rfl (OpP.lenSl rfl Try.underlying46) ?_
      refine WL.p (.none rfl) rfl (OpP.remN rfl rfl (by omega) (by omega)) ?_
      refine WL.p (.none rfl) rfl (OpP.assign rfl) ?_
      refine WL.nil ?_
      refine EQ.sub ((Sub.cons (i := 0) rfl (Sub.cons (i := 1) rfl (Sub.cons (i := 5) rfl (Sub.cons (i := 6) rfl (Sub.nil _)))))) ?_
      refine EQ.code ?_
      refine WC.seq ?_
      refine WC.region ?_
      refine WL.p (.none rfl) rfl (OpP.move rfl) ?_
      refine WL.p (.none rfl) rfl (OpP.nilCheck rfl) ?_
      refine WL.p (.none rfl) rfl (OpP.fieldAddr rfl fld_85_1) ?_
      refine WL.p (.none rfl) rfl (OpP.load rfl ty_46 (Rd.own (by repeat (first | assumption | exact List.mem_cons_self | exact List.mem_of_getElem? (by assumption) | exact set_mem (by first | assumption | exact set_hit (by assumption)) | apply List.mem_cons_of_mem | apply List.mem_append_right)) (by rfl))) ?_
      refine WL.p (.none rfl) rfl (OpP.move rfl) ?_
      refine WL.p (.none rfl) rfl (OpP.indexS rfl rfl el_46 (by omega) (by omega)) ?_
      refine WL.p (.none rfl) rfl (OpP.load rfl ty_4 (bv_get (List.mem_of_getElem? hj) (t % x.has.length) (Nat.mod_lt _ (by omega)))) ?_
      refine WL.p (.none rfl) rfl (OpP.not rfl) ?_
      refine WL.p (.none rfl) rfl (OpP.move rfl) ?_
      refine WL.g (.bool rfl rfl rfl) rfl (fun hg => OpP.move rfl) ?_
      refine WL.g (.bool rfl rfl rfl) rfl (fun hg => OpP.move rfl) ?_
      refine WL.g (.bool rfl rfl rfl) rfl (fun hg => OpP.nilCheck (gk hg rfl)) ?_
      refine WL.g (.bool rfl rfl rfl) rfl (fun hg => OpP.fieldAddr (gk hg rfl) fld_85_1) ?_
      refine WL.g (.bool rfl rfl rfl) rfl (fun hg => OpP.load (gk hg rfl) ty_46 (Rd.own (by repeat (first | assumption | exact List.mem_cons_self | exact List.mem_of_getElem? (by assumption) | exact set_mem (by first | assumption | exact set_hit (by assumption)) | apply List.mem_cons_of_mem | apply List.mem_append_right)) (by rfl))) ?_
      refine WL.g (.bool rfl rfl rfl) rfl (fun hg => OpP.lenSl (gk hg rfl) Try.underlying46) ?_
      refine WL.g (.bool rfl rfl rfl) rfl (fun hg => OpP.geq (gk hg rfl) (gk hg rfl)) ?_
      refine WL.g (.bool rfl rfl rfl) rfl (fun hg => OpP.move (gk hg rfl)) ?_
      refine WL.g (.gv rfl rfl rfl) rfl (fun hg => OpP.move rfl) ?_
      refine WL.g (.gv rfl rfl rfl) rfl (fun hg => OpP.move rfl) ?_
      refine WL.g (.gv rfl rfl rfl) rfl (fun hg => OpP.nilCheck (gk hg rfl)) ?_
      refine WL.g (.gv rfl rfl rfl) rfl (fun hg => OpP.fieldAddr (gk hg rfl) fld_85_2) ?_
      refine WL.g (.gv rfl rfl rfl) rfl (fun hg => OpP.load (gk hg rfl) ty_3 (Rd.own (by repeat (first | assumption | exact List.mem_cons_self | exact List.mem_of_getElem? (by assumption) | exact set_mem (by first | assumption | exact set_hit (by assumption)) | apply List.mem_cons_of_mem | apply List.mem_append_right)) (by rfl))) ?_
      refine WL.g (.gv rfl rfl rfl) rfl (fun hg => OpP.geq (gk hg rfl) (gk hg rfl)) ?_
      refine WL.g (.bool rfl rfl rfl) rfl (fun hg => OpP.por (gk hg rfl) rfl (gk2 hg rfl)) ?_
      refine WL.p (.none rfl) rfl (OpP.pand rfl rfl rfl) ?_
      refine WL.nil ?_
      refine EQ.sub ((Sub.cons (i := 0) rfl (Sub.cons (i := 1) rfl (Sub.cons (i := 5) rfl (Sub.cons (i := 6) rfl (Sub.cons (i := 51) rfl (Sub.nil _))))))) ?_
      refine EQ.code ?_
      refine WC.cond rfl (fun hc2 => ?_) (fun hc2 => ?_)
      · -- cond 2 t
        (try simp only [decide_eq_true_eq, decide_eq_false_iff_not, Bool.not_eq_true', Bool.not_eq_false', Bool.or_eq_true, Bool.and_eq_true, Bool.or_eq_false_iff, Bool.and_eq_false_imp, Option.isNone_some, Bool.false_eq_true, false_or, true_and] at hc2)
        refine WC.seq ?_
        refine WC.seq ?_
        refine WC.region ?_
        refine WL.p (.none rfl) rfl (OpP.move rfl) ?_
        refine WL.nil ?_
        refine EQ.sub ((Sub.cons (i := 0) rfl (Sub.cons (i := 1) rfl (Sub.cons (i := 5) rfl (Sub.cons (i := 6) rfl (Sub.cons (i := 52) rfl (Sub.nil _))))))) ?_
        refine EQ.code ?_
        refine WC.cond rfl (fun hc3 => ?_) (fun hc3 => ?_)
        · -- cond 3 t
          (try simp only [decide_eq_true_eq, decide_eq_false_iff_not, Bool.not_eq_true', Bool.not_eq_false', Bool.or_eq_true, Bool.and_eq_true, Bool.or_eq_false_iff, Bool.and_eq_false_imp, Option.isNone_some, Bool.false_eq_true, false_or, true_and] at hc3)
          refine WC.region ?_
          refine WL.p (.none rfl) rfl (OpP.move rfl) ?_
          refine WL.p (.none rfl) rfl (OpP.move rfl) ?_
          first | (refine WL.p (.none rfl) rfl (OpP.add64 rfl rfl (by omega)) ?_) | (refine WL.p (.none rfl) rfl (OpP.add rfl rfl) ?_)
          refine WL.p (.none rfl) rfl (OpP.nilCheck rfl) ?_
          refine WL.p (.none rfl) rfl (OpP.fieldAddr rfl fld_85_2) ?_
          refine WL.s (.none rfl) rfl (OpS.store rfl rfl ty_3 (by repeat (first | assumption | exact at0 | exact set_hit (by first | assumption | exact set_hit (by assumption)) | apply ats)) (by rfl) (by rfl) (by rfl) (by rfl)) ?_
          refine WL.nil ?_
          refine EQ.sub ((Sub.cons (i := 0) rfl (Sub.cons (i := 1) rfl (Sub.cons (i := 5) rfl (Sub.cons (i := 6) rfl (Sub.nil _)))))) ?_
          refine EQ.code ?_
          refine WC.seq ?_
          refine WC.region ?_
          refine WL.p (.none rfl) rfl (OpP.move rfl) ?_
          refine WL.p (.none rfl) rfl (OpP.assign rfl) ?_
          refine WL.nil ?_
          refine EQ.sub ((Sub.cons (i := 0) rfl (Sub.cons (i := 1) rfl (Sub.cons (i := 4) rfl (Sub.cons (i := 5) rfl (Sub.nil _)))))) ?_
          refine EQ.code ?_
          refine WC.ret ?_
          refine EQ.blockR ?_
          refine EQ.thenR ?_
          refine EQ.thenR ?_
          refine EQ.blockR ?_
          refine EQ.thenR ?_
          refine EQ.fin (res1 rfl (.tmp rfl)) ?_
          have hh : x.hit t = true := by
            unfold Rsn.hit
            simp only [Bool.and_eq_true, Bool.or_eq_true, Bool.not_eq_true', decide_eq_true_eq]
            exact ⟨hc2.1, by omega⟩
          have e : x.next = ((t % x.has.length : Nat) : Int) := by
            unfold Rsn.next
            rw [if_pos hc0, find_range_some _ _ t (by omega) hh hall]
          exact ⟨by rw [e]; rfl, by rw [if_pos ⟨hc3, by rw [e]; omega⟩, e]; rfl⟩
        · -- cond 3 f
          (try simp only [decide_eq_true_eq, decide_eq_false_iff_not, Bool.not_eq_true', Bool.not_eq_false', Bool.or_eq_true, Bool.and_eq_true, Bool.or_eq_false_iff, Bool.and_eq_false_imp, Option.isNone_some, Bool.false_eq_true, false_or, true_and] at hc3)
          refine WC.skip ?_
          refine EQ.code ?_
          refine WC.seq ?_
          refine WC.region ?_
          refine WL.p (.none rfl) rfl (OpP.move rfl) ?_
          refine WL.p (.none rfl) rfl (OpP.assign rfl) ?_
          refine WL.nil ?_
          refine EQ.sub ((Sub.cons (i := 0) rfl (Sub.cons (i := 1) rfl (Sub.cons (i := 4) rfl (Sub.cons (i := 5) rfl (Sub.nil _)))))) ?_
          refine EQ.code ?_
          refine WC.ret ?_
          refine EQ.blockR ?_
          refine EQ.thenR ?_
          refine EQ.thenR ?_
          refine EQ.blockR ?_
          refine EQ.thenR ?_
          refine EQ.fin (res1 rfl (.tmp rfl)) ?_
          have hh : x.hit t = true := by
            unfold Rsn.hit
            simp only [Bool.and_eq_true, Bool.or_eq_true, Bool.not_eq_true', decide_eq_true_eq]
            exact ⟨hc2.1, by omega⟩
          have e : x.next = ((t % x.has.length : Nat) : Int) := by
            unfold Rsn.next
            rw [if_pos hc0, find_range_some _ _ t (by omega) hh hall]
          exact ⟨by rw [e]; rfl, by rw [if_neg (by rw [hc3]; simp)]⟩
      · -- cond 2 f
        (try simp only [decide_eq_true_eq, decide_eq_false_iff_not, Bool.not_eq_true', Bool.not_eq_false', Bool.or_eq_true, Bool.and_eq_true, Bool.or_eq_false_iff, Bool.and_eq_false_imp, Option.isNone_some, Bool.false_eq_true, false_or, true_and] at hc2)
        refine WC.skip ?_
        refine EQ.blockN ?_
        refine EQ.code ?_
        refine WC.region ?_
        refine WL.p (.none rfl) rfl (OpP.move rfl) ?_
        first | (refine WL.p (.none rfl) rfl (OpP.add64 rfl rfl (by omega)) ?_) | (refine WL.p (.none rfl) rfl (OpP.add rfl rfl) ?_)
        refine WL.p (.none rfl) rfl (OpP.assign rfl) ?_
        refine WL.nil ?_
        refine EQ.sub ((Sub.cons (i := 0) rfl (Sub.cons (i := 1) rfl (Sub.cons (i := 5) rfl (Sub.nil _))))) ?_
        refine EQ.again (t + 1) ?_ ?_ ?_ ?_
        · refine ⟨by omega, fun s hs => ?_⟩
          by_cases e : s = t
          · subst e
            cases hq : x.hit s with
            | false => rfl
            | true =>
              exfalso
              unfold Rsn.hit at hq
              simp only [Bool.and_eq_true, Bool.or_eq_true, Bool.not_eq_true', decide_eq_true_eq] at hq
              have h9 := hc2 hq.1
              omega
          · exact hall s (by omega)
        · omega
        · exact ((Sub.cons rfl (Sub.cons rfl (Sub.cons rfl (Sub.nil _)))))
        · intro _ h; first | exact h | exact h.drop | exact h.drop_mid | exact h.drop_mid.drop_mid
    · -- cond 1 f
      (try simp only [decide_eq_true_eq, decide_eq_false_iff_not, Bool.not_eq_true', Bool.not_eq_false', Bool.or_eq_true, Bool.and_eq_true, Bool.or_eq_false_iff, Bool.and_eq_false_imp, Option.isNone_some, Bool.false_eq_true, false_or, true_and] at hc1)
      refine WC.exit ?_
      refine EQ.thenE ?_
      refine EQ.thenE ?_
      refine EQ.blockHit ?_
      refine EQ.code ?_
      refine WC.seq ?_
      refine WC.region ?_
      refine WL.p (.none rfl) rfl (OpP.assign rfl) ?_
      refine WL.nil ?_
      refine EQ.sub ((Sub.cons (i := 4) rfl (Sub.nil _))) ?_
      refine EQ.code ?_
      refine WC.ret ?_
      refine EQ.fin (res1 rfl (.tmp rfl)) ?_
      have e : x.next = -1 := by unfold Rsn.next; rw [if_pos hc0, find_range_none _ _ (fun j hj => hall j (by omega))]
      exact ⟨by rw [e], by rw [if_neg (by rw [e]; omega)]⟩

end Go.Proofs.Ytmeimjpjelmchaa
