/- Rof: walks of functions of the program, each over the rules of Sx. No conditions but those in the theorems' heads. -/
import Derived.Test.YtmeimjpjelmchaaRf
import Derived.Test.YtmeimjpjelmchaaProg
set_option linter.unusedVariables false
set_option linter.unusedSimpArgs false
namespace Go.Proofs.Ytmeimjpjelmchaa
open Go.RowKit Go.Sx
namespace Rof
theorem sl_46 : slI Try.prog 46 = some (4, 1, 1) := by kernel_rfl
end Rof
open Rof

/-- The bits of a number, from the lowest on. -/
def bitsL (b : Nat) (k : Nat) : List Bool := (List.range k).map fun (i : Nat) => decide (b / 2 ^ i % 2 = 1)
theorem bitsL_succ (b k : Nat) : bitsL b (k + 1) = bitsL b k ++ [decide (b / 2 ^ k % 2 = 1)] := by simp [bitsL, List.range_succ]
theorem bitsL_length (b k : Nat) : (bitsL b k).length = k := by simp [bitsL]

set_option maxRecDepth 100000 in
theorem rOf_c {W0 : World} {H : Hp} {n : Int} {b : Nat} (hb : b < 18446744073709551616) : CxX Try.prog W0 16 #[.int .i64 n, .int .u64 (b : Int)] H (fun v H' => if 0 ≤ n ∧ n ≤ 64 then ∃ sl ds, v = .tuple #[sl, .bool (decide (b / 2 ^ n.toNat = 0))] ∧ H' = ds ++ H ∧ OwnS 4 1 sl n.toNat (bv (bitsL b n.toNat)) ds
     else v = .tuple #[.slice none 0 0, .bool false] ∧ H' = H) := by
  refine enter Try.func16 rfl Try.ntmps16 rfl ?_
  refine WC.seq ?_
  refine WC.region ?_
  refine WL.p (.none rfl) rfl (OpP.assign rfl) ?_
  refine WL.p (.none rfl) rfl (OpP.assign rfl) ?_
  refine WL.nil ?_
  refine EQ.sub ((Sub.cons (i := 0) rfl (Sub.cons (i := 1) rfl (Sub.cons (i := 4) rfl (Sub.cons (i := 5) rfl (Sub.nil _)))))) ?_
  refine EQ.code ?_
  refine WC.seq ?_
  refine WC.seq ?_
  refine WC.region ?_
  refine WL.p (.none rfl) rfl (OpP.move rfl) ?_
  refine WL.p (.none rfl) rfl (OpP.lss rfl rfl) ?_
  refine WL.p (.none rfl) rfl (OpP.move rfl) ?_
  refine WL.g (.bool rfl rfl rfl) rfl (fun hg => OpP.move rfl) ?_
  refine WL.g (.bool rfl rfl rfl) rfl (fun hg => OpP.gtr (gk hg rfl) rfl) ?_
  refine WL.p (.none rfl) rfl (OpP.por rfl rfl rfl) ?_
  refine WL.nil ?_
  refine EQ.sub ((Sub.cons (i := 0) rfl (Sub.cons (i := 1) rfl (Sub.cons (i := 4) rfl (Sub.cons (i := 5) rfl (Sub.cons (i := 13) rfl (Sub.nil _))))))) ?_
  refine EQ.code ?_
  refine WC.cond rfl (fun hc0 => ?_) (fun hc0 => ?_)
  · -- cond 0 t
    (try simp only [decide_eq_true_eq, decide_eq_false_iff_not, Bool.not_eq_true', Bool.not_eq_false', Bool.or_eq_true, Bool.and_eq_true, Bool.or_eq_false_iff, Bool.and_eq_false_imp, Option.isNone_some, Bool.false_eq_true, false_or, true_and] at hc0)
    refine WC.seq ?_
    refine WC.region ?_
    refine WL.p (.none rfl) rfl (OpP.assign rfl) ?_
    refine WL.p (.none rfl) rfl (OpP.assign rfl) ?_
    refine WL.nil ?_
    refine EQ.sub ((Sub.cons (i := 0) rfl (Sub.cons (i := 1) rfl (Sub.cons (i := 4) rfl (Sub.cons (i := 5) rfl (Sub.nil _)))))) ?_
    refine EQ.code ?_
    refine WC.ret ?_
    refine EQ.thenR ?_
    refine EQ.finD (H' := H) (res2 rfl (.tmp rfl) (.tmp rfl)) (by intro _ h; exact h) ?_
    rw [if_neg (by omega)]
    exact ⟨rfl, rfl⟩
  · -- cond 0 f
    (try simp only [decide_eq_true_eq, decide_eq_false_iff_not, Bool.not_eq_true', Bool.not_eq_false', Bool.or_eq_true, Bool.and_eq_true, Bool.or_eq_false_iff, Bool.and_eq_false_imp, Option.isNone_some, Bool.false_eq_true, false_or, true_and] at hc0)
    refine WC.skip ?_
    refine EQ.code ?_
    refine WC.seq ?_
    refine WC.region ?_
    refine WL.p (.none rfl) rfl (OpP.assign rfl) ?_
    refine WL.nil ?_
    refine EQ.sub ((Sub.cons (i := 0) rfl (Sub.cons (i := 1) rfl (Sub.cons (i := 4) rfl (Sub.cons (i := 5) rfl (Sub.cons (i := 6) rfl (Sub.nil _))))))) ?_
    refine EQ.code ?_
    refine WC.seq ?_
    refine WC.seq ?_
    refine WC.region ?_
    refine WL.p (.none rfl) rfl (OpP.assign rfl) ?_
    refine WL.nil ?_
    refine EQ.sub ((Sub.cons (i := 0) rfl (Sub.cons (i := 1) rfl (Sub.cons (i := 4) rfl (Sub.cons (i := 5) rfl (Sub.cons (i := 6) rfl (Sub.cons (i := 7) rfl (Sub.nil _)))))))) ?_
    refine EQ.code ?_
    refine WC.block ?_
    refine WC.loop (σ := Nat × Value × Hp) (fun s => [(0, .int .i64 n), (1, .int .u64 ((b / 2 ^ s.1 : Nat) : Int)), (6, s.2.1), (7, .int .i64 (s.1 : Int))]) (fun s => s.2.2 ++ H) (fun s => (s.1 : Int) ≤ n ∧ OwnS 4 1 s.2.1 s.1 (bv (bitsL b s.1)) s.2.2) (fun s => n.toNat - s.1) (0, .slice none 0 0, []) ⟨by omega, OwnS.nil _ _⟩ (Sub.cons rfl (Sub.cons (congrArg some (by simp)) (Sub.cons rfl (Sub.cons rfl (Sub.nil _))))) (fun _ h => h) (fun ⟨k, v, ds⟩ hinv => ?_)
    (try simp only at hinv ⊢)
    obtain ⟨hk, hown⟩ := hinv
    have hdv : b / 2 ^ k < 18446744073709551616 := Nat.lt_of_le_of_lt (Nat.div_le_self _ _) hb
    have hsuc : b / 2 ^ (k + 1) = b / 2 ^ k / 2 := by rw [Nat.pow_succ, ← Nat.div_div_eq_div_mul]
    have hbs := bitsL_succ b k
    obtain ⟨q, hqd⟩ : ∃ q, q = b / 2 ^ k := ⟨_, rfl⟩
    rw [← hqd] at hdv hsuc hbs ⊢
    refine WC.seq ?_
    refine WC.seq ?_
    refine WC.region ?_
    refine WL.p (.none rfl) rfl (OpP.move rfl) ?_
    refine WL.p (.none rfl) rfl (OpP.move rfl) ?_
    refine WL.p (.none rfl) rfl (OpP.lss rfl rfl) ?_
    refine WL.nil ?_
    refine EQ.sub ((Sub.cons (i := 0) rfl (Sub.cons (i := 1) rfl (Sub.cons (i := 6) rfl (Sub.cons (i := 7) rfl (Sub.cons (i := 16) rfl (Sub.nil _))))))) ?_
    refine EQ.code ?_
    refine WC.cond rfl (fun hc1 => ?_) (fun hc1 => ?_)
    · -- cond 1 t
      (try simp only [decide_eq_true_eq, decide_eq_false_iff_not, Bool.not_eq_true', Bool.not_eq_false', Bool.or_eq_true, Bool.and_eq_true, Bool.or_eq_false_iff, Bool.and_eq_false_imp, Option.isNone_some, Bool.false_eq_true, false_or, true_and] at hc1)
      refine WC.skip ?_
      refine EQ.code ?_
      refine WC.seq ?_
      refine WC.block ?_
      refine WC.seq ?_
      refine WC.region ?_
      refine WL.p (.none rfl) rfl (OpP.move rfl) ?_
      refine WL.p (.none rfl) rfl (OpP.move rfl) ?_
      refine WL.p (.none rfl) rfl (OpP.remN rfl rfl (by omega) (by omega)) ?_
      refine WL.p (.none rfl) rfl (OpP.eqlI rfl rfl) ?_
      refine WL.buildSlice1 sl_46 rfl rfl (by decide) rfl rfl (by rfl) (fun b23 => ?_)
      refine WL.toMid ?_
      refine WL.append (seg := ds) (R := (b23, cl [.bool (decide ((q : Int) % 2 = 1))] 4) :: H) (news := [.bool (decide ((q : Int) % 2 = 1))]) rfl (.none rfl) rfl sl_46 rfl rfl hown (Sl.own (List.mem_append_right _ List.mem_cons_self) (fun j x hj => by simpa using hj)) rfl (by simp [Value.oneCell']) (by decide) (by simp only [maxLen]; omega) (by omega) (fun v24 ds2 hown2 _ => ?_)
      refine WL.p (.none rfl) rfl (OpP.assign rfl) ?_
      refine WL.nil ?_
      refine EQ.sub ((Sub.cons (i := 0) rfl (Sub.cons (i := 1) rfl (Sub.cons (i := 6) rfl (Sub.cons (i := 7) rfl (Sub.nil _)))))) ?_
      refine EQ.code ?_
      refine WC.region ?_
      refine WL.p (.none rfl) rfl (OpP.move rfl) ?_
      first | (refine WL.p (.none rfl) rfl (OpP.quoU rfl rfl (by omega)) ?_) | (refine WL.p (.none rfl) rfl (OpP.quo rfl rfl (by omega)) ?_)
      refine WL.p (.none rfl) rfl (OpP.assign rfl) ?_
      refine WL.nil ?_
      refine EQ.sub ((Sub.cons (i := 0) rfl (Sub.cons (i := 1) rfl (Sub.cons (i := 6) rfl (Sub.cons (i := 7) rfl (Sub.nil _)))))) ?_
      refine EQ.blockN ?_
      refine EQ.code ?_
      refine WC.region ?_
      refine WL.p (.none rfl) rfl (OpP.move rfl) ?_
      first | (refine WL.p (.none rfl) rfl (OpP.add64 rfl rfl (by omega)) ?_) | (refine WL.p (.none rfl) rfl (OpP.add rfl rfl) ?_)
      refine WL.p (.none rfl) rfl (OpP.assign rfl) ?_
      refine WL.nil ?_
      refine EQ.sub ((Sub.cons (i := 0) rfl (Sub.cons (i := 1) rfl (Sub.cons (i := 6) rfl (Sub.cons (i := 7) rfl (Sub.nil _)))))) ?_
      refine EQ.again (k + 1, v24, ds2) ?_ ?_ ?_ ?_
      · exact ⟨by (try simp only); omega, by rw [hbs, show decide (q % 2 = 1) = decide ((q : Int) % 2 = 1) from by simp only [decide_eq_decide]; omega]; simpa using hown2⟩
      · (try simp only); omega
      · exact (Sub.cons rfl (Sub.cons (congrArg some (congrArg (Value.int .u64) (by rw [hsuc, Int.tdiv_eq_ediv_of_nonneg (by omega), IntKind.wrap_u64]; omega))) (Sub.cons rfl (Sub.cons rfl (Sub.nil _)))))
      · intro _ h; first | exact h | exact h.drop | exact h.drop_mid | exact h.drop_mid.drop_mid
    · -- cond 1 f
      (try simp only [decide_eq_true_eq, decide_eq_false_iff_not, Bool.not_eq_true', Bool.not_eq_false', Bool.or_eq_true, Bool.and_eq_true, Bool.or_eq_false_iff, Bool.and_eq_false_imp, Option.isNone_some, Bool.false_eq_true, false_or, true_and] at hc1)
      refine WC.exit ?_
      refine EQ.thenE ?_
      refine EQ.thenE ?_
      refine EQ.blockHit ?_
      refine EQ.code ?_
      refine WC.seq ?_
      refine WC.region ?_
      refine WL.p (.none rfl) rfl (OpP.move rfl) ?_
      refine WL.p (.none rfl) rfl (OpP.move rfl) ?_
      refine WL.p (.none rfl) rfl (OpP.eqlI rfl rfl) ?_
      refine WL.p (.none rfl) rfl (OpP.assign rfl) ?_
      refine WL.p (.none rfl) rfl (OpP.assign rfl) ?_
      refine WL.nil ?_
      refine EQ.sub ((Sub.cons (i := 4) rfl (Sub.cons (i := 5) rfl (Sub.nil _)))) ?_
      refine EQ.code ?_
      refine WC.ret ?_
      refine EQ.finD (H' := ds ++ H) (res2 rfl (.tmp rfl) (.tmp rfl)) (by intro _ h; exact h) ?_
      obtain rfl : (k : Int) = n := by omega
      rw [if_pos (by omega)]
      have e : decide ((q : Int) = 0) = decide (q = 0) := by simp only [decide_eq_decide]; omega
      exact ⟨v, ds, by rw [e, hqd]; rfl, rfl, hown⟩

end Go.Proofs.Ytmeimjpjelmchaa
