/- So: walks of functions of the program, each over the rules of Sx. No conditions but those in the theorems' heads. -/
import Derived.Test.YtjdkohfgbekheaaFr
import Derived.Test.YtjdkohfgbekheaaProg
set_option linter.unusedVariables false
set_option linter.unusedSimpArgs false
namespace Go.Proofs.Ytjdkohfgbekheaa
open Go.RowKit Go.Sx
namespace So
theorem el_38 : elI Try.prog 38 = some (none, 22, false, 1) := by kernel_rfl
theorem k_33 : Cal Try.prog 33 := ⟨_, _, Try.func33, by kernel_rfl, rfl⟩
theorem k_34 : Cal Try.prog 34 := ⟨_, _, Try.func34, by kernel_rfl, rfl⟩
theorem k_36 : Cal Try.prog 36 := ⟨_, _, Try.func36, by kernel_rfl, rfl⟩
theorem k_42 : Cal Try.prog 42 := ⟨_, _, Try.func42, by kernel_rfl, rfl⟩
theorem k_46 : Cal Try.prog 46 := ⟨_, _, Try.func46, by kernel_rfl, rfl⟩
theorem k_52 : Cal Try.prog 52 := ⟨_, _, Try.func52, by kernel_rfl, rfl⟩
theorem ty_22 : tyI Try.prog 22 = some (false, 1) := by kernel_rfl
end So
open So

set_option maxRecDepth 100000 in
theorem isNaN_c {W0 : World} {H : Hp} {x : Int} : CxD Try.prog W0 52 #[.int .u64 x] H (.bool false) H := by
  refine enter Try.func52 rfl Try.ntmps52 rfl ?_
  refine WC.seq ?_
  refine WC.region ?_
  refine WL.p (.none rfl) rfl (OpP.assign rfl) ?_
  refine WL.nil ?_
  refine EQ.sub ((Sub.cons (i := 0) rfl (Sub.cons (i := 2) rfl (Sub.nil _)))) ?_
  refine EQ.code ?_
  refine WC.seq ?_
  refine WC.region ?_
  refine WL.p (.none rfl) rfl (OpP.move rfl) ?_
  refine WL.p (.none rfl) rfl (OpP.move rfl) ?_
  refine WL.p (.none rfl) rfl (OpP.neqI rfl rfl) ?_
  refine WL.p (.none rfl) rfl (OpP.assign rfl) ?_
  refine WL.nil ?_
  refine EQ.sub ((Sub.cons (i := 2) rfl (Sub.nil _))) ?_
  refine EQ.code ?_
  refine WC.ret ?_
  refine EQ.fin (res1 rfl (.tmp rfl)) ?_
  exact ⟨by simp, rfl⟩

set_option maxRecDepth 100000 in
theorem Less_c {W0 : World} {H : Hp} {x y : Int} : CxD Try.prog W0 42 #[.int .u64 x, .int .u64 y] H (.bool (decide (x < y))) H := by
  refine enter Try.func42 rfl Try.ntmps42 rfl ?_
  refine WC.seq ?_
  refine WC.region ?_
  refine WL.p (.none rfl) rfl (OpP.assign rfl) ?_
  refine WL.nil ?_
  refine EQ.sub ((Sub.cons (i := 0) rfl (Sub.cons (i := 1) rfl (Sub.cons (i := 4) rfl (Sub.nil _))))) ?_
  refine EQ.code ?_
  refine WC.seq ?_
  refine WC.region ?_
  refine WL.p (.none rfl) rfl (OpP.move rfl) ?_
  refine WL.callD rfl (.none rfl) rfl k_52 rfl (isNaN_c) ?_
  refine WL.p (.none rfl) rfl (OpP.move rfl) ?_
  refine WL.g (.bool rfl rfl rfl) rfl (fun hg => OpP.move rfl) ?_
  refine WL.gcall rfl (.bool rfl rfl rfl) rfl k_52 (fun hg => kops1 (gk hg rfl)) (fun hg => isNaN_c) ?_
  refine WL.g (.bool rfl rfl rfl) rfl (fun hg => OpP.not (gk hg rfl)) ?_
  refine WL.p (.none rfl) rfl (OpP.pand rfl rfl rfl) ?_
  refine WL.p (.none rfl) rfl (OpP.move rfl) ?_
  refine WL.g (.bool rfl rfl rfl) rfl (fun hg => OpP.move rfl) ?_
  refine WL.g (.bool rfl rfl rfl) rfl (fun hg => OpP.move rfl) ?_
  refine WL.g (.bool rfl rfl rfl) rfl (fun hg => OpP.lss (gk hg rfl) (gk hg rfl)) ?_
  refine WL.p (.none rfl) rfl (OpP.por rfl rfl rfl) ?_
  refine WL.p (.none rfl) rfl (OpP.assign rfl) ?_
  refine WL.nil ?_
  refine EQ.sub ((Sub.cons (i := 4) rfl (Sub.nil _))) ?_
  refine EQ.code ?_
  refine WC.ret ?_
  refine EQ.fin (res1 rfl (.tmp rfl)) ?_
  exact ⟨by simp, rfl⟩

theorem turn_comm (l : List Int) {j : Nat} (h : 0 < j) : (l.set (j - 1) (l.getD j 0)).set j (l.getD (j - 1) 0) = turn l j := by
  unfold turn
  exact List.set_comm _ _ (by omega)

set_option maxRecDepth 100000 in
theorem insSort_c {W0 : World} {R : Hp} {b c : Nat} {rest : List Value} {T : TypeId} {l0 : List Int} (h12 : l0.length ≤ 12) :
    CxX Try.prog W0 36 #[.slice (some ⟨b, 0, none⟩) l0.length c, .int .i64 0, .int .i64 (l0.length : Int)] ((b, cl (iv .u64 l0 ++ rest) T) :: R) (fun v H' => v = .tuple #[] ∧ ∃ l, H' = (b, cl (iv .u64 l ++ rest) T) :: R ∧ l.Perm l0 ∧ Sorted l l.length) := by
  refine enter Try.func36 rfl Try.ntmps36 rfl ?_
  refine WC.seq ?_
  refine WC.region ?_
  refine WL.p (.none rfl) rfl (OpP.move rfl) ?_
  first | (refine WL.p (.none rfl) rfl (OpP.add64 rfl rfl (by omega)) ?_) | (refine WL.p (.none rfl) rfl (OpP.add rfl rfl) ?_)
  refine WL.p (.none rfl) rfl (OpP.assign rfl) ?_
  refine WL.nil ?_
  refine EQ.sub ((Sub.cons (i := 0) rfl (Sub.cons (i := 1) rfl (Sub.cons (i := 2) rfl (Sub.cons (i := 6) rfl (Sub.nil _)))))) ?_
  refine EQ.code ?_
  refine WC.block ?_
  refine WC.loop (σ := Nat × List Int) (fun s => [(0, .slice (some ⟨b, 0, none⟩) l0.length c), (1, .int .i64 0), (2, .int .i64 (l0.length : Int)), (6, .int .i64 (s.1 : Int))]) (fun s => (b, cl (iv .u64 s.2 ++ rest) T) :: R) (fun s => s.2.Perm l0 ∧ Sorted s.2 s.1 ∧ 1 ≤ s.1 ∧ (s.1 ≤ l0.length ∨ s.1 = 1)) (fun s => l0.length - s.1) (1, l0) ⟨List.Perm.refl _, fun p q h1 h2 => by omega, Nat.le_refl _, .inr rfl⟩ ((Sub.cons rfl (Sub.cons rfl (Sub.cons rfl (Sub.cons rfl (Sub.nil _)))))) (fun _ h => h) (fun ⟨i, l⟩ hinv => ?_)
  (try simp only at hinv ⊢)
  obtain ⟨hp, hso, hi1, hi2⟩ := hinv
  have hlen := hp.length_eq
  refine WC.seq ?_
  refine WC.seq ?_
  refine WC.region ?_
  refine WL.p (.none rfl) rfl (OpP.move rfl) ?_
  refine WL.p (.none rfl) rfl (OpP.move rfl) ?_
  refine WL.p (.none rfl) rfl (OpP.lss rfl rfl) ?_
  refine WL.nil ?_
  refine EQ.sub ((Sub.cons (i := 0) rfl (Sub.cons (i := 1) rfl (Sub.cons (i := 2) rfl (Sub.cons (i := 6) rfl (Sub.cons (i := 12) rfl (Sub.nil _))))))) ?_
  refine EQ.code ?_
  refine WC.cond rfl (fun hc0 => ?_) (fun hc0 => ?_)
  · -- cond 0 t
    (try simp only [decide_eq_true_eq, decide_eq_false_iff_not, Bool.not_eq_true', Bool.not_eq_false', Bool.or_eq_true, Bool.and_eq_true, Bool.or_eq_false_iff, Bool.and_eq_false_imp, Option.isNone_some, Bool.false_eq_true, false_or, true_and] at hc0)
    refine WC.skip ?_
    refine EQ.code ?_
    refine WC.seq ?_
    refine WC.block ?_
    refine WC.seq ?_
    refine WC.region ?_
    refine WL.p (.none rfl) rfl (OpP.move rfl) ?_
    refine WL.p (.none rfl) rfl (OpP.assign rfl) ?_
    refine WL.nil ?_
    refine EQ.sub ((Sub.cons (i := 0) rfl (Sub.cons (i := 1) rfl (Sub.cons (i := 2) rfl (Sub.cons (i := 6) rfl (Sub.cons (i := 7) rfl (Sub.nil _))))))) ?_
    refine EQ.code ?_
    refine WC.block ?_
    refine WC.loop (σ := Nat × List Int) (fun s => [(0, .slice (some ⟨b, 0, none⟩) l0.length c), (1, .int .i64 0), (2, .int .i64 (l0.length : Int)), (6, .int .i64 (i : Int)), (7, .int .i64 (s.1 : Int))]) (fun s => (b, cl (iv .u64 s.2 ++ rest) T) :: R) (fun s => Ins l0 s.2 i s.1) (fun s => s.1) (i, l) (Ins.start hp (show i < l.length by omega) hso) ((Sub.cons rfl (Sub.cons rfl (Sub.cons rfl (Sub.cons rfl (Sub.cons rfl (Sub.nil _))))))) (fun _ h => h) (fun ⟨j, l⟩ hinv => ?_)
    (try simp only at hinv ⊢)
    have hins := hinv
    have hlen2 := hinv.perm.length_eq
    have hle := hinv.le
    refine WC.seq ?_
    refine WC.seq ?_
    refine WC.draw (by kernel_rfl) (by kernel_rfl) ?_
    refine WQ.p (.none rfl) rfl (OpP.move rfl) ?_
    refine WQ.p (.none rfl) rfl (OpP.move rfl) ?_
    refine WQ.p (.none rfl) rfl (OpP.gtr rfl rfl) ?_
    refine WQ.p (.none rfl) rfl (OpP.move rfl) ?_
    refine WQ.g (.bool rfl rfl rfl) rfl (fun hg => OpP.move rfl) ?_
    refine WQ.g (.bool rfl rfl rfl) rfl (fun hg => OpP.move rfl) ?_
    refine WQ.g (.bool rfl rfl rfl) rfl (fun hg => OpP.indexS (gk hg rfl) (gk hg rfl) el_38 (by (try simp at hg); omega) (by (try simp at hg); omega)) ?_
    refine WQ.g (.bool rfl rfl rfl) rfl (fun hg => OpP.load (gk hg rfl) ty_22 (Rd.ivp (l := l) List.mem_cons_self j (by omega))) ?_
    refine WQ.g (.bool rfl rfl rfl) rfl (fun hg => OpP.move rfl) ?_
    refine WQ.g (.bool rfl rfl rfl) rfl (fun hg => OpP.move rfl) ?_
    first | (refine WQ.g (.bool rfl rfl rfl) rfl (fun hg => OpP.sub64 (gk hg rfl) rfl (by (try simp at hg); omega)) ?_) | (refine WQ.g (.bool rfl rfl rfl) rfl (fun hg => OpP.sub (gk hg rfl) rfl) ?_)
    refine WQ.g (.bool rfl rfl rfl) rfl (fun hg => OpP.indexS (gk hg rfl) (gk hg rfl) el_38 (by (try simp at hg); omega) (by (try simp at hg); omega)) ?_
    refine WQ.g (.bool rfl rfl rfl) rfl (fun hg => OpP.load (gk hg rfl) ty_22 (Rd.ivq (l := l) List.mem_cons_self j (by (try simp at hg); omega) (by omega))) ?_
    refine WQ.gcall rfl (.bool rfl rfl rfl) rfl k_42 (fun hg => kops2 (gk hg rfl) (gk hg rfl)) (fun hg => Less_c) ?_
    refine WQ.p (.none rfl) rfl (OpP.pand rfl rfl rfl) ?_
    refine WQ.done ?_
    refine EQ.sub ((Sub.cons (i := 0) rfl (Sub.cons (i := 1) rfl (Sub.cons (i := 2) rfl (Sub.cons (i := 6) rfl (Sub.cons (i := 7) rfl (Sub.cons (i := 30) rfl (Sub.nil _)))))))) ?_
    refine EQ.code ?_
    refine WC.cond rfl (fun hc1 => ?_) (fun hc1 => ?_)
    · -- cond 1 t
      (try simp only [decide_eq_true_eq, decide_eq_false_iff_not, Bool.not_eq_true', Bool.not_eq_false', Bool.or_eq_true, Bool.and_eq_true, Bool.or_eq_false_iff, Bool.and_eq_false_imp, Option.isNone_some, Bool.false_eq_true, false_or, true_and] at hc1)
      refine WC.skip ?_
      refine EQ.code ?_
      refine WC.seq ?_
      refine WC.block ?_
      refine WC.mixC (R) (by kernel_rfl) ?_
      refine AJ.p (i := 0) rfl (by kernel_rfl) (.none rfl) rfl (OpP.move rfl) ?_
      refine AJ.p (i := 1) rfl (by kernel_rfl) (.none rfl) rfl (OpP.move rfl) ?_
      refine AJ.p (i := 2) rfl (by kernel_rfl) (.none rfl) rfl (OpP.move rfl) ?_
      refine AJ.p (i := 3) rfl (by kernel_rfl) (.none rfl) rfl (OpP.move rfl) ?_
      first | (refine AJ.p (i := 4) rfl (by kernel_rfl) (.none rfl) rfl (OpP.sub64 rfl rfl (by omega)) ?_) | (refine AJ.p (i := 4) rfl (by kernel_rfl) (.none rfl) rfl (OpP.sub rfl rfl) ?_)
      refine AJ.p (i := 5) rfl (by kernel_rfl) (.none rfl) rfl (OpP.move rfl) ?_
      refine AJ.p (i := 6) rfl (by kernel_rfl) (.none rfl) rfl (OpP.move rfl) ?_
      first | (refine AJ.p (i := 7) rfl (by kernel_rfl) (.none rfl) rfl (OpP.sub64 rfl rfl (by omega)) ?_) | (refine AJ.p (i := 7) rfl (by kernel_rfl) (.none rfl) rfl (OpP.sub rfl rfl) ?_)
      refine AJ.p (i := 8) rfl (by kernel_rfl) (.none rfl) rfl (OpP.indexS rfl rfl el_38 (by omega) (by omega)) ?_
      refine AJ.p (i := 10) rfl (by kernel_rfl) (.none rfl) rfl (OpP.move rfl) ?_
      refine AJ.p (i := 11) rfl (by kernel_rfl) (.none rfl) rfl (OpP.move rfl) ?_
      refine AJ.p (i := 12) rfl (by kernel_rfl) (.none rfl) rfl (OpP.indexS rfl rfl el_38 (by omega) (by omega)) ?_
      refine AJ.two 9 13 rfl rfl (by kernel_rfl) (by intro _ h; first | exact h | exact h.drop) ?_ ?_
      · -- 9 first
        refine WL.p (.none rfl) rfl (OpP.load rfl ty_22 (Rd.ivq (l := l) List.mem_cons_self j (by omega) (by omega))) ?_
        refine WL.nil ?_
        refine EQ.an ?_
        refine AJ.one 13 rfl (by kernel_rfl) (by intro _ h; first | exact h | exact h.drop) ?_
        refine WL.p (.none rfl) rfl (OpP.load rfl ty_22 (Rd.ivp (l := l) List.mem_cons_self j (by omega))) ?_
        refine WL.nil ?_
        refine EQ.an ?_
        refine AJ.p (i := 14) rfl (by kernel_rfl) (.none rfl) rfl (OpP.indexS rfl rfl el_38 (by omega) (by omega)) ?_
        refine AJ.one 15 rfl (by kernel_rfl) (by intro _ h; first | exact h | exact h.drop) ?_
        refine WL.s (.none rfl) rfl (OpS.store rfl rfl ty_22 at0 rfl rfl rfl (Nat.ble_eq_true_of_le (by simp [iv]; omega))) ?_
        rw [spl_ivp j (by first | omega | (simp only [List.length_set]; omega))]
        refine WL.nil ?_
        refine EQ.an ?_
        refine AJ.p (i := 16) rfl (by kernel_rfl) (.none rfl) rfl (OpP.indexS rfl rfl el_38 (by omega) (by omega)) ?_
        refine AJ.one 17 rfl (by kernel_rfl) (by intro _ h; first | exact h | exact h.drop) ?_
        refine WL.s (.none rfl) rfl (OpS.store rfl rfl ty_22 at0 rfl rfl rfl (Nat.ble_eq_true_of_le (by simp [iv]; omega))) ?_
        rw [spl_ivq j (by omega) (by first | omega | (simp only [List.length_set]; omega))]
        refine WL.nil ?_
        refine EQ.an ?_
        refine AJ.done (by kernel_rfl) (by intro _ h; first | exact h | exact h.drop) ?_
        refine EQ.sub ((Sub.cons (i := 0) rfl (Sub.cons (i := 1) rfl (Sub.cons (i := 2) rfl (Sub.cons (i := 6) rfl (Sub.cons (i := 7) rfl (Sub.nil _))))))) ?_
        refine EQ.blockN ?_
        refine EQ.code ?_
        refine WC.region ?_
        refine WL.p (.none rfl) rfl (OpP.move rfl) ?_
        refine WL.p (.none rfl) rfl (OpP.sub64 rfl rfl (by omega)) ?_
        rw [show ((j : Nat) : Int) - 1 = ((j - 1 : Nat) : Int) by omega]
        refine WL.p (.none rfl) rfl (OpP.assign rfl) ?_
        refine WL.nil ?_
        refine EQ.sub ((Sub.cons (i := 0) rfl (Sub.cons (i := 1) rfl (Sub.cons (i := 2) rfl (Sub.cons (i := 6) rfl (Sub.cons (i := 7) rfl (Sub.nil _))))))) ?_
        refine EQ.again (j - 1, turn l j) ?_ ?_ ?_ ?_
        · exact hins.turn (by omega) hc1.2
        · (try simp only); omega
        · exact ((Sub.cons rfl (Sub.cons rfl (Sub.cons rfl (Sub.cons rfl (Sub.cons rfl (Sub.nil _)))))))
        · intro w h; first | exact h | (rw [← turn_comm l (by omega)]; exact h)
      · -- 13 first
        refine WL.p (.none rfl) rfl (OpP.load rfl ty_22 (Rd.ivp (l := l) List.mem_cons_self j (by omega))) ?_
        refine WL.nil ?_
        refine EQ.an ?_
        refine AJ.one 9 rfl (by kernel_rfl) (by intro _ h; first | exact h | exact h.drop) ?_
        refine WL.p (.none rfl) rfl (OpP.load rfl ty_22 (Rd.ivq (l := l) List.mem_cons_self j (by omega) (by omega))) ?_
        refine WL.nil ?_
        refine EQ.an ?_
        refine AJ.p (i := 14) rfl (by kernel_rfl) (.none rfl) rfl (OpP.indexS rfl rfl el_38 (by omega) (by omega)) ?_
        refine AJ.one 15 rfl (by kernel_rfl) (by intro _ h; first | exact h | exact h.drop) ?_
        refine WL.s (.none rfl) rfl (OpS.store rfl rfl ty_22 at0 rfl rfl rfl (Nat.ble_eq_true_of_le (by simp [iv]; omega))) ?_
        rw [spl_ivp j (by first | omega | (simp only [List.length_set]; omega))]
        refine WL.nil ?_
        refine EQ.an ?_
        refine AJ.p (i := 16) rfl (by kernel_rfl) (.none rfl) rfl (OpP.indexS rfl rfl el_38 (by omega) (by omega)) ?_
        refine AJ.one 17 rfl (by kernel_rfl) (by intro _ h; first | exact h | exact h.drop) ?_
        refine WL.s (.none rfl) rfl (OpS.store rfl rfl ty_22 at0 rfl rfl rfl (Nat.ble_eq_true_of_le (by simp [iv]; omega))) ?_
        rw [spl_ivq j (by omega) (by first | omega | (simp only [List.length_set]; omega))]
        refine WL.nil ?_
        refine EQ.an ?_
        refine AJ.done (by kernel_rfl) (by intro _ h; first | exact h | exact h.drop) ?_
        refine EQ.sub ((Sub.cons (i := 0) rfl (Sub.cons (i := 1) rfl (Sub.cons (i := 2) rfl (Sub.cons (i := 6) rfl (Sub.cons (i := 7) rfl (Sub.nil _))))))) ?_
        refine EQ.blockN ?_
        refine EQ.code ?_
        refine WC.region ?_
        refine WL.p (.none rfl) rfl (OpP.move rfl) ?_
        refine WL.p (.none rfl) rfl (OpP.sub64 rfl rfl (by omega)) ?_
        rw [show ((j : Nat) : Int) - 1 = ((j - 1 : Nat) : Int) by omega]
        refine WL.p (.none rfl) rfl (OpP.assign rfl) ?_
        refine WL.nil ?_
        refine EQ.sub ((Sub.cons (i := 0) rfl (Sub.cons (i := 1) rfl (Sub.cons (i := 2) rfl (Sub.cons (i := 6) rfl (Sub.cons (i := 7) rfl (Sub.nil _))))))) ?_
        refine EQ.again (j - 1, turn l j) ?_ ?_ ?_ ?_
        · exact hins.turn (by omega) hc1.2
        · (try simp only); omega
        · exact ((Sub.cons rfl (Sub.cons rfl (Sub.cons rfl (Sub.cons rfl (Sub.cons rfl (Sub.nil _)))))))
        · intro w h; first | exact h | (rw [← turn_comm l (by omega)]; exact h)
    · -- cond 1 f
      (try simp only [decide_eq_true_eq, decide_eq_false_iff_not, Bool.not_eq_true', Bool.not_eq_false', Bool.or_eq_true, Bool.and_eq_true, Bool.or_eq_false_iff, Bool.and_eq_false_imp, Option.isNone_some, Bool.false_eq_true, false_or, true_and] at hc1)
      have hsd : Sorted l (i + 1) := hins.done (by rcases Nat.eq_zero_or_pos j with h | h; exact .inl h; right; have := hc1 (by omega); omega)
      refine WC.exit ?_
      refine EQ.thenE ?_
      refine EQ.thenE ?_
      refine EQ.blockHit ?_
      refine EQ.blockN ?_
      refine EQ.code ?_
      refine WC.region ?_
      refine WL.p (.none rfl) rfl (OpP.move rfl) ?_
      first | (refine WL.p (.none rfl) rfl (OpP.add64 rfl rfl (by omega)) ?_) | (refine WL.p (.none rfl) rfl (OpP.add rfl rfl) ?_)
      refine WL.p (.none rfl) rfl (OpP.assign rfl) ?_
      refine WL.nil ?_
      refine EQ.sub ((Sub.cons (i := 0) rfl (Sub.cons (i := 1) rfl (Sub.cons (i := 2) rfl (Sub.cons (i := 6) rfl (Sub.nil _)))))) ?_
      refine EQ.again (i + 1, l) ?_ ?_ ?_ ?_
      · exact ⟨hins.perm, hsd, by (try simp only); omega, .inl (by (try simp only); omega)⟩
      · (try simp only); omega
      · exact ((Sub.cons rfl (Sub.cons rfl (Sub.cons rfl (Sub.cons rfl (Sub.nil _))))))
      · intro _ h; first | exact h | exact h.drop | exact h.drop_mid | exact h.drop_mid.drop_mid
  · -- cond 0 f
    (try simp only [decide_eq_true_eq, decide_eq_false_iff_not, Bool.not_eq_true', Bool.not_eq_false', Bool.or_eq_true, Bool.and_eq_true, Bool.or_eq_false_iff, Bool.and_eq_false_imp, Option.isNone_some, Bool.false_eq_true, false_or, true_and] at hc0)
    refine WC.exit ?_
    refine EQ.thenE ?_
    refine EQ.thenE ?_
    refine EQ.blockHit ?_
    refine EQ.finN (res0 rfl) ?_
    refine ⟨rfl, l, rfl, hp, ?_⟩
    intro p q h1 h2
    exact hso p q h1 (by omega)

set_option maxRecDepth 100000 in
theorem pdq_c {W0 : World} {R : Hp} {b c : Nat} {rest : List Value} {T : TypeId} {l0 : List Int} {q : Int} (h12 : l0.length ≤ 12) :
    CxX Try.prog W0 33 #[.slice (some ⟨b, 0, none⟩) l0.length c, .int .i64 0, .int .i64 (l0.length : Int), .int .i64 q] ((b, cl (iv .u64 l0 ++ rest) T) :: R) (fun v H' => v = .tuple #[] ∧ ∃ l, H' = (b, cl (iv .u64 l ++ rest) T) :: R ∧ l.Perm l0 ∧ Sorted l l.length) := by
  refine enter Try.func33 rfl Try.ntmps33 rfl ?_
  refine WC.seq ?_
  refine WC.region ?_
  refine WL.p (.none rfl) rfl (OpP.assign rfl) ?_
  refine WL.nil ?_
  refine EQ.sub ((Sub.cons (i := 0) rfl (Sub.cons (i := 1) rfl (Sub.cons (i := 2) rfl (Sub.cons (i := 3) rfl (Sub.cons (i := 8) rfl (Sub.nil _))))))) ?_
  refine EQ.code ?_
  refine WC.seq ?_
  refine WC.region ?_
  refine WL.p (.none rfl) rfl (OpP.assign rfl) ?_
  refine WL.nil ?_
  refine EQ.sub ((Sub.cons (i := 0) rfl (Sub.cons (i := 1) rfl (Sub.cons (i := 2) rfl (Sub.cons (i := 3) rfl (Sub.cons (i := 8) rfl (Sub.cons (i := 9) rfl (Sub.nil _)))))))) ?_
  refine EQ.code ?_
  refine WC.block ?_
  refine WC.loop (σ := Unit) (fun _ => [(0, .slice (some ⟨b, 0, none⟩) l0.length c), (1, .int .i64 0), (2, .int .i64 (l0.length : Int))]) (fun _ => (b, cl (iv .u64 l0 ++ rest) T) :: R) (fun _ => True) (fun _ => 0) () trivial ((Sub.cons rfl (Sub.cons rfl (Sub.cons rfl (Sub.nil _))))) (fun _ h => h) (fun _ hinv => ?_)
  refine WC.block ?_
  refine WC.seq ?_
  refine WC.region ?_
  refine WL.p (.none rfl) rfl (OpP.move rfl) ?_
  refine WL.p (.none rfl) rfl (OpP.move rfl) ?_
  first | (refine WL.p (.none rfl) rfl (OpP.sub64 rfl rfl (by omega)) ?_) | (refine WL.p (.none rfl) rfl (OpP.sub rfl rfl) ?_)
  refine WL.p (.none rfl) rfl (OpP.assign rfl) ?_
  refine WL.nil ?_
  refine EQ.sub ((Sub.cons (i := 0) rfl (Sub.cons (i := 1) rfl (Sub.cons (i := 2) rfl (Sub.cons (i := 10) rfl (Sub.nil _)))))) ?_
  refine EQ.code ?_
  refine WC.seq ?_
  refine WC.seq ?_
  refine WC.region ?_
  refine WL.p (.none rfl) rfl (OpP.move rfl) ?_
  refine WL.p (.none rfl) rfl (OpP.leq rfl rfl) ?_
  refine WL.nil ?_
  refine EQ.sub ((Sub.cons (i := 0) rfl (Sub.cons (i := 1) rfl (Sub.cons (i := 2) rfl (Sub.cons (i := 10) rfl (Sub.cons (i := 23) rfl (Sub.nil _))))))) ?_
  refine EQ.code ?_
  refine WC.cond rfl (fun hc0 => ?_) (fun hc0 => ?_)
  · -- cond 0 t
    (try simp only [decide_eq_true_eq, decide_eq_false_iff_not, Bool.not_eq_true', Bool.not_eq_false', Bool.or_eq_true, Bool.and_eq_true, Bool.or_eq_false_iff, Bool.and_eq_false_imp, Option.isNone_some, Bool.false_eq_true, false_or, true_and] at hc0)
    refine WC.seq ?_
    refine WC.region ?_
    refine WL.p (.none rfl) rfl (OpP.move rfl) ?_
    refine WL.p (.none rfl) rfl (OpP.move rfl) ?_
    refine WL.p (.none rfl) rfl (OpP.move rfl) ?_
    refine WL.call rfl (.none rfl) rfl k_36 rfl (insSort_c h12) ?_
    rintro _ _ ⟨rfl, l, rfl, hp, hso⟩
    refine WL.nil ?_
    refine EQ.sub ((Sub.cons (i := 0) rfl (Sub.cons (i := 1) rfl (Sub.cons (i := 2) rfl (Sub.cons (i := 10) rfl (Sub.nil _)))))) ?_
    refine EQ.code ?_
    refine WC.ret ?_
    refine EQ.thenR ?_
    refine EQ.blockR ?_
    refine EQ.thenR ?_
    refine EQ.blockR ?_
    refine EQ.fin (res0 rfl) ?_
    exact ⟨rfl, l, rfl, hp, hso⟩
  · -- cond 0 f
    (try simp only [decide_eq_true_eq, decide_eq_false_iff_not, Bool.not_eq_true', Bool.not_eq_false', Bool.or_eq_true, Bool.and_eq_true, Bool.or_eq_false_iff, Bool.and_eq_false_imp, Option.isNone_some, Bool.false_eq_true, false_or, true_and] at hc0)
    exfalso; omega

set_option maxRecDepth 100000 in
theorem Len64_c {W0 : World} {H : Hp} {x : Int} (h0 : 0 ≤ x) (h : x ≤ 12) : CxX Try.prog W0 46 #[.int .u64 x] H (fun v H' => H' = H ∧ ∃ r, v = .int .i64 r) := by
  refine enter Try.func46 rfl Try.ntmps46 rfl ?_
  refine WC.seq ?_
  refine WC.region ?_
  refine WL.p (.none rfl) rfl (OpP.assign rfl) ?_
  refine WL.nil ?_
  refine EQ.sub ((Sub.cons (i := 0) rfl (Sub.cons (i := 2) rfl (Sub.nil _)))) ?_
  refine EQ.code ?_
  refine WC.seq ?_
  refine WC.seq ?_
  refine WC.region ?_
  refine WL.p (.none rfl) rfl (OpP.move rfl) ?_
  refine WL.p (.none rfl) rfl (OpP.geq rfl rfl) ?_
  refine WL.nil ?_
  refine EQ.sub ((Sub.cons (i := 0) rfl (Sub.cons (i := 2) rfl (Sub.cons (i := 4) rfl (Sub.nil _))))) ?_
  refine EQ.code ?_
  refine WC.cond rfl (fun hc0 => ?_) (fun hc0 => ?_)
  · -- cond 0 t
    (try simp only [decide_eq_true_eq, decide_eq_false_iff_not, Bool.not_eq_true', Bool.not_eq_false', Bool.or_eq_true, Bool.and_eq_true, Bool.or_eq_false_iff, Bool.and_eq_false_imp, Option.isNone_some, Bool.false_eq_true, false_or, true_and] at hc0)
    exfalso; omega
  · -- cond 0 f
    (try simp only [decide_eq_true_eq, decide_eq_false_iff_not, Bool.not_eq_true', Bool.not_eq_false', Bool.or_eq_true, Bool.and_eq_true, Bool.or_eq_false_iff, Bool.and_eq_false_imp, Option.isNone_some, Bool.false_eq_true, false_or, true_and] at hc0)
    refine WC.skip ?_
    refine EQ.code ?_
    refine WC.seq ?_
    refine WC.seq ?_
    refine WC.region ?_
    refine WL.p (.none rfl) rfl (OpP.move rfl) ?_
    refine WL.p (.none rfl) rfl (OpP.geq rfl rfl) ?_
    refine WL.nil ?_
    refine EQ.sub ((Sub.cons (i := 0) rfl (Sub.cons (i := 2) rfl (Sub.cons (i := 8) rfl (Sub.nil _))))) ?_
    refine EQ.code ?_
    refine WC.cond rfl (fun hc1 => ?_) (fun hc1 => ?_)
    · -- cond 1 t
      (try simp only [decide_eq_true_eq, decide_eq_false_iff_not, Bool.not_eq_true', Bool.not_eq_false', Bool.or_eq_true, Bool.and_eq_true, Bool.or_eq_false_iff, Bool.and_eq_false_imp, Option.isNone_some, Bool.false_eq_true, false_or, true_and] at hc1)
      exfalso; omega
    · -- cond 1 f
      (try simp only [decide_eq_true_eq, decide_eq_false_iff_not, Bool.not_eq_true', Bool.not_eq_false', Bool.or_eq_true, Bool.and_eq_true, Bool.or_eq_false_iff, Bool.and_eq_false_imp, Option.isNone_some, Bool.false_eq_true, false_or, true_and] at hc1)
      refine WC.skip ?_
      refine EQ.code ?_
      refine WC.seq ?_
      refine WC.seq ?_
      refine WC.region ?_
      refine WL.p (.none rfl) rfl (OpP.move rfl) ?_
      refine WL.p (.none rfl) rfl (OpP.geq rfl rfl) ?_
      refine WL.nil ?_
      refine EQ.sub ((Sub.cons (i := 0) rfl (Sub.cons (i := 2) rfl (Sub.cons (i := 14) rfl (Sub.nil _))))) ?_
      refine EQ.code ?_
      refine WC.cond rfl (fun hc2 => ?_) (fun hc2 => ?_)
      · -- cond 2 t
        (try simp only [decide_eq_true_eq, decide_eq_false_iff_not, Bool.not_eq_true', Bool.not_eq_false', Bool.or_eq_true, Bool.and_eq_true, Bool.or_eq_false_iff, Bool.and_eq_false_imp, Option.isNone_some, Bool.false_eq_true, false_or, true_and] at hc2)
        exfalso; omega
      · -- cond 2 f
        (try simp only [decide_eq_true_eq, decide_eq_false_iff_not, Bool.not_eq_true', Bool.not_eq_false', Bool.or_eq_true, Bool.and_eq_true, Bool.or_eq_false_iff, Bool.and_eq_false_imp, Option.isNone_some, Bool.false_eq_true, false_or, true_and] at hc2)
        refine WC.skip ?_
        refine EQ.code ?_
        refine WC.seq ?_
        refine WC.region ?_
        refine WL.p (.none rfl) rfl (OpP.move rfl) ?_
        refine WL.p (.none rfl) rfl (OpP.move rfl) ?_
        refine WL.p (.none rfl) rfl (OpP.conv rfl Try.underlying22 Try.underlying5) ?_
        rw [show IntKind.wrap .u8 x = x by unfold IntKind.wrap; simp [IntKind.bits, IntKind.signed]; omega]
        refine WL.p (.none rfl) rfl (OpP.indexStr rfl rfl Try.underlying9 h0 (Int.lt_of_lt_of_le (show x < 256 by omega) (Int.ofNat_le.2 (Nat.le_of_ble_eq_true (by kernel_rfl))))) ?_
        generalize (UInt8.toNat _) = y8
        first | (refine WL.p (.none rfl) rfl (OpP.convI rfl Try.underlying5 Try.underlying3 (by omega)) ?_) | (refine WL.p (.none rfl) rfl (OpP.conv rfl Try.underlying5 Try.underlying3) ?_)
        first | (refine WL.p (.none rfl) rfl (OpP.add64 rfl rfl (by omega)) ?_) | (refine WL.p (.none rfl) rfl (OpP.add rfl rfl) ?_)
        refine WL.p (.none rfl) rfl (OpP.assign rfl) ?_
        refine WL.nil ?_
        refine EQ.sub ((Sub.cons (i := 2) rfl (Sub.nil _))) ?_
        refine EQ.code ?_
        refine WC.ret ?_
        refine EQ.fin (res1 rfl (.tmp rfl)) ?_
        exact ⟨rfl, _, rfl⟩

set_option maxRecDepth 100000 in
theorem Len_c {W0 : World} {H : Hp} {x : Int} (h0 : 0 ≤ x) (h : x ≤ 12) : CxX Try.prog W0 34 #[.int .u64 x] H (fun v H' => H' = H ∧ ∃ r, v = .int .i64 r) := by
  refine enter Try.func34 rfl Try.ntmps34 rfl ?_
  refine WC.seq ?_
  refine WC.region ?_
  refine WL.p (.none rfl) rfl (OpP.assign rfl) ?_
  refine WL.nil ?_
  refine EQ.sub ((Sub.cons (i := 0) rfl (Sub.cons (i := 2) rfl (Sub.nil _)))) ?_
  refine EQ.code ?_
  refine WC.seq ?_
  refine WC.condF rfl ?_
  refine WC.skip ?_
  refine EQ.code ?_
  refine WC.seq ?_
  refine WC.region ?_
  refine WL.p (.none rfl) rfl (OpP.move rfl) ?_
  refine WL.call rfl (.none rfl) rfl k_46 rfl (Len64_c h0 h) ?_
  rintro _ _ ⟨rfl, r, rfl⟩
  refine WL.p (.none rfl) rfl (OpP.assign rfl) ?_
  refine WL.nil ?_
  refine EQ.sub ((Sub.cons (i := 2) rfl (Sub.nil _))) ?_
  refine EQ.code ?_
  refine WC.ret ?_
  refine EQ.fin (res1 rfl (.tmp rfl)) ?_
  exact ⟨rfl, _, rfl⟩

theorem own_iv {T : TypeId} {a : Option Addr} {c : Nat} {l : List Int} {sg : Hp} (h : OwnS T 1 (.slice a l.length c) l.length (iv .u64 l) sg) (h0 : 0 < l.length) : ∃ b rest, a = some ⟨b, 0, none⟩ ∧ sg = [(b, cl (iv .u64 l ++ rest) T)] ∧
    ∀ l' : List Int, l'.length = l.length → OwnS T 1 (.slice a l'.length c) l'.length (iv .u64 l') [(b, cl (iv .u64 l' ++ rest) T)] := by
  obtain ⟨h1, ⟨h2, h3, _⟩ | ⟨b, L, cap, e1, e2, h3, h4, h5, h6⟩⟩ := h
  · omega
  · cases e1
    simp only [Nat.mul_one] at h3 h6
    have hL : L = iv .u64 l ++ L.drop l.length := by rw [← h6, List.take_append_drop]
    refine ⟨b, L.drop l.length, rfl, by rw [← hL]; exact e2, fun l' hl' => ⟨by simp, .inr ⟨b, _, _, by rw [hl'], rfl, ?_, by omega, h5, ?_⟩⟩⟩
    · simp; omega
    · simp [hl']
theorem Sorted.small {l : List Int} (h : l.length = 0) : Sorted l l.length := fun p q h1 h2 => by omega

set_option maxRecDepth 100000 in
theorem insSort_0 {W0 : World} {H : Hp} {a : Option Addr} {c : Nat} : CxD Try.prog W0 36 #[.slice a 0 c, .int .i64 0, .int .i64 0] H (.tuple #[]) H := by
  refine enter Try.func36 rfl Try.ntmps36 rfl ?_
  refine WC.seq ?_
  refine WC.region ?_
  refine WL.p (.none rfl) rfl (OpP.move rfl) ?_
  first | (refine WL.p (.none rfl) rfl (OpP.add64 rfl rfl (by omega)) ?_) | (refine WL.p (.none rfl) rfl (OpP.add rfl rfl) ?_)
  refine WL.p (.none rfl) rfl (OpP.assign rfl) ?_
  refine WL.nil ?_
  refine EQ.sub ((Sub.cons (i := 0) rfl (Sub.cons (i := 1) rfl (Sub.cons (i := 2) rfl (Sub.cons (i := 6) rfl (Sub.nil _)))))) ?_
  refine EQ.code ?_
  refine WC.block ?_
  refine WC.loop (σ := Unit) (fun _ => [(2, .int .i64 0), (6, .int .i64 1)]) (fun _ => H) (fun _ => True) (fun _ => 0) () trivial ((Sub.cons rfl (Sub.cons rfl (Sub.nil _)))) (fun _ h => h) (fun _ hinv => ?_)
  refine WC.seq ?_
  refine WC.seq ?_
  refine WC.region ?_
  refine WL.p (.none rfl) rfl (OpP.move rfl) ?_
  refine WL.p (.none rfl) rfl (OpP.move rfl) ?_
  refine WL.p (.none rfl) rfl (OpP.lss rfl rfl) ?_
  refine WL.nil ?_
  refine EQ.sub ((Sub.cons (i := 2) rfl (Sub.cons (i := 6) rfl (Sub.cons (i := 12) rfl (Sub.nil _))))) ?_
  refine EQ.code ?_
  refine WC.condF rfl ?_
  refine WC.exit ?_
  refine EQ.thenE ?_
  refine EQ.thenE ?_
  refine EQ.blockHit ?_
  refine EQ.finN (res0 rfl) ?_
  exact ⟨rfl, rfl⟩

set_option maxRecDepth 100000 in
theorem pdq_0 {W0 : World} {H : Hp} {a : Option Addr} {c : Nat} {q : Int} : CxD Try.prog W0 33 #[.slice a 0 c, .int .i64 0, .int .i64 0, .int .i64 q] H (.tuple #[]) H := by
  refine enter Try.func33 rfl Try.ntmps33 rfl ?_
  refine WC.seq ?_
  refine WC.region ?_
  refine WL.p (.none rfl) rfl (OpP.assign rfl) ?_
  refine WL.nil ?_
  refine EQ.sub ((Sub.cons (i := 0) rfl (Sub.cons (i := 1) rfl (Sub.cons (i := 2) rfl (Sub.cons (i := 3) rfl (Sub.cons (i := 8) rfl (Sub.nil _))))))) ?_
  refine EQ.code ?_
  refine WC.seq ?_
  refine WC.region ?_
  refine WL.p (.none rfl) rfl (OpP.assign rfl) ?_
  refine WL.nil ?_
  refine EQ.sub ((Sub.cons (i := 0) rfl (Sub.cons (i := 1) rfl (Sub.cons (i := 2) rfl (Sub.cons (i := 3) rfl (Sub.cons (i := 8) rfl (Sub.cons (i := 9) rfl (Sub.nil _)))))))) ?_
  refine EQ.code ?_
  refine WC.block ?_
  refine WC.loop (σ := Unit) (fun _ => [(0, .slice a 0 c), (1, .int .i64 0), (2, .int .i64 0)]) (fun _ => H) (fun _ => True) (fun _ => 0) () trivial ((Sub.cons rfl (Sub.cons rfl (Sub.cons rfl (Sub.nil _))))) (fun _ h => h) (fun _ hinv => ?_)
  refine WC.block ?_
  refine WC.seq ?_
  refine WC.region ?_
  refine WL.p (.none rfl) rfl (OpP.move rfl) ?_
  refine WL.p (.none rfl) rfl (OpP.move rfl) ?_
  first | (refine WL.p (.none rfl) rfl (OpP.sub64 rfl rfl (by omega)) ?_) | (refine WL.p (.none rfl) rfl (OpP.sub rfl rfl) ?_)
  refine WL.p (.none rfl) rfl (OpP.assign rfl) ?_
  refine WL.nil ?_
  refine EQ.sub ((Sub.cons (i := 0) rfl (Sub.cons (i := 1) rfl (Sub.cons (i := 2) rfl (Sub.cons (i := 10) rfl (Sub.nil _)))))) ?_
  refine EQ.code ?_
  refine WC.seq ?_
  refine WC.seq ?_
  refine WC.region ?_
  refine WL.p (.none rfl) rfl (OpP.move rfl) ?_
  refine WL.p (.none rfl) rfl (OpP.leq rfl rfl) ?_
  refine WL.nil ?_
  refine EQ.sub ((Sub.cons (i := 0) rfl (Sub.cons (i := 1) rfl (Sub.cons (i := 2) rfl (Sub.cons (i := 10) rfl (Sub.cons (i := 23) rfl (Sub.nil _))))))) ?_
  refine EQ.code ?_
  refine WC.condT rfl ?_
  refine WC.seq ?_
  refine WC.region ?_
  refine WL.p (.none rfl) rfl (OpP.move rfl) ?_
  refine WL.p (.none rfl) rfl (OpP.move rfl) ?_
  refine WL.p (.none rfl) rfl (OpP.move rfl) ?_
  refine WL.callD rfl (.none rfl) rfl k_36 rfl (insSort_0) ?_
  refine WL.nil ?_
  refine EQ.sub ((Sub.cons (i := 0) rfl (Sub.cons (i := 1) rfl (Sub.cons (i := 2) rfl (Sub.cons (i := 10) rfl (Sub.nil _)))))) ?_
  refine EQ.code ?_
  refine WC.ret ?_
  refine EQ.thenR ?_
  refine EQ.blockR ?_
  refine EQ.thenR ?_
  refine EQ.blockR ?_
  refine EQ.fin (res0 rfl) ?_
  exact ⟨rfl, rfl⟩

theorem pdq_own {W0 : World} {R ds : Hp} {a : Option Addr} {c : Nat} {l0 : List Int} {q : Int} (h12 : l0.length ≤ 12) (hown : OwnS 22 1 (.slice a l0.length c) l0.length (iv .u64 l0) ds) :
    CxX Try.prog W0 33 #[.slice a l0.length c, .int .i64 0, .int .i64 (l0.length : Int), .int .i64 q] (ds ++ R) (fun v H' => v = .tuple #[] ∧ ∃ l ds', H' = ds' ++ R ∧ l.Perm l0 ∧ Sorted l l.length ∧ OwnS 22 1 (.slice a l.length c) l.length (iv .u64 l) ds') := by
  rcases Nat.eq_zero_or_pos l0.length with h0 | h0
  · have := pdq_0 (W0 := W0) (H := ds ++ R) (a := a) (c := c) (q := q)
    rw [h0] at hown ⊢
    intro w hS
    refine (this w hS).mono fun _ _ ⟨v, H', he, ⟨e1, e2⟩, hS'⟩ => ?_
    subst e1 e2
    refine ⟨_, _, he, ⟨rfl, l0, ds, rfl, List.Perm.refl _, Sorted.small h0, ?_⟩, hS'⟩
    rw [h0]; exact hown
  · obtain ⟨b, rest, rfl, rfl, hall⟩ := own_iv hown h0
    intro w hS
    refine (pdq_c (R := R) (q := q) h12 w hS).mono fun _ _ ⟨v, H', he, ⟨e1, l, e2, hp, hso⟩, hS'⟩ => ?_
    subst e1 e2
    exact ⟨_, _, he, ⟨rfl, l, _, rfl, hp, hso, hall l hp.length_eq⟩, hS'⟩

set_option maxRecDepth 100000 in
theorem Sort_c {W0 : World} {R ds : Hp} {a : Option Addr} {c : Nat} {l0 : List Int} (h12 : l0.length ≤ 12) (hown : OwnS 22 1 (.slice a l0.length c) l0.length (iv .u64 l0) ds) :
    CxX Try.prog W0 26 #[.slice a l0.length c] (ds ++ R) (fun v H' => v = .tuple #[] ∧ ∃ l ds', H' = ds' ++ R ∧ l.Perm l0 ∧ Sorted l l.length ∧ OwnS 22 1 (.slice a l.length c) l.length (iv .u64 l) ds') := by
  refine enter Try.func26 rfl Try.ntmps26 rfl ?_
  refine WC.seq ?_
  refine WC.region ?_
  refine WL.p (.none rfl) rfl (OpP.move rfl) ?_
  refine WL.p (.none rfl) rfl (OpP.lenSl rfl Try.underlying38) ?_
  refine WL.p (.none rfl) rfl (OpP.assign rfl) ?_
  refine WL.nil ?_
  refine EQ.sub ((Sub.cons (i := 0) rfl (Sub.cons (i := 2) rfl (Sub.nil _)))) ?_
  refine EQ.code ?_
  refine WC.region ?_
  refine WL.p (.none rfl) rfl (OpP.move rfl) ?_
  refine WL.p (.none rfl) rfl (OpP.move rfl) ?_
  refine WL.p (.none rfl) rfl (OpP.move rfl) ?_
  refine WL.p (.none rfl) rfl (OpP.conv rfl Try.underlying3 Try.underlying72) ?_
  rw [show IntKind.wrap .u64 (l0.length : Int) = (l0.length : Int) by unfold IntKind.wrap; simp [IntKind.bits, IntKind.signed]; omega]
  refine WL.call rfl (.none rfl) rfl k_34 rfl (Len_c (by omega) (by omega)) ?_
  rintro _ _ ⟨rfl, r, rfl⟩
  refine WL.call rfl (.none rfl) rfl k_33 rfl (pdq_own (q := r) h12 hown) ?_
  rintro _ _ ⟨rfl, l, ds2, rfl, hp, hso, hown2⟩
  refine WL.nil ?_
  refine EQ.sub ((Sub.nil _)) ?_
  refine EQ.finN (res0 rfl) ?_
  exact ⟨rfl, l, ds2, rfl, hp, hso, hown2⟩

end Go.Proofs.Ytjdkohfgbekheaa
