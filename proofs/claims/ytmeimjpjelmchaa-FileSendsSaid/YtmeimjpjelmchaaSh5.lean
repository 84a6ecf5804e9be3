/- Sh5: walks of functions of the program, each over the rules of Sx. No conditions but those in the theorems' heads. -/
import Derived.Test.YtmeimjpjelmchaaSh4
import Derived.Test.YtmeimjpjelmchaaSxAny
import Derived.Test.YtmeimjpjelmchaaProg
set_option linter.unusedVariables false
set_option linter.unusedSimpArgs false
namespace Go.Proofs.Ytmeimjpjelmchaa
open Go.RowKit Go.Sx
namespace Sh5
theorem el_87 : elI Try.prog 87 = some (none, 23, false, 1) := by kernel_rfl
theorem k_53 : Cal Try.prog 53 := ⟨_, _, Try.func53, by kernel_rfl, rfl⟩
theorem k_54 : Cal Try.prog 54 := ⟨_, _, Try.func54, by kernel_rfl, rfl⟩
theorem k_55 : Cal Try.prog 55 := ⟨_, _, Try.func55, by kernel_rfl, rfl⟩
theorem sl_23 : slI Try.prog 23 = some (5, 1, 1) := by kernel_rfl
theorem sl_60 : slI Try.prog 60 = some (3, 1, 8) := by kernel_rfl
theorem ty_23 : tyI Try.prog 23 = some (false, 1) := by kernel_rfl
theorem ty_32 : tyI Try.prog 32 = some (true, 32) := by kernel_rfl
theorem z_32 : zI Try.prog 32 = some [.int .u8 0, .int .u8 0, .int .u8 0, .int .u8 0, .int .u8 0, .int .u8 0, .int .u8 0, .int .u8 0, .int .u8 0, .int .u8 0, .int .u8 0, .int .u8 0, .int .u8 0, .int .u8 0, .int .u8 0, .int .u8 0, .int .u8 0, .int .u8 0, .int .u8 0, .int .u8 0, .int .u8 0, .int .u8 0, .int .u8 0, .int .u8 0, .int .u8 0, .int .u8 0, .int .u8 0, .int .u8 0, .int .u8 0, .int .u8 0, .int .u8 0, .int .u8 0] := by kernel_rfl
end Sh5
open Sh5

set_option maxRecDepth 100000 in
theorem Clone47_c {W0 : World} {H : Hp} {a : Option Addr} {m cp : Nat} {l : List Int} (hl : l.length = m) (hb : l.length ≤ 17592186044416) (hsl : Sl W0 H a (iv .u8 l)) :
    CxX Try.prog W0 47 #[.slice a m cp] H (fun v H' => ∃ ds, H' = ds ++ H ∧ OwnS 5 1 v m (iv .u8 l) ds ∧ (a.isNone = true → v = .slice none 0 0)) := by
  refine enter Try.func47 rfl Try.ntmps47 rfl ?_
  refine WC.seq ?_
  refine WC.region ?_
  refine WL.p (.none rfl) rfl (OpP.assign rfl) ?_
  refine WL.nil ?_
  refine EQ.sub ((Sub.cons (i := 0) rfl (Sub.cons (i := 2) rfl (Sub.nil _)))) ?_
  refine EQ.code ?_
  refine WC.seq ?_
  refine WC.seq ?_
  refine WC.region ?_
  refine WL.p (.none rfl) rfl (OpP.move rfl) ?_
  refine WL.p (.none rfl) rfl (OpP.eqlSl rfl rfl Try.underlying23) ?_
  refine WL.nil ?_
  refine EQ.sub ((Sub.cons (i := 0) rfl (Sub.cons (i := 2) rfl (Sub.cons (i := 4) rfl (Sub.nil _))))) ?_
  refine EQ.code ?_
  refine WC.cond rfl (fun hc0 => ?_) (fun hc0 => ?_)
  · -- cond 0 t
    (try simp only [decide_eq_true_eq, decide_eq_false_iff_not, Bool.not_eq_true', Bool.not_eq_false', Bool.or_eq_true, Bool.and_eq_true, Bool.or_eq_false_iff, Bool.and_eq_false_imp] at hc0)
    refine WC.seq ?_
    refine WC.region ?_
    refine WL.p (.none rfl) rfl (OpP.assign rfl) ?_
    refine WL.nil ?_
    refine EQ.sub ((Sub.cons (i := 0) rfl (Sub.cons (i := 2) rfl (Sub.nil _)))) ?_
    refine EQ.code ?_
    refine WC.ret ?_
    refine EQ.thenR ?_
    refine EQ.finD (H' := H) (res1 rfl (.tmp rfl)) (by intro _ h; first | exact h | exact h.drop | exact h.drop.drop | exact h.drop.drop.drop | exact h.drop.drop.drop.drop | exact h.drop.drop.drop.drop.drop | exact h.drop.drop.drop.drop.drop.drop | exact h.drop_mid) ?_
    obtain ⟨p, rfl⟩ : ∃ p, a = p := ⟨_, rfl⟩
    have hn : a = none := by simpa using hc0
    have h0 : l = [] := by have := hsl.1 hn; simpa using this
    subst h0
    simp only [List.length_nil] at hl
    subst hl
    exact ⟨[], rfl, OwnS.nil _ _, fun _ => rfl⟩
  · -- cond 0 f
    (try simp only [decide_eq_true_eq, decide_eq_false_iff_not, Bool.not_eq_true', Bool.not_eq_false', Bool.or_eq_true, Bool.and_eq_true, Bool.or_eq_false_iff, Bool.and_eq_false_imp] at hc0)
    refine WC.skip ?_
    refine EQ.code ?_
    refine WC.seq ?_
    refine WC.region ?_
    refine WL.buildSlice1 sl_23 rfl rfl (by decide) rfl rfl (by rfl) (fun b5 => ?_)
    refine WL.p (.none rfl) rfl (OpP.move rfl) ?_
    refine WL.append (seg := [(b5, cl [] 5)]) (R := H) (cs := []) (news := iv .u8 l) rfl (.none rfl) rfl sl_23 rfl rfl (OwnS.empty 5 1 b5) (hsl.of (by intro w h; exact h.drop)) (by simp [hl]) iv_mem (by decide) (by simp only [maxLen]; omega) (by omega) (fun v7 ds hown _ => ?_)
    simp only [Nat.zero_add, List.nil_append] at hown
    refine WL.p (.none rfl) rfl (OpP.assign rfl) ?_
    refine WL.nil ?_
    refine EQ.sub ((Sub.cons (i := 2) rfl (Sub.nil _))) ?_
    refine EQ.code ?_
    refine WC.ret ?_
    refine EQ.finD (H' := ds ++ H) (res1 rfl (.tmp rfl)) (by intro _ h; first | exact h | exact h.drop | exact h.drop.drop | exact h.drop.drop.drop | exact h.drop.drop.drop.drop | exact h.drop.drop.drop.drop.drop | exact h.drop.drop.drop.drop.drop.drop | exact h.drop_mid) ?_
    exact ⟨ds, rfl, hown, fun h => by rw [hc0] at h; cases h⟩

set_option maxRecDepth 100000 in
theorem Clone57_c {W0 : World} {H : Hp} {a : Option Addr} {m cp : Nat} {l : List Int} (hl : l.length = m) (hb : l.length ≤ 17592186044416) (hsl : Sl W0 H a (iv .i64 l)) :
    CxX Try.prog W0 57 #[.slice a m cp] H (fun v H' => ∃ ds, H' = ds ++ H ∧ OwnS 3 1 v m (iv .i64 l) ds ∧ (a.isNone = true → v = .slice none 0 0)) := by
  refine enter Try.func57 rfl Try.ntmps57 rfl ?_
  refine WC.seq ?_
  refine WC.region ?_
  refine WL.p (.none rfl) rfl (OpP.assign rfl) ?_
  refine WL.nil ?_
  refine EQ.sub ((Sub.cons (i := 0) rfl (Sub.cons (i := 2) rfl (Sub.nil _)))) ?_
  refine EQ.code ?_
  refine WC.seq ?_
  refine WC.seq ?_
  refine WC.region ?_
  refine WL.p (.none rfl) rfl (OpP.move rfl) ?_
  refine WL.p (.none rfl) rfl (OpP.eqlSl rfl rfl Try.underlying60) ?_
  refine WL.nil ?_
  refine EQ.sub ((Sub.cons (i := 0) rfl (Sub.cons (i := 2) rfl (Sub.cons (i := 4) rfl (Sub.nil _))))) ?_
  refine EQ.code ?_
  refine WC.cond rfl (fun hc0 => ?_) (fun hc0 => ?_)
  · -- cond 0 t
    (try simp only [decide_eq_true_eq, decide_eq_false_iff_not, Bool.not_eq_true', Bool.not_eq_false', Bool.or_eq_true, Bool.and_eq_true, Bool.or_eq_false_iff, Bool.and_eq_false_imp] at hc0)
    refine WC.seq ?_
    refine WC.region ?_
    refine WL.p (.none rfl) rfl (OpP.assign rfl) ?_
    refine WL.nil ?_
    refine EQ.sub ((Sub.cons (i := 0) rfl (Sub.cons (i := 2) rfl (Sub.nil _)))) ?_
    refine EQ.code ?_
    refine WC.ret ?_
    refine EQ.thenR ?_
    refine EQ.finD (H' := H) (res1 rfl (.tmp rfl)) (by intro _ h; first | exact h | exact h.drop | exact h.drop.drop | exact h.drop.drop.drop | exact h.drop.drop.drop.drop | exact h.drop.drop.drop.drop.drop | exact h.drop.drop.drop.drop.drop.drop | exact h.drop_mid) ?_
    obtain ⟨p, rfl⟩ : ∃ p, a = p := ⟨_, rfl⟩
    have hn : a = none := by simpa using hc0
    have h0 : l = [] := by have := hsl.1 hn; simpa using this
    subst h0
    simp only [List.length_nil] at hl
    subst hl
    exact ⟨[], rfl, OwnS.nil _ _, fun _ => rfl⟩
  · -- cond 0 f
    (try simp only [decide_eq_true_eq, decide_eq_false_iff_not, Bool.not_eq_true', Bool.not_eq_false', Bool.or_eq_true, Bool.and_eq_true, Bool.or_eq_false_iff, Bool.and_eq_false_imp] at hc0)
    refine WC.skip ?_
    refine EQ.code ?_
    refine WC.seq ?_
    refine WC.region ?_
    refine WL.buildSlice1 sl_60 rfl rfl (by decide) rfl rfl (by rfl) (fun b5 => ?_)
    refine WL.p (.none rfl) rfl (OpP.move rfl) ?_
    refine WL.append (seg := [(b5, cl [] 3)]) (R := H) (cs := []) (news := iv .i64 l) rfl (.none rfl) rfl sl_60 rfl rfl (OwnS.empty 3 1 b5) (hsl.of (by intro w h; exact h.drop)) (by simp [hl]) iv_mem (by decide) (by simp only [maxLen]; omega) (by omega) (fun v7 ds hown _ => ?_)
    simp only [Nat.zero_add, List.nil_append] at hown
    refine WL.p (.none rfl) rfl (OpP.assign rfl) ?_
    refine WL.nil ?_
    refine EQ.sub ((Sub.cons (i := 2) rfl (Sub.nil _))) ?_
    refine EQ.code ?_
    refine WC.ret ?_
    refine EQ.finD (H' := ds ++ H) (res1 rfl (.tmp rfl)) (by intro _ h; first | exact h | exact h.drop | exact h.drop.drop | exact h.drop.drop.drop | exact h.drop.drop.drop.drop | exact h.drop.drop.drop.drop.drop | exact h.drop.drop.drop.drop.drop.drop | exact h.drop_mid) ?_
    exact ⟨ds, rfl, hown, fun h => by rw [hc0] at h; cases h⟩

/-- The bytes of a sum, as a function of their place. -/
def sumL (f : Nat → Int) : List Value := [.int .u8 (f 0), .int .u8 (f 1), .int .u8 (f 2), .int .u8 (f 3), .int .u8 (f 4), .int .u8 (f 5), .int .u8 (f 6), .int .u8 (f 7), .int .u8 (f 8), .int .u8 (f 9), .int .u8 (f 10), .int .u8 (f 11), .int .u8 (f 12), .int .u8 (f 13), .int .u8 (f 14), .int .u8 (f 15), .int .u8 (f 16), .int .u8 (f 17), .int .u8 (f 18), .int .u8 (f 19), .int .u8 (f 20), .int .u8 (f 21), .int .u8 (f 22), .int .u8 (f 23), .int .u8 (f 24), .int .u8 (f 25), .int .u8 (f 26), .int .u8 (f 27), .int .u8 (f 28), .int .u8 (f 29), .int .u8 (f 30), .int .u8 (f 31)]
theorem sumL_range (f : Nat → Int) : sumL f = (List.range 32).map fun (i : Nat) => Value.int .u8 (f i) := rfl
def sumF (l : List Int) (i : Nat) : Int := (Sha.of l).getD i 0
theorem sumL_eq (l : List Int) : iv .u8 (Sha.of l) = sumL (sumF l) := by
  rw [sumL_range]
  apply List.ext_getElem
  · simp [Sha.of_length]
  · intro i h1 h2
    simp [Sha.of_length] at h1
    simp [sumF, List.getD_eq_getElem?_getD, List.getElem?_eq_getElem, Sha.of_length, h1]

theorem shaSumF_c {W0 : World} {H : Hp} {g : Nat} {l : List Int} {la : Option Addr} {lc : Nat} {ds : Hp} (hb : l.length ≤ 140737488355328) (hown : OwnS 5 1 (.slice la (Sha.rest l).length lc) (Sha.rest l).length (iv .u8 (Sha.rest l)) ds) :
    CxD Try.prog W0 55 #[.pointer (some ⟨g, 0, none⟩)] ((g, shaO (Sha.absorb Sha.hL l) la (Sha.rest l).length lc l.length) :: (ds ++ H)) (.tuple #[.agg ⟨sumL (sumF l)⟩, .int .i64 0]) ((g, shaO (Sha.absorb Sha.hL l) la (Sha.rest l).length lc l.length) :: (ds ++ H)) := by
  rw [← sumL_eq]
  exact shaSum_c (Sha.stK_length _ _ rfl _) (by simp [Sha.rest]; omega) (by omega) (by omega) hown

set_option maxRecDepth 100000 in
theorem Of_c {W0 : World} {H : Hp} {a p : Option Addr} {m cp c1 : Nat} {l : List Int} (hl : l.length = m) (hb : l.length ≤ 140737488355328) (hc : m ≤ cp) (hsl : Sl W0 H a (iv .u8 l)) (h1 : Sl W0 H p [.slice a m cp]) :
    CxD Try.prog W0 28 #[.slice p 1 c1] H (.agg ⟨sumL (sumF l)⟩) H := by
  have hp0 : p ≠ none := by intro h; have := h1.1 h; cases this
  refine enter Try.func28 rfl Try.ntmps28 rfl ?_
  refine WC.seq ?_
  refine WC.region ?_
  refine WL.allocX z_32 rfl (fun b2 => ?_)
  refine WL.nil ?_
  refine EQ.sub ((Sub.cons (i := 0) rfl (Sub.cons (i := 2) rfl (Sub.nil _)))) ?_
  refine EQ.code ?_
  refine WC.seq ?_
  refine WC.region ?_
  refine WL.call rfl (.none rfl) rfl k_53 rfl (shaNew_c) ?_
  rintro _ _ ⟨g, rfl, rfl⟩
  refine WL.p (.none rfl) rfl (OpP.assign rfl) ?_
  refine WL.nil ?_
  refine EQ.sub ((Sub.cons (i := 0) rfl (Sub.cons (i := 2) rfl (Sub.cons (i := 3) rfl (Sub.nil _))))) ?_
  refine EQ.code ?_
  refine WC.seq ?_
  refine WC.seq ?_
  refine WC.region ?_
  refine WL.p (.none rfl) rfl (OpP.move rfl) ?_
  refine WL.p (.none rfl) rfl (OpP.lenSl rfl Try.underlying87) ?_
  refine WL.p (.none rfl) rfl (OpP.move rfl) ?_
  refine WL.nil ?_
  refine EQ.sub ((Sub.cons (i := 2) rfl (Sub.cons (i := 3) rfl (Sub.cons (i := 9) rfl (Sub.cons (i := 10) rfl (Sub.cons (i := 11) rfl (Sub.nil _))))))) ?_
  refine EQ.code ?_
  refine WC.block ?_
  refine WC.loop (σ := Nat × Hp) (fun s => [(2, .pointer (some ⟨b2, 0, none⟩)), (3, .pointer (some ⟨g, 0, none⟩)), (9, .slice p 1 c1), (10, .int .i64 1), (11, .int .i64 (s.1 : Int))]) (fun s => s.2 ++ ((b2, cl (iv .u8 (List.replicate 32 0)) 32) :: H)) (fun s => (s.1 = 0 ∧ s.2 = [(g, shaO Sha.hL none 0 0 0)]) ∨ (s.1 = 1 ∧ ∃ la lc ds, s.2 = (g, shaO (Sha.absorb Sha.hL l) la (Sha.rest l).length lc l.length) :: ds ∧ OwnS 5 1 (.slice la (Sha.rest l).length lc) (Sha.rest l).length (iv .u8 (Sha.rest l)) ds)) (fun s => 1 - s.1) (0, [(g, shaO Sha.hL none 0 0 0)]) (.inl ⟨rfl, rfl⟩) ((Sub.cons rfl (Sub.cons rfl (Sub.cons rfl (Sub.cons rfl (Sub.cons rfl (Sub.nil _))))))) (fun _ h => h) (fun ⟨i, hp⟩ hinv => ?_)
  (try simp only at hinv ⊢)
  refine WC.seq ?_
  refine WC.region ?_
  refine WL.p (.none rfl) rfl (OpP.lss rfl rfl) ?_
  refine WL.nil ?_
  refine EQ.sub ((Sub.cons (i := 2) rfl (Sub.cons (i := 3) rfl (Sub.cons (i := 9) rfl (Sub.cons (i := 10) rfl (Sub.cons (i := 11) rfl (Sub.cons (i := 12) rfl (Sub.nil _)))))))) ?_
  refine EQ.code ?_
  refine WC.seq ?_
  refine WC.cond rfl (fun hc0 => ?_) (fun hc0 => ?_)
  · -- cond 0 t
    (try simp only [decide_eq_true_eq, decide_eq_false_iff_not, Bool.not_eq_true', Bool.not_eq_false', Bool.or_eq_true, Bool.and_eq_true, Bool.or_eq_false_iff, Bool.and_eq_false_imp] at hc0)
    obtain ⟨rfl, rfl⟩ : i = 0 ∧ hp = [(g, shaO Sha.hL none 0 0 0)] := by
      rcases hinv with h | h
      · exact h
      · omega
    refine WC.skip ?_
    refine EQ.code ?_
    refine WC.seq ?_
    refine WC.block ?_
    refine WC.seq ?_
    refine WC.region ?_
    refine WL.p (.none rfl) rfl (OpP.indexSl rfl rfl el_87 (by omega) (by omega) (by assumption)) ?_
    refine WL.p (.none rfl) rfl (OpP.load rfl ty_23 ((h1.2.2 0 _ rfl).cons.cons)) ?_
    refine WL.p (.none rfl) rfl (OpP.assign rfl) ?_
    refine WL.nil ?_
    refine EQ.sub ((Sub.cons (i := 2) rfl (Sub.cons (i := 3) rfl (Sub.cons (i := 5) rfl (Sub.cons (i := 9) rfl (Sub.cons (i := 10) rfl (Sub.cons (i := 11) rfl (Sub.nil _)))))))) ?_
    refine EQ.code ?_
    refine WC.region ?_
    refine WL.p (.none rfl) rfl (OpP.move rfl) ?_
    refine WL.p (.none rfl) rfl (OpP.move rfl) ?_
    refine WL.call rfl (.none rfl) rfl k_54 rfl (shaAdd_c (H := (b2, cl (iv .u8 (List.replicate 32 0)) 32) :: H) hl.symm hb hc hsl.cons) ?_
    rintro _ _ ⟨rfl, la, lc, ds, rfl, hown⟩
    refine WL.nil ?_
    refine EQ.sub ((Sub.cons (i := 2) rfl (Sub.cons (i := 3) rfl (Sub.cons (i := 9) rfl (Sub.cons (i := 10) rfl (Sub.cons (i := 11) rfl (Sub.nil _))))))) ?_
    refine EQ.blockN ?_
    refine EQ.code ?_
    refine WC.region ?_
    first | (refine WL.p (.none rfl) rfl (OpP.add64 rfl rfl (by omega)) ?_) | (refine WL.p (.none rfl) rfl (OpP.add rfl rfl) ?_)
    refine WL.p (.none rfl) rfl (OpP.move rfl) ?_
    refine WL.nil ?_
    refine EQ.sub ((Sub.cons (i := 2) rfl (Sub.cons (i := 3) rfl (Sub.cons (i := 9) rfl (Sub.cons (i := 10) rfl (Sub.cons (i := 11) rfl (Sub.nil _))))))) ?_
    refine EQ.again (1, (g, shaO (Sha.absorb Sha.hL l) la (Sha.rest l).length lc l.length) :: ds) ?_ ?_ ?_ ?_
    · exact .inr ⟨rfl, la, lc, ds, rfl, hown⟩
    · (try simp only); omega
    · exact ((Sub.cons rfl (Sub.cons rfl (Sub.cons rfl (Sub.cons rfl (Sub.cons rfl (Sub.nil _)))))))
    · exact (fun _ h => h)
  · -- cond 0 f
    (try simp only [decide_eq_true_eq, decide_eq_false_iff_not, Bool.not_eq_true', Bool.not_eq_false', Bool.or_eq_true, Bool.and_eq_true, Bool.or_eq_false_iff, Bool.and_eq_false_imp] at hc0)
    obtain ⟨rfl, la, lc, ds, rfl, hown⟩ : i = 1 ∧ ∃ la lc ds, hp = (g, shaO (Sha.absorb Sha.hL l) la (Sha.rest l).length lc l.length) :: ds ∧ OwnS 5 1 (.slice la (Sha.rest l).length lc) (Sha.rest l).length (iv .u8 (Sha.rest l)) ds := by
      rcases hinv with h | h
      · omega
      · exact h
    refine WC.exit ?_
    refine EQ.thenE ?_
    refine EQ.thenE ?_
    refine EQ.blockHit ?_
    refine EQ.code ?_
    refine WC.seq ?_
    refine WC.region ?_
    refine WL.p (.none rfl) rfl (OpP.move rfl) ?_
    refine WL.callD rfl (.none rfl) rfl k_55 rfl (shaSumF_c (H := (b2, cl (iv .u8 (List.replicate 32 0)) 32) :: H) hb hown) ?_
    refine WL.perm (List.perm_middle (l₁ := (g, shaO (Sha.absorb Sha.hL l) la (Sha.rest l).length lc l.length) :: ds)) ?_
    refine WL.p (.none rfl) rfl (OpP.move rfl) ?_
    generalize sumF l = F
    refine WL.p (.none rfl) rfl (OpP.extract rfl rfl) ?_
    refine WL.p (.none rfl) rfl (OpP.extract rfl rfl) ?_
    refine WL.allocX z_32 rfl (fun b6 => ?_)
    first | (refine WL.s (.none rfl) rfl (OpS.storeAll rfl rfl ty_32 (by repeat (first | assumption | exact at0 | exact set_hit (by first | assumption | exact set_hit (by assumption)) | apply ats)) (by rfl) (by rfl) (by rfl) (by rfl)) ?_) | (refine WL.s (.none rfl) rfl (OpS.store rfl rfl ty_32 (by repeat (first | assumption | exact at0 | exact set_hit (by first | assumption | exact set_hit (by assumption)) | apply ats)) (by rfl) (by rfl) (by rfl) (by rfl)) ?_)
    refine WL.p (.none rfl) rfl (OpP.assign rfl) ?_
    refine WL.nil ?_
    refine EQ.sub ((Sub.cons (i := 2) rfl (Sub.cons (i := 6) rfl (Sub.nil _)))) ?_
    refine EQ.code ?_
    refine WC.seq ?_
    refine WC.region ?_
    refine WL.p (.none rfl) rfl (OpP.loadB rfl ty_32 (by repeat (first | assumption | exact List.mem_cons_self | exact List.mem_of_getElem? (by assumption) | exact set_mem (by first | assumption | exact set_hit (by assumption)) | apply List.mem_cons_of_mem | apply List.mem_append_right)) (by rfl)) ?_
    first | (refine WL.s (.none rfl) rfl (OpS.storeAll rfl rfl ty_32 (by repeat (first | assumption | exact at0 | exact set_hit (by first | assumption | exact set_hit (by assumption)) | apply ats)) (by rfl) (by rfl) (by rfl) (by rfl)) ?_) | (refine WL.s (.none rfl) rfl (OpS.store rfl rfl ty_32 (by repeat (first | assumption | exact at0 | exact set_hit (by first | assumption | exact set_hit (by assumption)) | apply ats)) (by rfl) (by rfl) (by rfl) (by rfl)) ?_)
    refine WL.nil ?_
    refine EQ.sub ((Sub.cons (i := 2) rfl (Sub.nil _))) ?_
    refine EQ.code ?_
    refine WC.ret ?_
    refine EQ.finD (H' := H) (res1 rfl (.cellB rfl ty_32 (by repeat (first | assumption | exact List.mem_cons_self | exact List.mem_of_getElem? (by assumption) | exact set_mem (by first | assumption | exact set_hit (by assumption)) | apply List.mem_cons_of_mem | apply List.mem_append_right)) (by rfl))) (by intro w h; exact h.drop.drop.drop.sublist (List.sublist_append_right ds _)) ?_
    exact ⟨rfl, rfl⟩

end Go.Proofs.Ytmeimjpjelmchaa
