/- Sh2: walks of functions of the program, each over the rules of Sx. No conditions but those in the theorems' heads. -/
import Derived.Test.YtmeimjpjelmchaaSh1
import Derived.Test.YtmeimjpjelmchaaProg
set_option linter.unusedVariables false
set_option linter.unusedSimpArgs false
namespace Go.Proofs.Ytmeimjpjelmchaa
open Go.RowKit Go.Sx
namespace Sh2
theorem el_113 : elI Try.prog 113 = some (some 8, 107, false, 1) := by kernel_rfl
theorem el_138 : elI Try.prog 138 = some (some 64, 107, false, 1) := by kernel_rfl
theorem el_140 : elI Try.prog 140 = some (some 16, 107, false, 1) := by kernel_rfl
theorem k_69 : Cal Try.prog 69 := ⟨_, _, Try.func69, by kernel_rfl, rfl⟩
theorem k_70 : Cal Try.prog 70 := ⟨_, _, Try.func70, by kernel_rfl, rfl⟩
theorem k_71 : Cal Try.prog 71 := ⟨_, _, Try.func71, by kernel_rfl, rfl⟩
theorem sl_142 : slI Try.prog 142 = some (107, 1, 4) := by kernel_rfl
theorem sl_23 : slI Try.prog 23 = some (5, 1, 1) := by kernel_rfl
theorem ty_107 : tyI Try.prog 107 = some (false, 1) := by kernel_rfl
theorem ty_113 : tyI Try.prog 113 = some (true, 8) := by kernel_rfl
theorem ty_138 : tyI Try.prog 138 = some (true, 64) := by kernel_rfl
theorem z_113 : zI Try.prog 113 = some [.int .u32 0, .int .u32 0, .int .u32 0, .int .u32 0, .int .u32 0, .int .u32 0, .int .u32 0, .int .u32 0] := by kernel_rfl
theorem z_138 : zI Try.prog 138 = some [.int .u32 0, .int .u32 0, .int .u32 0, .int .u32 0, .int .u32 0, .int .u32 0, .int .u32 0, .int .u32 0, .int .u32 0, .int .u32 0, .int .u32 0, .int .u32 0, .int .u32 0, .int .u32 0, .int .u32 0, .int .u32 0, .int .u32 0, .int .u32 0, .int .u32 0, .int .u32 0, .int .u32 0, .int .u32 0, .int .u32 0, .int .u32 0, .int .u32 0, .int .u32 0, .int .u32 0, .int .u32 0, .int .u32 0, .int .u32 0, .int .u32 0, .int .u32 0, .int .u32 0, .int .u32 0, .int .u32 0, .int .u32 0, .int .u32 0, .int .u32 0, .int .u32 0, .int .u32 0, .int .u32 0, .int .u32 0, .int .u32 0, .int .u32 0, .int .u32 0, .int .u32 0, .int .u32 0, .int .u32 0, .int .u32 0, .int .u32 0, .int .u32 0, .int .u32 0, .int .u32 0, .int .u32 0, .int .u32 0, .int .u32 0, .int .u32 0, .int .u32 0, .int .u32 0, .int .u32 0, .int .u32 0, .int .u32 0, .int .u32 0, .int .u32 0] := by kernel_rfl
theorem z_140 : zI Try.prog 140 = some [.int .u32 0, .int .u32 0, .int .u32 0, .int .u32 0, .int .u32 0, .int .u32 0, .int .u32 0, .int .u32 0, .int .u32 0, .int .u32 0, .int .u32 0, .int .u32 0, .int .u32 0, .int .u32 0, .int .u32 0, .int .u32 0] := by kernel_rfl
end Sh2
open Sh2

set_option maxRecDepth 100000 in
theorem mix_c {W0 : World} {H : Hp} {a : Option Addr} {len c : Nat} {s b : List Int} (hs : s.length = 8) (hb : b.length = 64) (hlen : len = 64) (hc : 64 ≤ c) (hc2 : c ≤ 9223372036854775807) (hsl : Sl W0 H a (iv .u8 b)) :
    CxD Try.prog W0 67 #[.agg ⟨iv .u32 s⟩, .slice a len c] H (.agg ⟨iv .u32 (Sha.mix s b)⟩) H := by
  subst hlen
  have hkl : Sha.kL.length = 64 := rfl
  refine enter Try.func67 rfl Try.ntmps67 rfl ?_
  refine WC.seq ?_
  refine WC.region ?_
  refine WL.box rfl rfl rfl (fun b2 => ?_)
  refine WL.allocX z_113 rfl (fun b4 => ?_)
  refine WL.nil ?_
  refine EQ.sub ((Sub.cons (i := 1) rfl (Sub.cons (i := 2) rfl (Sub.cons (i := 4) rfl (Sub.nil _))))) ?_
  refine EQ.code ?_
  refine WC.seq ?_
  refine WC.region ?_
  refine WL.callD rfl (.none rfl) rfl k_69 rfl (constants_c) ?_
  refine WL.allocX z_138 rfl (fun b5 => ?_)
  first | (refine WL.s (.none rfl) rfl (OpS.storeAll rfl rfl ty_138 (by repeat (first | assumption | exact at0 | exact set_hit (by first | assumption | exact set_hit (by assumption)) | apply ats)) (by rfl) (by rfl) (by rfl) (by rfl)) ?_) | (refine WL.s (.none rfl) rfl (OpS.store rfl rfl ty_138 (by repeat (first | assumption | exact at0 | exact set_hit (by first | assumption | exact set_hit (by assumption)) | apply ats)) (by rfl) (by first | rfl | (simp [spl_length]; done) | (simp [spl_length]; omega)) (by first | rfl | exact iv_one _ _ | (simp [Value.oneCell']; done)) (by first | rfl | (refine Nat.ble_eq_true_of_le ?_; simp [spl_length]; done) | (refine Nat.ble_eq_true_of_le ?_; simp [spl_length]; omega))) ?_)
  refine WL.nil ?_
  refine EQ.sub ((Sub.cons (i := 1) rfl (Sub.cons (i := 2) rfl (Sub.cons (i := 4) rfl (Sub.cons (i := 5) rfl (Sub.nil _)))))) ?_
  refine EQ.code ?_
  refine WC.seq ?_
  refine WC.region ?_
  refine WL.allocX z_140 rfl (fun b6 => ?_)
  refine WL.nil ?_
  refine EQ.sub ((Sub.cons (i := 1) rfl (Sub.cons (i := 2) rfl (Sub.cons (i := 4) rfl (Sub.cons (i := 5) rfl (Sub.cons (i := 6) rfl (Sub.nil _))))))) ?_
  refine EQ.code ?_
  refine WC.seq ?_
  refine WC.seq ?_
  refine WC.region ?_
  refine WL.p (.none rfl) rfl (OpP.move rfl) ?_
  refine WL.nil ?_
  refine EQ.sub ((Sub.cons (i := 1) rfl (Sub.cons (i := 2) rfl (Sub.cons (i := 4) rfl (Sub.cons (i := 5) rfl (Sub.cons (i := 6) rfl (Sub.cons (i := 19) rfl (Sub.nil _)))))))) ?_
  refine EQ.code ?_
  refine WC.block ?_
  refine WC.loop (σ := Nat) (fun i => [(1, .slice a 64 c), (2, .pointer (some ⟨b2, 0, none⟩)), (4, .pointer (some ⟨b4, 0, none⟩)), (5, .pointer (some ⟨b5, 0, none⟩)), (6, .pointer (some ⟨b6, 0, none⟩)), (19, .int .i64 (i : Int))]) (fun i => (b6, cl (iv .u32 ((Sha.words b).take i ++ (List.replicate 16 (0 : Int)).drop i)) 140) :: (b5, cl (iv .u32 Sha.kL) 138) :: (b4, cl (List.replicate 8 (.int .u32 0)) 113) :: (b2, cl (iv .u32 s) 113) :: H) (fun i => i ≤ 16) (fun i => 16 - i) 0 (by omega) ((Sub.cons rfl (Sub.cons rfl (Sub.cons rfl (Sub.cons rfl (Sub.cons rfl (Sub.cons rfl (Sub.nil _)))))))) (fun _ h => h) (fun i hinv => ?_)
  (try simp only)
  have hwl := Sha.words_length b
  refine WC.seq ?_
  refine WC.region ?_
  refine WL.p (.none rfl) rfl (OpP.lss rfl rfl) ?_
  refine WL.nil ?_
  refine EQ.sub ((Sub.cons (i := 1) rfl (Sub.cons (i := 2) rfl (Sub.cons (i := 4) rfl (Sub.cons (i := 5) rfl (Sub.cons (i := 6) rfl (Sub.cons (i := 19) rfl (Sub.cons (i := 20) rfl (Sub.nil _))))))))) ?_
  refine EQ.code ?_
  refine WC.seq ?_
  refine WC.cond rfl (fun hc0 => ?_) (fun hc0 => ?_)
  · -- cond 0 t
    (try simp only [decide_eq_true_eq, decide_eq_false_iff_not, Bool.not_eq_true', Bool.not_eq_false', Bool.or_eq_true, Bool.and_eq_true, Bool.or_eq_false_iff, Bool.and_eq_false_imp] at hc0)
    refine WC.skip ?_
    refine EQ.code ?_
    refine WC.seq ?_
    refine WC.block ?_
    refine WC.seq ?_
    refine WC.region ?_
    refine WL.p (.none rfl) rfl (OpP.move rfl) ?_
    refine WL.p (.none rfl) rfl (OpP.assign rfl) ?_
    refine WL.nil ?_
    refine EQ.sub ((Sub.cons (i := 1) rfl (Sub.cons (i := 2) rfl (Sub.cons (i := 4) rfl (Sub.cons (i := 5) rfl (Sub.cons (i := 6) rfl (Sub.cons (i := 7) rfl (Sub.cons (i := 19) rfl (Sub.nil _))))))))) ?_
    refine EQ.code ?_
    refine WC.region ?_
    refine WL.p (.none rfl) rfl (OpP.move rfl) ?_
    refine WL.p (.none rfl) rfl (OpP.move rfl) ?_
    refine WL.p (.none rfl) rfl (OpP.move rfl) ?_
    first | (refine WL.p (.none rfl) rfl (OpP.mul64 rfl rfl (by omega)) ?_) | (refine WL.p (.none rfl) rfl (OpP.mul rfl rfl) ?_)
    refine WL.p (.none rfl) rfl (OpP.slice rfl sl_23 (l := _) (⟨_, rfl⟩) (rfl) (⟨rfl, rfl⟩) (by omega) (by omega) (by omega) (by omega)) ?_
    refine WL.callD rfl (.none rfl) rfl k_70 rfl (word_c (l := b.drop (4 * (i : Int)).toNat) (by simp [hb]; omega) (by simp [hb]; omega) ((hsl.cutB (4 * (i : Int)) _ (by intro; omega)).of (by intro w h; exact h.drop.drop.drop.drop))) ?_
    refine WL.p (.none rfl) rfl (OpP.indexA rfl rfl el_140 (by omega) (by omega)) ?_
    refine WL.s (.none rfl) rfl (OpS.store rfl rfl ty_107 (by repeat (first | assumption | exact at0 | exact set_hit (by first | assumption | exact set_hit (by assumption)) | apply ats)) (by rfl) (by first | rfl | (simp [spl_length]; done) | (simp [spl_length]; omega)) (by first | rfl | exact iv_one _ _ | (simp [Value.oneCell']; done)) (by first | rfl | (refine Nat.ble_eq_true_of_le ?_; simp [spl_length]; done) | (refine Nat.ble_eq_true_of_le ?_; simp [spl_length]; omega))) ?_
    refine WL.nil ?_
    refine EQ.sub ((Sub.cons (i := 1) rfl (Sub.cons (i := 2) rfl (Sub.cons (i := 4) rfl (Sub.cons (i := 5) rfl (Sub.cons (i := 6) rfl (Sub.cons (i := 19) rfl (Sub.nil _)))))))) ?_
    refine EQ.blockN ?_
    refine EQ.code ?_
    refine WC.region ?_
    first | (refine WL.p (.none rfl) rfl (OpP.add64 rfl rfl (by omega)) ?_) | (refine WL.p (.none rfl) rfl (OpP.add rfl rfl) ?_)
    refine WL.p (.none rfl) rfl (OpP.move rfl) ?_
    refine WL.nil ?_
    refine EQ.sub ((Sub.cons (i := 1) rfl (Sub.cons (i := 2) rfl (Sub.cons (i := 4) rfl (Sub.cons (i := 5) rfl (Sub.cons (i := 6) rfl (Sub.cons (i := 19) rfl (Sub.nil _)))))))) ?_
    refine EQ.again (i + 1) ?_ ?_ ?_ ?_
    · (try simp only); omega
    · (try simp only); omega
    · exact ((Sub.cons rfl (Sub.cons rfl (Sub.cons rfl (Sub.cons rfl (Sub.cons rfl (Sub.cons rfl (Sub.nil _))))))))
    · intro w h
      have e : 0 + ((i : Int)).toNat * 1 = i := by omega
      have e2 : (4 * (i : Int)).toNat = 4 * i := by omega
      have u := upd_step (Sha.words b) (List.replicate 16 (0 : Int)) 0 (by simp [hwl]) i (by omega)
      have g : (Sha.words b).getD i 0 = Sha.word (b.drop (4 * i)) := by simp [Sha.words, List.getD_eq_getElem?_getD, show i < 16 by omega]
      rw [g] at u
      simp only [List.set_cons_zero, List.set_cons_succ, spl_iv, e, e2, u] at h
      exact h
  · -- cond 0 f
    (try simp only [decide_eq_true_eq, decide_eq_false_iff_not, Bool.not_eq_true', Bool.not_eq_false', Bool.or_eq_true, Bool.and_eq_true, Bool.or_eq_false_iff, Bool.and_eq_false_imp] at hc0)
    refine WC.exit ?_
    refine EQ.thenE ?_
    refine EQ.thenE ?_
    refine EQ.blockHit ?_
    refine EQ.code ?_
    refine WC.seq ?_
    refine WC.region ?_
    first | (refine WL.p (.none rfl) rfl (OpP.loadB rfl ty_113 (by repeat (first | assumption | exact List.mem_cons_self | exact List.mem_of_getElem? (by assumption) | exact set_mem (by first | assumption | exact set_hit (by assumption)) | apply List.mem_cons_of_mem | apply List.mem_append_right)) (by rfl)) ?_) | (refine WL.p (.none rfl) rfl (OpP.loadW rfl ty_113 (by repeat (first | assumption | exact List.mem_cons_self | exact List.mem_of_getElem? (by assumption) | exact set_mem (by first | assumption | exact set_hit (by assumption)) | apply List.mem_cons_of_mem | apply List.mem_append_right)) (by first | rfl | (simp [spl_length]; done) | (simp [spl_length]; omega))) ?_)
    refine WL.allocX z_113 rfl (fun b8 => ?_)
    first | (refine WL.s (.none rfl) rfl (OpS.storeAll rfl rfl ty_113 (by repeat (first | assumption | exact at0 | exact set_hit (by first | assumption | exact set_hit (by assumption)) | apply ats)) (by rfl) (by rfl) (by rfl) (by rfl)) ?_) | (refine WL.s (.none rfl) rfl (OpS.store rfl rfl ty_113 (by repeat (first | assumption | exact at0 | exact set_hit (by first | assumption | exact set_hit (by assumption)) | apply ats)) (by rfl) (by first | rfl | (simp [spl_length]; done) | (simp [spl_length]; omega)) (by first | rfl | exact iv_one _ _ | (simp [Value.oneCell']; done)) (by first | rfl | (refine Nat.ble_eq_true_of_le ?_; simp [spl_length]; done) | (refine Nat.ble_eq_true_of_le ?_; simp [spl_length]; omega))) ?_)
    refine WL.nil ?_
    refine EQ.sub ((Sub.cons (i := 2) rfl (Sub.cons (i := 4) rfl (Sub.cons (i := 5) rfl (Sub.cons (i := 6) rfl (Sub.cons (i := 8) rfl (Sub.nil _))))))) ?_
    refine EQ.code ?_
    refine WC.seq ?_
    refine WC.seq ?_
    refine WC.region ?_
    refine WL.p (.none rfl) rfl (OpP.move rfl) ?_
    refine WL.nil ?_
    refine EQ.sub ((Sub.cons (i := 2) rfl (Sub.cons (i := 4) rfl (Sub.cons (i := 5) rfl (Sub.cons (i := 6) rfl (Sub.cons (i := 8) rfl (Sub.cons (i := 31) rfl (Sub.nil _)))))))) ?_
    refine EQ.code ?_
    refine WC.block ?_
    refine WC.loop (σ := Nat) (fun i => [(2, .pointer (some ⟨b2, 0, none⟩)), (4, .pointer (some ⟨b4, 0, none⟩)), (5, .pointer (some ⟨b5, 0, none⟩)), (6, .pointer (some ⟨b6, 0, none⟩)), (8, .pointer (some ⟨b8, 0, none⟩)), (31, .int .i64 (i : Int))]) (fun i => (b8, cl (iv .u32 (Sha.rounds s (Sha.words b) i).1) 113) :: (b6, cl (iv .u32 (Sha.rounds s (Sha.words b) i).2) 140) :: (b5, cl (iv .u32 Sha.kL) 138) :: (b4, cl (List.replicate 8 (.int .u32 0)) 113) :: (b2, cl (iv .u32 s) 113) :: H) (fun i => i ≤ 64) (fun i => 64 - i) 0 (by omega) ((Sub.cons rfl (Sub.cons rfl (Sub.cons rfl (Sub.cons rfl (Sub.cons rfl (Sub.cons rfl (Sub.nil _)))))))) (by
        intro w h
        have e16 : i = 16 := by omega
        subst e16
        (try simp only [List.set_cons_zero] at h)
        rw [spl_all _ _ (by simp [hs])] at h
        have e1 : (Sha.words b).take 16 ++ (List.replicate 16 (0 : Int)).drop 16 = Sha.words b := by rw [List.take_of_length_le (by omega)]; simp
        rw [e1] at h
        exact h) (fun i hinv => ?_)
    (try simp only)
    have hl := Sha.rounds_length s (Sha.words b) hs i
    rw [Sha.words_length] at hl
    generalize hV : (Sha.rounds s (Sha.words b) i).1 = V at *
    generalize hW : (Sha.rounds s (Sha.words b) i).2 = W at *
    obtain ⟨hl1, hl2⟩ := hl
    obtain ⟨v0, v1, v2, v3, v4, v5, v6, v7, hV8⟩ := list8 V hl1
    subst hV8
    refine WC.seq ?_
    refine WC.region ?_
    refine WL.p (.none rfl) rfl (OpP.lss rfl rfl) ?_
    refine WL.nil ?_
    refine EQ.sub ((Sub.cons (i := 2) rfl (Sub.cons (i := 4) rfl (Sub.cons (i := 5) rfl (Sub.cons (i := 6) rfl (Sub.cons (i := 8) rfl (Sub.cons (i := 31) rfl (Sub.cons (i := 32) rfl (Sub.nil _))))))))) ?_
    refine EQ.code ?_
    refine WC.seq ?_
    refine WC.cond rfl (fun hc1 => ?_) (fun hc1 => ?_)
    · -- cond 1 t
      (try simp only [decide_eq_true_eq, decide_eq_false_iff_not, Bool.not_eq_true', Bool.not_eq_false', Bool.or_eq_true, Bool.and_eq_true, Bool.or_eq_false_iff, Bool.and_eq_false_imp] at hc1)
      refine WC.skip ?_
      refine EQ.code ?_
      refine WC.seq ?_
      refine WC.block ?_
      refine WC.seq ?_
      refine WC.region ?_
      refine WL.p (.none rfl) rfl (OpP.move rfl) ?_
      refine WL.p (.none rfl) rfl (OpP.assign rfl) ?_
      refine WL.nil ?_
      refine EQ.sub ((Sub.cons (i := 2) rfl (Sub.cons (i := 4) rfl (Sub.cons (i := 5) rfl (Sub.cons (i := 6) rfl (Sub.cons (i := 8) rfl (Sub.cons (i := 9) rfl (Sub.cons (i := 31) rfl (Sub.nil _))))))))) ?_
      refine EQ.code ?_
      refine WC.seq ?_
      refine WC.region ?_
      refine WL.p (.none rfl) rfl (OpP.move rfl) ?_
      refine WL.p (.none rfl) rfl (OpP.remN rfl rfl (by omega) (by omega)) ?_
      refine WL.p (.none rfl) rfl (OpP.indexA rfl rfl el_140 (by omega) (by omega)) ?_
      first | (refine WL.p (.none rfl) rfl (OpP.load rfl ty_107 (Rd.own (by repeat (first | assumption | exact List.mem_cons_self | exact List.mem_of_getElem? (by assumption) | exact set_mem (by first | assumption | exact set_hit (by assumption)) | apply List.mem_cons_of_mem | apply List.mem_append_right)) (by rfl))) ?_) | (refine WL.p (.none rfl) rfl (OpP.load rfl ty_107 (Rd.arr (by repeat (first | assumption | exact List.mem_cons_self | exact List.mem_of_getElem? (by assumption) | exact set_mem (by first | assumption | exact set_hit (by assumption)) | apply List.mem_cons_of_mem | apply List.mem_append_right)) (by first | omega | (simp only [List.length_append, List.length_take, List.length_drop, List.length_replicate]; omega)))) ?_)
      refine WL.p (.none rfl) rfl (OpP.assign rfl) ?_
      refine WL.nil ?_
      refine EQ.sub ((Sub.cons (i := 2) rfl (Sub.cons (i := 4) rfl (Sub.cons (i := 5) rfl (Sub.cons (i := 6) rfl (Sub.cons (i := 8) rfl (Sub.cons (i := 9) rfl (Sub.cons (i := 10) rfl (Sub.cons (i := 31) rfl (Sub.nil _)))))))))) ?_
      refine EQ.code ?_
      refine WC.seq ?_
      refine WC.seq ?_
      refine WC.region ?_
      refine WL.p (.none rfl) rfl (OpP.move rfl) ?_
      refine WL.p (.none rfl) rfl (OpP.geq rfl rfl) ?_
      refine WL.nil ?_
      refine EQ.sub ((Sub.cons (i := 2) rfl (Sub.cons (i := 4) rfl (Sub.cons (i := 5) rfl (Sub.cons (i := 6) rfl (Sub.cons (i := 8) rfl (Sub.cons (i := 9) rfl (Sub.cons (i := 10) rfl (Sub.cons (i := 31) rfl (Sub.cons (i := 39) rfl (Sub.nil _))))))))))) ?_
      refine EQ.code ?_
      refine WC.cond rfl (fun hc2 => ?_) (fun hc2 => ?_)
      · -- cond 2 t
        (try simp only [decide_eq_true_eq, decide_eq_false_iff_not, Bool.not_eq_true', Bool.not_eq_false', Bool.or_eq_true, Bool.and_eq_true, Bool.or_eq_false_iff, Bool.and_eq_false_imp] at hc2)
        refine WC.seq ?_
        refine WC.draw (by kernel_rfl) (by kernel_rfl) ?_
        refine WQ.p (.none rfl) rfl (OpP.move rfl) ?_
        first | (refine WQ.p (.none rfl) rfl (OpP.add64 rfl rfl (by omega)) ?_) | (refine WQ.p (.none rfl) rfl (OpP.add rfl rfl) ?_)
        refine WQ.p (.none rfl) rfl (OpP.remN rfl rfl (by omega) (by omega)) ?_
        refine WQ.p (.none rfl) rfl (OpP.indexA rfl rfl el_140 (by omega) (by omega)) ?_
        first | (refine WQ.p (.none rfl) rfl (OpP.load rfl ty_107 (Rd.own (by repeat (first | assumption | exact List.mem_cons_self | exact List.mem_of_getElem? (by assumption) | exact set_mem (by first | assumption | exact set_hit (by assumption)) | apply List.mem_cons_of_mem | apply List.mem_append_right)) (by rfl))) ?_) | (refine WQ.p (.none rfl) rfl (OpP.load rfl ty_107 (Rd.arr (by repeat (first | assumption | exact List.mem_cons_self | exact List.mem_of_getElem? (by assumption) | exact set_mem (by first | assumption | exact set_hit (by assumption)) | apply List.mem_cons_of_mem | apply List.mem_append_right)) (by first | omega | (simp only [List.length_append, List.length_take, List.length_drop, List.length_replicate]; omega)))) ?_)
        refine WQ.p (.none rfl) rfl (OpP.move rfl) ?_
        first | (refine WQ.p (.none rfl) rfl (OpP.add64 rfl rfl (by omega)) ?_) | (refine WQ.p (.none rfl) rfl (OpP.add rfl rfl) ?_)
        refine WQ.p (.none rfl) rfl (OpP.remN rfl rfl (by omega) (by omega)) ?_
        refine WQ.p (.none rfl) rfl (OpP.indexA rfl rfl el_140 (by omega) (by omega)) ?_
        first | (refine WQ.p (.none rfl) rfl (OpP.load rfl ty_107 (Rd.own (by repeat (first | assumption | exact List.mem_cons_self | exact List.mem_of_getElem? (by assumption) | exact set_mem (by first | assumption | exact set_hit (by assumption)) | apply List.mem_cons_of_mem | apply List.mem_append_right)) (by rfl))) ?_) | (refine WQ.p (.none rfl) rfl (OpP.load rfl ty_107 (Rd.arr (by repeat (first | assumption | exact List.mem_cons_self | exact List.mem_of_getElem? (by assumption) | exact set_mem (by first | assumption | exact set_hit (by assumption)) | apply List.mem_cons_of_mem | apply List.mem_append_right)) (by first | omega | (simp only [List.length_append, List.length_take, List.length_drop, List.length_replicate]; omega)))) ?_)
        refine WQ.p (.none rfl) rfl (OpP.assign rfl) ?_
        refine WQ.p (.none rfl) rfl (OpP.assign rfl) ?_
        refine WQ.done ?_
        refine EQ.sub ((Sub.cons (i := 2) rfl (Sub.cons (i := 4) rfl (Sub.cons (i := 5) rfl (Sub.cons (i := 6) rfl (Sub.cons (i := 8) rfl (Sub.cons (i := 9) rfl (Sub.cons (i := 10) rfl (Sub.cons (i := 11) rfl (Sub.cons (i := 12) rfl (Sub.cons (i := 31) rfl (Sub.nil _)))))))))))) ?_
        refine EQ.code ?_
        refine WC.seq ?_
        refine WC.draw (by kernel_rfl) (by kernel_rfl) ?_
        refine WQ.p (.none rfl) rfl (OpP.move rfl) ?_
        refine WQ.p (.none rfl) rfl (OpP.move rfl) ?_
        first | (refine WQ.p (.none rfl) rfl (OpP.add64 rfl rfl (by omega)) ?_) | (refine WQ.p (.none rfl) rfl (OpP.add rfl rfl) ?_)
        refine WQ.p (.none rfl) rfl (OpP.remN rfl rfl (by omega) (by omega)) ?_
        refine WQ.p (.none rfl) rfl (OpP.indexA rfl rfl el_140 (by omega) (by omega)) ?_
        first | (refine WQ.p (.none rfl) rfl (OpP.load rfl ty_107 (Rd.own (by repeat (first | assumption | exact List.mem_cons_self | exact List.mem_of_getElem? (by assumption) | exact set_mem (by first | assumption | exact set_hit (by assumption)) | apply List.mem_cons_of_mem | apply List.mem_append_right)) (by rfl))) ?_) | (refine WQ.p (.none rfl) rfl (OpP.load rfl ty_107 (Rd.arr (by repeat (first | assumption | exact List.mem_cons_self | exact List.mem_of_getElem? (by assumption) | exact set_mem (by first | assumption | exact set_hit (by assumption)) | apply List.mem_cons_of_mem | apply List.mem_append_right)) (by first | omega | (simp only [List.length_append, List.length_take, List.length_drop, List.length_replicate]; omega)))) ?_)
        refine WQ.p (.none rfl) rfl (OpP.move rfl) ?_
        refine WQ.callD rfl (.none rfl) rfl k_71 rfl (turn_c (by omega)) ?_
        refine WQ.p (.none rfl) rfl (OpP.move rfl) ?_
        refine WQ.callD rfl (.none rfl) rfl k_71 rfl (turn_c (by omega)) ?_
        refine WQ.p (.none rfl) rfl (OpP.bits rfl rfl (by simp)) ?_
        refine WQ.p (.none rfl) rfl (OpP.move rfl) ?_
        refine WQ.p (.none rfl) rfl (OpP.shr rfl rfl (by omega)) ?_
        refine WQ.p (.none rfl) rfl (OpP.bits rfl rfl (by simp)) ?_
        refine WQ.p (.none rfl) rfl (OpP.add rfl rfl) ?_
        refine WQ.p (.none rfl) rfl (OpP.move rfl) ?_
        refine WQ.callD rfl (.none rfl) rfl k_71 rfl (turn_c (by omega)) ?_
        refine WQ.p (.none rfl) rfl (OpP.move rfl) ?_
        refine WQ.callD rfl (.none rfl) rfl k_71 rfl (turn_c (by omega)) ?_
        refine WQ.p (.none rfl) rfl (OpP.bits rfl rfl (by simp)) ?_
        refine WQ.p (.none rfl) rfl (OpP.move rfl) ?_
        refine WQ.p (.none rfl) rfl (OpP.shr rfl rfl (by omega)) ?_
        refine WQ.p (.none rfl) rfl (OpP.bits rfl rfl (by simp)) ?_
        refine WQ.p (.none rfl) rfl (OpP.add rfl rfl) ?_
        refine WQ.p (.none rfl) rfl (OpP.add rfl rfl) ?_
        refine WQ.p (.none rfl) rfl (OpP.assign rfl) ?_
        refine WQ.done ?_
        refine EQ.sub ((Sub.cons (i := 2) rfl (Sub.cons (i := 4) rfl (Sub.cons (i := 5) rfl (Sub.cons (i := 6) rfl (Sub.cons (i := 8) rfl (Sub.cons (i := 9) rfl (Sub.cons (i := 10) rfl (Sub.cons (i := 31) rfl (Sub.nil _)))))))))) ?_
        refine EQ.code ?_
        refine WC.region ?_
        refine WL.p (.none rfl) rfl (OpP.move rfl) ?_
        refine WL.p (.none rfl) rfl (OpP.remN rfl rfl (by omega) (by omega)) ?_
        refine WL.p (.none rfl) rfl (OpP.move rfl) ?_
        refine WL.p (.none rfl) rfl (OpP.indexA rfl rfl el_140 (by omega) (by omega)) ?_
        refine WL.s (.none rfl) rfl (OpS.store rfl rfl ty_107 (by repeat (first | assumption | exact at0 | exact set_hit (by first | assumption | exact set_hit (by assumption)) | apply ats)) (by rfl) (by first | rfl | (simp [spl_length]; done) | (simp [spl_length]; omega)) (by first | rfl | exact iv_one _ _ | (simp [Value.oneCell']; done)) (by first | rfl | (refine Nat.ble_eq_true_of_le ?_; simp [spl_length]; done) | (refine Nat.ble_eq_true_of_le ?_; simp [spl_length]; omega))) ?_
        refine WL.nil ?_
        refine EQ.sub ((Sub.cons (i := 2) rfl (Sub.cons (i := 4) rfl (Sub.cons (i := 5) rfl (Sub.cons (i := 6) rfl (Sub.cons (i := 8) rfl (Sub.cons (i := 9) rfl (Sub.cons (i := 10) rfl (Sub.cons (i := 31) rfl (Sub.nil _)))))))))) ?_
        refine EQ.code ?_
        refine WC.seq ?_
        refine WC.draw (by kernel_rfl) (by kernel_rfl) ?_
        refine WQ.p (.none rfl) rfl (OpP.indexA rfl rfl el_113 (by omega) (by omega)) ?_
        first | (refine WQ.p (.none rfl) rfl (OpP.load rfl ty_107 (Rd.own (by repeat (first | assumption | exact List.mem_cons_self | exact List.mem_of_getElem? (by assumption) | exact set_mem (by first | assumption | exact set_hit (by assumption)) | apply List.mem_cons_of_mem | apply List.mem_append_right)) (by rfl))) ?_) | (refine WQ.p (.none rfl) rfl (OpP.load rfl ty_107 (Rd.arr (by repeat (first | assumption | exact List.mem_cons_self | exact List.mem_of_getElem? (by assumption) | exact set_mem (by first | assumption | exact set_hit (by assumption)) | apply List.mem_cons_of_mem | apply List.mem_append_right)) (by first | omega | (simp only [List.length_append, List.length_take, List.length_drop, List.length_replicate]; omega)))) ?_)
        refine WQ.p (.none rfl) rfl (OpP.indexA rfl rfl el_113 (by omega) (by omega)) ?_
        first | (refine WQ.p (.none rfl) rfl (OpP.load rfl ty_107 (Rd.own (by repeat (first | assumption | exact List.mem_cons_self | exact List.mem_of_getElem? (by assumption) | exact set_mem (by first | assumption | exact set_hit (by assumption)) | apply List.mem_cons_of_mem | apply List.mem_append_right)) (by rfl))) ?_) | (refine WQ.p (.none rfl) rfl (OpP.load rfl ty_107 (Rd.arr (by repeat (first | assumption | exact List.mem_cons_self | exact List.mem_of_getElem? (by assumption) | exact set_mem (by first | assumption | exact set_hit (by assumption)) | apply List.mem_cons_of_mem | apply List.mem_append_right)) (by first | omega | (simp only [List.length_append, List.length_take, List.length_drop, List.length_replicate]; omega)))) ?_)
        refine WQ.p (.none rfl) rfl (OpP.assign rfl) ?_
        refine WQ.p (.none rfl) rfl (OpP.assign rfl) ?_
        refine WQ.done ?_
        refine EQ.sub ((Sub.cons (i := 2) rfl (Sub.cons (i := 4) rfl (Sub.cons (i := 5) rfl (Sub.cons (i := 6) rfl (Sub.cons (i := 8) rfl (Sub.cons (i := 9) rfl (Sub.cons (i := 10) rfl (Sub.cons (i := 13) rfl (Sub.cons (i := 14) rfl (Sub.cons (i := 31) rfl (Sub.nil _)))))))))))) ?_
        refine EQ.code ?_
        refine WC.seq ?_
        refine WC.draw (by kernel_rfl) (by kernel_rfl) ?_
        refine WQ.p (.none rfl) rfl (OpP.indexA rfl rfl el_113 (by omega) (by omega)) ?_
        first | (refine WQ.p (.none rfl) rfl (OpP.load rfl ty_107 (Rd.own (by repeat (first | assumption | exact List.mem_cons_self | exact List.mem_of_getElem? (by assumption) | exact set_mem (by first | assumption | exact set_hit (by assumption)) | apply List.mem_cons_of_mem | apply List.mem_append_right)) (by rfl))) ?_) | (refine WQ.p (.none rfl) rfl (OpP.load rfl ty_107 (Rd.arr (by repeat (first | assumption | exact List.mem_cons_self | exact List.mem_of_getElem? (by assumption) | exact set_mem (by first | assumption | exact set_hit (by assumption)) | apply List.mem_cons_of_mem | apply List.mem_append_right)) (by first | omega | (simp only [List.length_append, List.length_take, List.length_drop, List.length_replicate]; omega)))) ?_)
        refine WQ.p (.none rfl) rfl (OpP.move rfl) ?_
        refine WQ.callD rfl (.none rfl) rfl k_71 rfl (turn_c (by omega)) ?_
        refine WQ.p (.none rfl) rfl (OpP.move rfl) ?_
        refine WQ.callD rfl (.none rfl) rfl k_71 rfl (turn_c (by omega)) ?_
        refine WQ.p (.none rfl) rfl (OpP.bits rfl rfl (by simp)) ?_
        refine WQ.p (.none rfl) rfl (OpP.move rfl) ?_
        refine WQ.callD rfl (.none rfl) rfl k_71 rfl (turn_c (by omega)) ?_
        refine WQ.p (.none rfl) rfl (OpP.bits rfl rfl (by simp)) ?_
        refine WQ.p (.none rfl) rfl (OpP.add rfl rfl) ?_
        refine WQ.p (.none rfl) rfl (OpP.indexA rfl rfl el_113 (by omega) (by omega)) ?_
        first | (refine WQ.p (.none rfl) rfl (OpP.load rfl ty_107 (Rd.own (by repeat (first | assumption | exact List.mem_cons_self | exact List.mem_of_getElem? (by assumption) | exact set_mem (by first | assumption | exact set_hit (by assumption)) | apply List.mem_cons_of_mem | apply List.mem_append_right)) (by rfl))) ?_) | (refine WQ.p (.none rfl) rfl (OpP.load rfl ty_107 (Rd.arr (by repeat (first | assumption | exact List.mem_cons_self | exact List.mem_of_getElem? (by assumption) | exact set_mem (by first | assumption | exact set_hit (by assumption)) | apply List.mem_cons_of_mem | apply List.mem_append_right)) (by first | omega | (simp only [List.length_append, List.length_take, List.length_drop, List.length_replicate]; omega)))) ?_)
        refine WQ.p (.none rfl) rfl (OpP.move rfl) ?_
        refine WQ.p (.none rfl) rfl (OpP.indexA rfl rfl el_113 (by omega) (by omega)) ?_
        first | (refine WQ.p (.none rfl) rfl (OpP.load rfl ty_107 (Rd.own (by repeat (first | assumption | exact List.mem_cons_self | exact List.mem_of_getElem? (by assumption) | exact set_mem (by first | assumption | exact set_hit (by assumption)) | apply List.mem_cons_of_mem | apply List.mem_append_right)) (by rfl))) ?_) | (refine WQ.p (.none rfl) rfl (OpP.load rfl ty_107 (Rd.arr (by repeat (first | assumption | exact List.mem_cons_self | exact List.mem_of_getElem? (by assumption) | exact set_mem (by first | assumption | exact set_hit (by assumption)) | apply List.mem_cons_of_mem | apply List.mem_append_right)) (by first | omega | (simp only [List.length_append, List.length_take, List.length_drop, List.length_replicate]; omega)))) ?_)
        refine WQ.p (.none rfl) rfl (OpP.indexA rfl rfl el_113 (by omega) (by omega)) ?_
        first | (refine WQ.p (.none rfl) rfl (OpP.load rfl ty_107 (Rd.own (by repeat (first | assumption | exact List.mem_cons_self | exact List.mem_of_getElem? (by assumption) | exact set_mem (by first | assumption | exact set_hit (by assumption)) | apply List.mem_cons_of_mem | apply List.mem_append_right)) (by rfl))) ?_) | (refine WQ.p (.none rfl) rfl (OpP.load rfl ty_107 (Rd.arr (by repeat (first | assumption | exact List.mem_cons_self | exact List.mem_of_getElem? (by assumption) | exact set_mem (by first | assumption | exact set_hit (by assumption)) | apply List.mem_cons_of_mem | apply List.mem_append_right)) (by first | omega | (simp only [List.length_append, List.length_take, List.length_drop, List.length_replicate]; omega)))) ?_)
        refine WQ.p (.none rfl) rfl (OpP.bits rfl rfl (by simp)) ?_
        refine WQ.p (.none rfl) rfl (OpP.bits rfl rfl (by simp)) ?_
        refine WQ.p (.none rfl) rfl (OpP.bits rfl rfl (by simp)) ?_
        refine WQ.p (.none rfl) rfl (OpP.add rfl rfl) ?_
        refine WQ.p (.none rfl) rfl (OpP.move rfl) ?_
        refine WQ.p (.none rfl) rfl (OpP.indexA rfl rfl el_138 (by omega) (by omega)) ?_
        first | (refine WQ.p (.none rfl) rfl (OpP.load rfl ty_107 (Rd.own (by repeat (first | assumption | exact List.mem_cons_self | exact List.mem_of_getElem? (by assumption) | exact set_mem (by first | assumption | exact set_hit (by assumption)) | apply List.mem_cons_of_mem | apply List.mem_append_right)) (by rfl))) ?_) | (refine WQ.p (.none rfl) rfl (OpP.load rfl ty_107 (Rd.arr (by repeat (first | assumption | exact List.mem_cons_self | exact List.mem_of_getElem? (by assumption) | exact set_mem (by first | assumption | exact set_hit (by assumption)) | apply List.mem_cons_of_mem | apply List.mem_append_right)) (by first | omega | (simp only [List.length_append, List.length_take, List.length_drop, List.length_replicate]; omega)))) ?_)
        refine WQ.p (.none rfl) rfl (OpP.add rfl rfl) ?_
        refine WQ.p (.none rfl) rfl (OpP.move rfl) ?_
        refine WQ.p (.none rfl) rfl (OpP.add rfl rfl) ?_
        refine WQ.p (.none rfl) rfl (OpP.assign rfl) ?_
        refine WQ.done ?_
        refine EQ.sub ((Sub.cons (i := 2) rfl (Sub.cons (i := 4) rfl (Sub.cons (i := 5) rfl (Sub.cons (i := 6) rfl (Sub.cons (i := 8) rfl (Sub.cons (i := 14) rfl (Sub.cons (i := 15) rfl (Sub.cons (i := 31) rfl (Sub.nil _)))))))))) ?_
        refine EQ.code ?_
        refine WC.seq ?_
        refine WC.draw (by kernel_rfl) (by kernel_rfl) ?_
        refine WQ.p (.none rfl) rfl (OpP.move rfl) ?_
        refine WQ.callD rfl (.none rfl) rfl k_71 rfl (turn_c (by omega)) ?_
        refine WQ.p (.none rfl) rfl (OpP.move rfl) ?_
        refine WQ.callD rfl (.none rfl) rfl k_71 rfl (turn_c (by omega)) ?_
        refine WQ.p (.none rfl) rfl (OpP.bits rfl rfl (by simp)) ?_
        refine WQ.p (.none rfl) rfl (OpP.move rfl) ?_
        refine WQ.callD rfl (.none rfl) rfl k_71 rfl (turn_c (by omega)) ?_
        refine WQ.p (.none rfl) rfl (OpP.bits rfl rfl (by simp)) ?_
        refine WQ.p (.none rfl) rfl (OpP.move rfl) ?_
        refine WQ.p (.none rfl) rfl (OpP.indexA rfl rfl el_113 (by omega) (by omega)) ?_
        first | (refine WQ.p (.none rfl) rfl (OpP.load rfl ty_107 (Rd.own (by repeat (first | assumption | exact List.mem_cons_self | exact List.mem_of_getElem? (by assumption) | exact set_mem (by first | assumption | exact set_hit (by assumption)) | apply List.mem_cons_of_mem | apply List.mem_append_right)) (by rfl))) ?_) | (refine WQ.p (.none rfl) rfl (OpP.load rfl ty_107 (Rd.arr (by repeat (first | assumption | exact List.mem_cons_self | exact List.mem_of_getElem? (by assumption) | exact set_mem (by first | assumption | exact set_hit (by assumption)) | apply List.mem_cons_of_mem | apply List.mem_append_right)) (by first | omega | (simp only [List.length_append, List.length_take, List.length_drop, List.length_replicate]; omega)))) ?_)
        refine WQ.p (.none rfl) rfl (OpP.bits rfl rfl (by simp)) ?_
        refine WQ.p (.none rfl) rfl (OpP.indexA rfl rfl el_113 (by omega) (by omega)) ?_
        first | (refine WQ.p (.none rfl) rfl (OpP.load rfl ty_107 (Rd.own (by repeat (first | assumption | exact List.mem_cons_self | exact List.mem_of_getElem? (by assumption) | exact set_mem (by first | assumption | exact set_hit (by assumption)) | apply List.mem_cons_of_mem | apply List.mem_append_right)) (by rfl))) ?_) | (refine WQ.p (.none rfl) rfl (OpP.load rfl ty_107 (Rd.arr (by repeat (first | assumption | exact List.mem_cons_self | exact List.mem_of_getElem? (by assumption) | exact set_mem (by first | assumption | exact set_hit (by assumption)) | apply List.mem_cons_of_mem | apply List.mem_append_right)) (by first | omega | (simp only [List.length_append, List.length_take, List.length_drop, List.length_replicate]; omega)))) ?_)
        refine WQ.p (.none rfl) rfl (OpP.move rfl) ?_
        refine WQ.p (.none rfl) rfl (OpP.indexA rfl rfl el_113 (by omega) (by omega)) ?_
        first | (refine WQ.p (.none rfl) rfl (OpP.load rfl ty_107 (Rd.own (by repeat (first | assumption | exact List.mem_cons_self | exact List.mem_of_getElem? (by assumption) | exact set_mem (by first | assumption | exact set_hit (by assumption)) | apply List.mem_cons_of_mem | apply List.mem_append_right)) (by rfl))) ?_) | (refine WQ.p (.none rfl) rfl (OpP.load rfl ty_107 (Rd.arr (by repeat (first | assumption | exact List.mem_cons_self | exact List.mem_of_getElem? (by assumption) | exact set_mem (by first | assumption | exact set_hit (by assumption)) | apply List.mem_cons_of_mem | apply List.mem_append_right)) (by first | omega | (simp only [List.length_append, List.length_take, List.length_drop, List.length_replicate]; omega)))) ?_)
        refine WQ.p (.none rfl) rfl (OpP.bits rfl rfl (by simp)) ?_
        refine WQ.p (.none rfl) rfl (OpP.bits rfl rfl (by simp)) ?_
        refine WQ.p (.none rfl) rfl (OpP.bits rfl rfl (by simp)) ?_
        refine WQ.p (.none rfl) rfl (OpP.add rfl rfl) ?_
        refine WQ.p (.none rfl) rfl (OpP.assign rfl) ?_
        refine WQ.done ?_
        refine EQ.sub ((Sub.cons (i := 2) rfl (Sub.cons (i := 4) rfl (Sub.cons (i := 5) rfl (Sub.cons (i := 6) rfl (Sub.cons (i := 8) rfl (Sub.cons (i := 15) rfl (Sub.cons (i := 16) rfl (Sub.cons (i := 31) rfl (Sub.nil _)))))))))) ?_
        refine EQ.code ?_
        refine WC.seq ?_
        refine WC.drawT 2 (by kernel_rfl) (by kernel_rfl) ?_
        refine WQ.p (.none rfl) rfl (OpP.slice_array rfl el_113 (l := _) (⟨_, rfl⟩) (rfl) (⟨rfl, rfl⟩) (by omega) (by omega) (by omega) (by omega)) ?_
        refine WQ.p (.none rfl) rfl (OpP.slice_array rfl el_113 (l := _) (rfl) (rfl) (⟨_, rfl⟩) (by omega) (by omega) (by omega) (by omega)) ?_
        refine WQ.tail ?_
        refine WL.copy (i := 0) (N := 7) (news := (iv .u32 [v0, v1, v2, v3, v4, v5, v6, v7]).take 7) rfl (.none rfl) rfl sl_142 rfl rfl rfl rfl (Sl.ownT List.mem_cons_self 7) rfl (by rfl) (by simp) ?_
        refine WL.nil ?_
        refine EQ.sub ((Sub.cons (i := 2) rfl (Sub.cons (i := 4) rfl (Sub.cons (i := 5) rfl (Sub.cons (i := 6) rfl (Sub.cons (i := 8) rfl (Sub.cons (i := 15) rfl (Sub.cons (i := 16) rfl (Sub.cons (i := 31) rfl (Sub.nil _)))))))))) ?_
        refine EQ.code ?_
        refine WC.seq ?_
        refine WC.region ?_
        refine WL.p (.none rfl) rfl (OpP.indexA rfl rfl el_113 (by omega) (by omega)) ?_
        first | (refine WL.p (.none rfl) rfl (OpP.load rfl ty_107 (Rd.own (by repeat (first | assumption | exact List.mem_cons_self | exact List.mem_of_getElem? (by assumption) | exact set_mem (by first | assumption | exact set_hit (by assumption)) | apply List.mem_cons_of_mem | apply List.mem_append_right)) (by rfl))) ?_) | (refine WL.p (.none rfl) rfl (OpP.load rfl ty_107 (Rd.arr (by repeat (first | assumption | exact List.mem_cons_self | exact List.mem_of_getElem? (by assumption) | exact set_mem (by first | assumption | exact set_hit (by assumption)) | apply List.mem_cons_of_mem | apply List.mem_append_right)) (by first | omega | (simp only [List.length_append, List.length_take, List.length_drop, List.length_replicate]; omega)))) ?_)
        refine WL.p (.none rfl) rfl (OpP.move rfl) ?_
        refine WL.p (.none rfl) rfl (OpP.add rfl rfl) ?_
        refine WL.p (.none rfl) rfl (OpP.indexA rfl rfl el_113 (by omega) (by omega)) ?_
        refine WL.s (.none rfl) rfl (OpS.store rfl rfl ty_107 (by repeat (first | assumption | exact at0 | exact set_hit (by first | assumption | exact set_hit (by assumption)) | apply ats)) (by rfl) (by first | rfl | (simp [spl_length]; done) | (simp [spl_length]; omega)) (by first | rfl | exact iv_one _ _ | (simp [Value.oneCell']; done)) (by first | rfl | (refine Nat.ble_eq_true_of_le ?_; simp [spl_length]; done) | (refine Nat.ble_eq_true_of_le ?_; simp [spl_length]; omega))) ?_
        refine WL.nil ?_
        refine EQ.sub ((Sub.cons (i := 2) rfl (Sub.cons (i := 4) rfl (Sub.cons (i := 5) rfl (Sub.cons (i := 6) rfl (Sub.cons (i := 8) rfl (Sub.cons (i := 15) rfl (Sub.cons (i := 16) rfl (Sub.cons (i := 31) rfl (Sub.nil _)))))))))) ?_
        refine EQ.code ?_
        refine WC.region ?_
        refine WL.p (.none rfl) rfl (OpP.move rfl) ?_
        refine WL.p (.none rfl) rfl (OpP.move rfl) ?_
        refine WL.p (.none rfl) rfl (OpP.add rfl rfl) ?_
        refine WL.p (.none rfl) rfl (OpP.indexA rfl rfl el_113 (by omega) (by omega)) ?_
        refine WL.s (.none rfl) rfl (OpS.store rfl rfl ty_107 (by repeat (first | assumption | exact at0 | exact set_hit (by first | assumption | exact set_hit (by assumption)) | apply ats)) (by rfl) (by first | rfl | (simp [spl_length]; done) | (simp [spl_length]; omega)) (by first | rfl | exact iv_one _ _ | (simp [Value.oneCell']; done)) (by first | rfl | (refine Nat.ble_eq_true_of_le ?_; simp [spl_length]; done) | (refine Nat.ble_eq_true_of_le ?_; simp [spl_length]; omega))) ?_
        refine WL.nil ?_
        refine EQ.sub ((Sub.cons (i := 2) rfl (Sub.cons (i := 4) rfl (Sub.cons (i := 5) rfl (Sub.cons (i := 6) rfl (Sub.cons (i := 8) rfl (Sub.cons (i := 31) rfl (Sub.nil _)))))))) ?_
        refine EQ.blockN ?_
        refine EQ.code ?_
        refine WC.region ?_
        first | (refine WL.p (.none rfl) rfl (OpP.add64 rfl rfl (by omega)) ?_) | (refine WL.p (.none rfl) rfl (OpP.add rfl rfl) ?_)
        refine WL.p (.none rfl) rfl (OpP.move rfl) ?_
        refine WL.nil ?_
        refine EQ.sub ((Sub.cons (i := 2) rfl (Sub.cons (i := 4) rfl (Sub.cons (i := 5) rfl (Sub.cons (i := 6) rfl (Sub.cons (i := 8) rfl (Sub.cons (i := 31) rfl (Sub.nil _)))))))) ?_
        refine EQ.again (i + 1) ?_ ?_ ?_ ?_
        · (try simp only); omega
        · (try simp only); omega
        · exact ((Sub.cons rfl (Sub.cons rfl (Sub.cons rfl (Sub.cons rfl (Sub.cons rfl (Sub.cons rfl (Sub.nil _))))))))
        · intro w h
          have e0 : 0 + ((i : Int) % 16).toNat * 1 = i % 16 := by omega
          have e1 : 0 + (((i : Int) + 1) % 16).toNat * 1 = (i + 1) % 16 := by omega
          have e9 : 0 + (((i : Int) + 9) % 16).toNat * 1 = (i + 9) % 16 := by omega
          have e14 : 0 + (((i : Int) + 14) % 16).toNat * 1 = (i + 14) % 16 := by omega
          have ei : 0 + ((i : Int)).toNat * 1 = i := by omega
          simp only [List.set_cons_zero, List.set_cons_succ, spl_iv, e0, e1, e9, e14, ei] at h
          simp only [Sha.rounds, hV, hW, Sha.wOf, Sha.xOf]
          first
          | (have hge : 16 ≤ i := by omega
             simp only [if_pos hge]
             exact h)
          | (have hge : ¬ 16 ≤ i := by omega
             simp only [if_neg hge]
             exact h)
      · -- cond 2 f
        (try simp only [decide_eq_true_eq, decide_eq_false_iff_not, Bool.not_eq_true', Bool.not_eq_false', Bool.or_eq_true, Bool.and_eq_true, Bool.or_eq_false_iff, Bool.and_eq_false_imp] at hc2)
        refine WC.skip ?_
        refine EQ.code ?_
        refine WC.seq ?_
        refine WC.draw (by kernel_rfl) (by kernel_rfl) ?_
        refine WQ.p (.none rfl) rfl (OpP.indexA rfl rfl el_113 (by omega) (by omega)) ?_
        first | (refine WQ.p (.none rfl) rfl (OpP.load rfl ty_107 (Rd.own (by repeat (first | assumption | exact List.mem_cons_self | exact List.mem_of_getElem? (by assumption) | exact set_mem (by first | assumption | exact set_hit (by assumption)) | apply List.mem_cons_of_mem | apply List.mem_append_right)) (by rfl))) ?_) | (refine WQ.p (.none rfl) rfl (OpP.load rfl ty_107 (Rd.arr (by repeat (first | assumption | exact List.mem_cons_self | exact List.mem_of_getElem? (by assumption) | exact set_mem (by first | assumption | exact set_hit (by assumption)) | apply List.mem_cons_of_mem | apply List.mem_append_right)) (by first | omega | (simp only [List.length_append, List.length_take, List.length_drop, List.length_replicate]; omega)))) ?_)
        refine WQ.p (.none rfl) rfl (OpP.indexA rfl rfl el_113 (by omega) (by omega)) ?_
        first | (refine WQ.p (.none rfl) rfl (OpP.load rfl ty_107 (Rd.own (by repeat (first | assumption | exact List.mem_cons_self | exact List.mem_of_getElem? (by assumption) | exact set_mem (by first | assumption | exact set_hit (by assumption)) | apply List.mem_cons_of_mem | apply List.mem_append_right)) (by rfl))) ?_) | (refine WQ.p (.none rfl) rfl (OpP.load rfl ty_107 (Rd.arr (by repeat (first | assumption | exact List.mem_cons_self | exact List.mem_of_getElem? (by assumption) | exact set_mem (by first | assumption | exact set_hit (by assumption)) | apply List.mem_cons_of_mem | apply List.mem_append_right)) (by first | omega | (simp only [List.length_append, List.length_take, List.length_drop, List.length_replicate]; omega)))) ?_)
        refine WQ.p (.none rfl) rfl (OpP.assign rfl) ?_
        refine WQ.p (.none rfl) rfl (OpP.assign rfl) ?_
        refine WQ.done ?_
        refine EQ.sub ((Sub.cons (i := 2) rfl (Sub.cons (i := 4) rfl (Sub.cons (i := 5) rfl (Sub.cons (i := 6) rfl (Sub.cons (i := 8) rfl (Sub.cons (i := 9) rfl (Sub.cons (i := 10) rfl (Sub.cons (i := 13) rfl (Sub.cons (i := 14) rfl (Sub.cons (i := 31) rfl (Sub.nil _)))))))))))) ?_
        refine EQ.code ?_
        refine WC.seq ?_
        refine WC.draw (by kernel_rfl) (by kernel_rfl) ?_
        refine WQ.p (.none rfl) rfl (OpP.indexA rfl rfl el_113 (by omega) (by omega)) ?_
        first | (refine WQ.p (.none rfl) rfl (OpP.load rfl ty_107 (Rd.own (by repeat (first | assumption | exact List.mem_cons_self | exact List.mem_of_getElem? (by assumption) | exact set_mem (by first | assumption | exact set_hit (by assumption)) | apply List.mem_cons_of_mem | apply List.mem_append_right)) (by rfl))) ?_) | (refine WQ.p (.none rfl) rfl (OpP.load rfl ty_107 (Rd.arr (by repeat (first | assumption | exact List.mem_cons_self | exact List.mem_of_getElem? (by assumption) | exact set_mem (by first | assumption | exact set_hit (by assumption)) | apply List.mem_cons_of_mem | apply List.mem_append_right)) (by first | omega | (simp only [List.length_append, List.length_take, List.length_drop, List.length_replicate]; omega)))) ?_)
        refine WQ.p (.none rfl) rfl (OpP.move rfl) ?_
        refine WQ.callD rfl (.none rfl) rfl k_71 rfl (turn_c (by omega)) ?_
        refine WQ.p (.none rfl) rfl (OpP.move rfl) ?_
        refine WQ.callD rfl (.none rfl) rfl k_71 rfl (turn_c (by omega)) ?_
        refine WQ.p (.none rfl) rfl (OpP.bits rfl rfl (by simp)) ?_
        refine WQ.p (.none rfl) rfl (OpP.move rfl) ?_
        refine WQ.callD rfl (.none rfl) rfl k_71 rfl (turn_c (by omega)) ?_
        refine WQ.p (.none rfl) rfl (OpP.bits rfl rfl (by simp)) ?_
        refine WQ.p (.none rfl) rfl (OpP.add rfl rfl) ?_
        refine WQ.p (.none rfl) rfl (OpP.indexA rfl rfl el_113 (by omega) (by omega)) ?_
        first | (refine WQ.p (.none rfl) rfl (OpP.load rfl ty_107 (Rd.own (by repeat (first | assumption | exact List.mem_cons_self | exact List.mem_of_getElem? (by assumption) | exact set_mem (by first | assumption | exact set_hit (by assumption)) | apply List.mem_cons_of_mem | apply List.mem_append_right)) (by rfl))) ?_) | (refine WQ.p (.none rfl) rfl (OpP.load rfl ty_107 (Rd.arr (by repeat (first | assumption | exact List.mem_cons_self | exact List.mem_of_getElem? (by assumption) | exact set_mem (by first | assumption | exact set_hit (by assumption)) | apply List.mem_cons_of_mem | apply List.mem_append_right)) (by first | omega | (simp only [List.length_append, List.length_take, List.length_drop, List.length_replicate]; omega)))) ?_)
        refine WQ.p (.none rfl) rfl (OpP.move rfl) ?_
        refine WQ.p (.none rfl) rfl (OpP.indexA rfl rfl el_113 (by omega) (by omega)) ?_
        first | (refine WQ.p (.none rfl) rfl (OpP.load rfl ty_107 (Rd.own (by repeat (first | assumption | exact List.mem_cons_self | exact List.mem_of_getElem? (by assumption) | exact set_mem (by first | assumption | exact set_hit (by assumption)) | apply List.mem_cons_of_mem | apply List.mem_append_right)) (by rfl))) ?_) | (refine WQ.p (.none rfl) rfl (OpP.load rfl ty_107 (Rd.arr (by repeat (first | assumption | exact List.mem_cons_self | exact List.mem_of_getElem? (by assumption) | exact set_mem (by first | assumption | exact set_hit (by assumption)) | apply List.mem_cons_of_mem | apply List.mem_append_right)) (by first | omega | (simp only [List.length_append, List.length_take, List.length_drop, List.length_replicate]; omega)))) ?_)
        refine WQ.p (.none rfl) rfl (OpP.indexA rfl rfl el_113 (by omega) (by omega)) ?_
        first | (refine WQ.p (.none rfl) rfl (OpP.load rfl ty_107 (Rd.own (by repeat (first | assumption | exact List.mem_cons_self | exact List.mem_of_getElem? (by assumption) | exact set_mem (by first | assumption | exact set_hit (by assumption)) | apply List.mem_cons_of_mem | apply List.mem_append_right)) (by rfl))) ?_) | (refine WQ.p (.none rfl) rfl (OpP.load rfl ty_107 (Rd.arr (by repeat (first | assumption | exact List.mem_cons_self | exact List.mem_of_getElem? (by assumption) | exact set_mem (by first | assumption | exact set_hit (by assumption)) | apply List.mem_cons_of_mem | apply List.mem_append_right)) (by first | omega | (simp only [List.length_append, List.length_take, List.length_drop, List.length_replicate]; omega)))) ?_)
        refine WQ.p (.none rfl) rfl (OpP.bits rfl rfl (by simp)) ?_
        refine WQ.p (.none rfl) rfl (OpP.bits rfl rfl (by simp)) ?_
        refine WQ.p (.none rfl) rfl (OpP.bits rfl rfl (by simp)) ?_
        refine WQ.p (.none rfl) rfl (OpP.add rfl rfl) ?_
        refine WQ.p (.none rfl) rfl (OpP.move rfl) ?_
        refine WQ.p (.none rfl) rfl (OpP.indexA rfl rfl el_138 (by omega) (by omega)) ?_
        first | (refine WQ.p (.none rfl) rfl (OpP.load rfl ty_107 (Rd.own (by repeat (first | assumption | exact List.mem_cons_self | exact List.mem_of_getElem? (by assumption) | exact set_mem (by first | assumption | exact set_hit (by assumption)) | apply List.mem_cons_of_mem | apply List.mem_append_right)) (by rfl))) ?_) | (refine WQ.p (.none rfl) rfl (OpP.load rfl ty_107 (Rd.arr (by repeat (first | assumption | exact List.mem_cons_self | exact List.mem_of_getElem? (by assumption) | exact set_mem (by first | assumption | exact set_hit (by assumption)) | apply List.mem_cons_of_mem | apply List.mem_append_right)) (by first | omega | (simp only [List.length_append, List.length_take, List.length_drop, List.length_replicate]; omega)))) ?_)
        refine WQ.p (.none rfl) rfl (OpP.add rfl rfl) ?_
        refine WQ.p (.none rfl) rfl (OpP.move rfl) ?_
        refine WQ.p (.none rfl) rfl (OpP.add rfl rfl) ?_
        refine WQ.p (.none rfl) rfl (OpP.assign rfl) ?_
        refine WQ.done ?_
        refine EQ.sub ((Sub.cons (i := 2) rfl (Sub.cons (i := 4) rfl (Sub.cons (i := 5) rfl (Sub.cons (i := 6) rfl (Sub.cons (i := 8) rfl (Sub.cons (i := 14) rfl (Sub.cons (i := 15) rfl (Sub.cons (i := 31) rfl (Sub.nil _)))))))))) ?_
        refine EQ.code ?_
        refine WC.seq ?_
        refine WC.draw (by kernel_rfl) (by kernel_rfl) ?_
        refine WQ.p (.none rfl) rfl (OpP.move rfl) ?_
        refine WQ.callD rfl (.none rfl) rfl k_71 rfl (turn_c (by omega)) ?_
        refine WQ.p (.none rfl) rfl (OpP.move rfl) ?_
        refine WQ.callD rfl (.none rfl) rfl k_71 rfl (turn_c (by omega)) ?_
        refine WQ.p (.none rfl) rfl (OpP.bits rfl rfl (by simp)) ?_
        refine WQ.p (.none rfl) rfl (OpP.move rfl) ?_
        refine WQ.callD rfl (.none rfl) rfl k_71 rfl (turn_c (by omega)) ?_
        refine WQ.p (.none rfl) rfl (OpP.bits rfl rfl (by simp)) ?_
        refine WQ.p (.none rfl) rfl (OpP.move rfl) ?_
        refine WQ.p (.none rfl) rfl (OpP.indexA rfl rfl el_113 (by omega) (by omega)) ?_
        first | (refine WQ.p (.none rfl) rfl (OpP.load rfl ty_107 (Rd.own (by repeat (first | assumption | exact List.mem_cons_self | exact List.mem_of_getElem? (by assumption) | exact set_mem (by first | assumption | exact set_hit (by assumption)) | apply List.mem_cons_of_mem | apply List.mem_append_right)) (by rfl))) ?_) | (refine WQ.p (.none rfl) rfl (OpP.load rfl ty_107 (Rd.arr (by repeat (first | assumption | exact List.mem_cons_self | exact List.mem_of_getElem? (by assumption) | exact set_mem (by first | assumption | exact set_hit (by assumption)) | apply List.mem_cons_of_mem | apply List.mem_append_right)) (by first | omega | (simp only [List.length_append, List.length_take, List.length_drop, List.length_replicate]; omega)))) ?_)
        refine WQ.p (.none rfl) rfl (OpP.bits rfl rfl (by simp)) ?_
        refine WQ.p (.none rfl) rfl (OpP.indexA rfl rfl el_113 (by omega) (by omega)) ?_
        first | (refine WQ.p (.none rfl) rfl (OpP.load rfl ty_107 (Rd.own (by repeat (first | assumption | exact List.mem_cons_self | exact List.mem_of_getElem? (by assumption) | exact set_mem (by first | assumption | exact set_hit (by assumption)) | apply List.mem_cons_of_mem | apply List.mem_append_right)) (by rfl))) ?_) | (refine WQ.p (.none rfl) rfl (OpP.load rfl ty_107 (Rd.arr (by repeat (first | assumption | exact List.mem_cons_self | exact List.mem_of_getElem? (by assumption) | exact set_mem (by first | assumption | exact set_hit (by assumption)) | apply List.mem_cons_of_mem | apply List.mem_append_right)) (by first | omega | (simp only [List.length_append, List.length_take, List.length_drop, List.length_replicate]; omega)))) ?_)
        refine WQ.p (.none rfl) rfl (OpP.move rfl) ?_
        refine WQ.p (.none rfl) rfl (OpP.indexA rfl rfl el_113 (by omega) (by omega)) ?_
        first | (refine WQ.p (.none rfl) rfl (OpP.load rfl ty_107 (Rd.own (by repeat (first | assumption | exact List.mem_cons_self | exact List.mem_of_getElem? (by assumption) | exact set_mem (by first | assumption | exact set_hit (by assumption)) | apply List.mem_cons_of_mem | apply List.mem_append_right)) (by rfl))) ?_) | (refine WQ.p (.none rfl) rfl (OpP.load rfl ty_107 (Rd.arr (by repeat (first | assumption | exact List.mem_cons_self | exact List.mem_of_getElem? (by assumption) | exact set_mem (by first | assumption | exact set_hit (by assumption)) | apply List.mem_cons_of_mem | apply List.mem_append_right)) (by first | omega | (simp only [List.length_append, List.length_take, List.length_drop, List.length_replicate]; omega)))) ?_)
        refine WQ.p (.none rfl) rfl (OpP.bits rfl rfl (by simp)) ?_
        refine WQ.p (.none rfl) rfl (OpP.bits rfl rfl (by simp)) ?_
        refine WQ.p (.none rfl) rfl (OpP.bits rfl rfl (by simp)) ?_
        refine WQ.p (.none rfl) rfl (OpP.add rfl rfl) ?_
        refine WQ.p (.none rfl) rfl (OpP.assign rfl) ?_
        refine WQ.done ?_
        refine EQ.sub ((Sub.cons (i := 2) rfl (Sub.cons (i := 4) rfl (Sub.cons (i := 5) rfl (Sub.cons (i := 6) rfl (Sub.cons (i := 8) rfl (Sub.cons (i := 15) rfl (Sub.cons (i := 16) rfl (Sub.cons (i := 31) rfl (Sub.nil _)))))))))) ?_
        refine EQ.code ?_
        refine WC.seq ?_
        refine WC.drawT 2 (by kernel_rfl) (by kernel_rfl) ?_
        refine WQ.p (.none rfl) rfl (OpP.slice_array rfl el_113 (l := _) (⟨_, rfl⟩) (rfl) (⟨rfl, rfl⟩) (by omega) (by omega) (by omega) (by omega)) ?_
        refine WQ.p (.none rfl) rfl (OpP.slice_array rfl el_113 (l := _) (rfl) (rfl) (⟨_, rfl⟩) (by omega) (by omega) (by omega) (by omega)) ?_
        refine WQ.tail ?_
        refine WL.copy (i := 0) (N := 7) (news := (iv .u32 [v0, v1, v2, v3, v4, v5, v6, v7]).take 7) rfl (.none rfl) rfl sl_142 rfl rfl rfl rfl (Sl.ownT List.mem_cons_self 7) rfl (by rfl) (by simp) ?_
        refine WL.nil ?_
        refine EQ.sub ((Sub.cons (i := 2) rfl (Sub.cons (i := 4) rfl (Sub.cons (i := 5) rfl (Sub.cons (i := 6) rfl (Sub.cons (i := 8) rfl (Sub.cons (i := 15) rfl (Sub.cons (i := 16) rfl (Sub.cons (i := 31) rfl (Sub.nil _)))))))))) ?_
        refine EQ.code ?_
        refine WC.seq ?_
        refine WC.region ?_
        refine WL.p (.none rfl) rfl (OpP.indexA rfl rfl el_113 (by omega) (by omega)) ?_
        first | (refine WL.p (.none rfl) rfl (OpP.load rfl ty_107 (Rd.own (by repeat (first | assumption | exact List.mem_cons_self | exact List.mem_of_getElem? (by assumption) | exact set_mem (by first | assumption | exact set_hit (by assumption)) | apply List.mem_cons_of_mem | apply List.mem_append_right)) (by rfl))) ?_) | (refine WL.p (.none rfl) rfl (OpP.load rfl ty_107 (Rd.arr (by repeat (first | assumption | exact List.mem_cons_self | exact List.mem_of_getElem? (by assumption) | exact set_mem (by first | assumption | exact set_hit (by assumption)) | apply List.mem_cons_of_mem | apply List.mem_append_right)) (by first | omega | (simp only [List.length_append, List.length_take, List.length_drop, List.length_replicate]; omega)))) ?_)
        refine WL.p (.none rfl) rfl (OpP.move rfl) ?_
        refine WL.p (.none rfl) rfl (OpP.add rfl rfl) ?_
        refine WL.p (.none rfl) rfl (OpP.indexA rfl rfl el_113 (by omega) (by omega)) ?_
        refine WL.s (.none rfl) rfl (OpS.store rfl rfl ty_107 (by repeat (first | assumption | exact at0 | exact set_hit (by first | assumption | exact set_hit (by assumption)) | apply ats)) (by rfl) (by first | rfl | (simp [spl_length]; done) | (simp [spl_length]; omega)) (by first | rfl | exact iv_one _ _ | (simp [Value.oneCell']; done)) (by first | rfl | (refine Nat.ble_eq_true_of_le ?_; simp [spl_length]; done) | (refine Nat.ble_eq_true_of_le ?_; simp [spl_length]; omega))) ?_
        refine WL.nil ?_
        refine EQ.sub ((Sub.cons (i := 2) rfl (Sub.cons (i := 4) rfl (Sub.cons (i := 5) rfl (Sub.cons (i := 6) rfl (Sub.cons (i := 8) rfl (Sub.cons (i := 15) rfl (Sub.cons (i := 16) rfl (Sub.cons (i := 31) rfl (Sub.nil _)))))))))) ?_
        refine EQ.code ?_
        refine WC.region ?_
        refine WL.p (.none rfl) rfl (OpP.move rfl) ?_
        refine WL.p (.none rfl) rfl (OpP.move rfl) ?_
        refine WL.p (.none rfl) rfl (OpP.add rfl rfl) ?_
        refine WL.p (.none rfl) rfl (OpP.indexA rfl rfl el_113 (by omega) (by omega)) ?_
        refine WL.s (.none rfl) rfl (OpS.store rfl rfl ty_107 (by repeat (first | assumption | exact at0 | exact set_hit (by first | assumption | exact set_hit (by assumption)) | apply ats)) (by rfl) (by first | rfl | (simp [spl_length]; done) | (simp [spl_length]; omega)) (by first | rfl | exact iv_one _ _ | (simp [Value.oneCell']; done)) (by first | rfl | (refine Nat.ble_eq_true_of_le ?_; simp [spl_length]; done) | (refine Nat.ble_eq_true_of_le ?_; simp [spl_length]; omega))) ?_
        refine WL.nil ?_
        refine EQ.sub ((Sub.cons (i := 2) rfl (Sub.cons (i := 4) rfl (Sub.cons (i := 5) rfl (Sub.cons (i := 6) rfl (Sub.cons (i := 8) rfl (Sub.cons (i := 31) rfl (Sub.nil _)))))))) ?_
        refine EQ.blockN ?_
        refine EQ.code ?_
        refine WC.region ?_
        first | (refine WL.p (.none rfl) rfl (OpP.add64 rfl rfl (by omega)) ?_) | (refine WL.p (.none rfl) rfl (OpP.add rfl rfl) ?_)
        refine WL.p (.none rfl) rfl (OpP.move rfl) ?_
        refine WL.nil ?_
        refine EQ.sub ((Sub.cons (i := 2) rfl (Sub.cons (i := 4) rfl (Sub.cons (i := 5) rfl (Sub.cons (i := 6) rfl (Sub.cons (i := 8) rfl (Sub.cons (i := 31) rfl (Sub.nil _)))))))) ?_
        refine EQ.again (i + 1) ?_ ?_ ?_ ?_
        · (try simp only); omega
        · (try simp only); omega
        · exact ((Sub.cons rfl (Sub.cons rfl (Sub.cons rfl (Sub.cons rfl (Sub.cons rfl (Sub.cons rfl (Sub.nil _))))))))
        · intro w h
          have e0 : 0 + ((i : Int) % 16).toNat * 1 = i % 16 := by omega
          have e1 : 0 + (((i : Int) + 1) % 16).toNat * 1 = (i + 1) % 16 := by omega
          have e9 : 0 + (((i : Int) + 9) % 16).toNat * 1 = (i + 9) % 16 := by omega
          have e14 : 0 + (((i : Int) + 14) % 16).toNat * 1 = (i + 14) % 16 := by omega
          have ei : 0 + ((i : Int)).toNat * 1 = i := by omega
          simp only [List.set_cons_zero, List.set_cons_succ, spl_iv, e0, e1, e9, e14, ei] at h
          simp only [Sha.rounds, hV, hW, Sha.wOf, Sha.xOf]
          first
          | (have hge : 16 ≤ i := by omega
             simp only [if_pos hge]
             exact h)
          | (have hge : ¬ 16 ≤ i := by omega
             simp only [if_neg hge]
             exact h)
    · -- cond 1 f
      (try simp only [decide_eq_true_eq, decide_eq_false_iff_not, Bool.not_eq_true', Bool.not_eq_false', Bool.or_eq_true, Bool.and_eq_true, Bool.or_eq_false_iff, Bool.and_eq_false_imp] at hc1)
      refine WC.exit ?_
      refine EQ.thenE ?_
      refine EQ.thenE ?_
      refine EQ.blockHit ?_
      refine EQ.code ?_
      refine WC.seq ?_
      refine WC.seq ?_
      refine WC.region ?_
      refine WL.p (.none rfl) rfl (OpP.move rfl) ?_
      refine WL.nil ?_
      refine EQ.sub ((Sub.cons (i := 2) rfl (Sub.cons (i := 4) rfl (Sub.cons (i := 8) rfl (Sub.cons (i := 145) rfl (Sub.nil _)))))) ?_
      refine EQ.code ?_
      refine WC.block ?_
      refine WC.loop (σ := Nat) (fun i => [(2, .pointer (some ⟨b2, 0, none⟩)), (4, .pointer (some ⟨b4, 0, none⟩)), (8, .pointer (some ⟨b8, 0, none⟩)), (145, .int .i64 (i : Int))]) (fun i => (b8, cl (iv .u32 ((Sha.mix s b).take i ++ (Sha.rounds s (Sha.words b) 64).1.drop i)) 113) :: (b6, cl (iv .u32 (Sha.rounds s (Sha.words b) 64).2) 140) :: (b5, cl (iv .u32 Sha.kL) 138) :: (b4, cl (List.replicate 8 (.int .u32 0)) 113) :: (b2, cl (iv .u32 s) 113) :: H) (fun i => i ≤ 8) (fun i => 8 - i) 0 (by omega) ((Sub.cons rfl (Sub.cons rfl (Sub.cons rfl (Sub.cons rfl (Sub.nil _)))))) (by
          intro w h
          obtain rfl : i = 64 := by omega
          simp only [List.take_zero, List.drop_zero, List.nil_append, hV, hW]
          exact h) (fun i hinv => ?_)
      (try simp only)
      have hml := Sha.mix_length s b
      have hl := Sha.rounds_length s (Sha.words b) hs 64
      rw [Sha.words_length] at hl
      refine WC.seq ?_
      refine WC.region ?_
      refine WL.p (.none rfl) rfl (OpP.lss rfl rfl) ?_
      refine WL.nil ?_
      refine EQ.sub ((Sub.cons (i := 2) rfl (Sub.cons (i := 4) rfl (Sub.cons (i := 8) rfl (Sub.cons (i := 145) rfl (Sub.cons (i := 146) rfl (Sub.nil _))))))) ?_
      refine EQ.code ?_
      refine WC.seq ?_
      refine WC.cond rfl (fun hc3 => ?_) (fun hc3 => ?_)
      · -- cond 3 t
        (try simp only [decide_eq_true_eq, decide_eq_false_iff_not, Bool.not_eq_true', Bool.not_eq_false', Bool.or_eq_true, Bool.and_eq_true, Bool.or_eq_false_iff, Bool.and_eq_false_imp] at hc3)
        refine WC.skip ?_
        refine EQ.code ?_
        refine WC.seq ?_
        refine WC.block ?_
        refine WC.seq ?_
        refine WC.region ?_
        refine WL.p (.none rfl) rfl (OpP.move rfl) ?_
        refine WL.p (.none rfl) rfl (OpP.assign rfl) ?_
        refine WL.nil ?_
        refine EQ.sub ((Sub.cons (i := 2) rfl (Sub.cons (i := 4) rfl (Sub.cons (i := 8) rfl (Sub.cons (i := 17) rfl (Sub.cons (i := 145) rfl (Sub.nil _))))))) ?_
        refine EQ.code ?_
        refine WC.drawT 8 (by kernel_rfl) (by kernel_rfl) ?_
        refine WQ.p (.none rfl) rfl (OpP.move rfl) ?_
        refine WQ.p (.none rfl) rfl (OpP.indexA rfl rfl el_113 (by omega) (by omega)) ?_
        first | (refine WQ.p (.none rfl) rfl (OpP.load rfl ty_107 (Rd.own (by repeat (first | assumption | exact List.mem_cons_self | exact List.mem_of_getElem? (by assumption) | exact set_mem (by first | assumption | exact set_hit (by assumption)) | apply List.mem_cons_of_mem | apply List.mem_append_right)) (by rfl))) ?_) | (refine WQ.p (.none rfl) rfl (OpP.load rfl ty_107 (Rd.arr (by repeat (first | assumption | exact List.mem_cons_self | exact List.mem_of_getElem? (by assumption) | exact set_mem (by first | assumption | exact set_hit (by assumption)) | apply List.mem_cons_of_mem | apply List.mem_append_right)) (by first | omega | (simp only [List.length_append, List.length_take, List.length_drop, List.length_replicate]; omega)))) ?_)
        refine WQ.p (.none rfl) rfl (OpP.move rfl) ?_
        refine WQ.p (.none rfl) rfl (OpP.indexA rfl rfl el_113 (by omega) (by omega)) ?_
        first | (refine WQ.p (.none rfl) rfl (OpP.load rfl ty_107 (Rd.own (by repeat (first | assumption | exact List.mem_cons_self | exact List.mem_of_getElem? (by assumption) | exact set_mem (by first | assumption | exact set_hit (by assumption)) | apply List.mem_cons_of_mem | apply List.mem_append_right)) (by rfl))) ?_) | (refine WQ.p (.none rfl) rfl (OpP.load rfl ty_107 (Rd.arr (by repeat (first | assumption | exact List.mem_cons_self | exact List.mem_of_getElem? (by assumption) | exact set_mem (by first | assumption | exact set_hit (by assumption)) | apply List.mem_cons_of_mem | apply List.mem_append_right)) (by first | omega | (simp only [List.length_append, List.length_take, List.length_drop, List.length_replicate]; omega)))) ?_)
        refine WQ.p (.none rfl) rfl (OpP.add rfl rfl) ?_
        refine WQ.p (.none rfl) rfl (OpP.indexA rfl rfl el_113 (by omega) (by omega)) ?_
        refine WQ.tail ?_
        refine WL.s (.none rfl) rfl (OpS.store rfl rfl ty_107 (by repeat (first | assumption | exact at0 | exact set_hit (by first | assumption | exact set_hit (by assumption)) | apply ats)) (by rfl) (by first | rfl | (simp [spl_length]; done) | (simp [spl_length]; omega)) (by first | rfl | exact iv_one _ _ | (simp [Value.oneCell']; done)) (by first | rfl | (refine Nat.ble_eq_true_of_le ?_; simp [spl_length]; done) | (refine Nat.ble_eq_true_of_le ?_; simp [spl_length]; omega))) ?_
        refine WL.nil ?_
        refine EQ.sub ((Sub.cons (i := 2) rfl (Sub.cons (i := 4) rfl (Sub.cons (i := 8) rfl (Sub.cons (i := 145) rfl (Sub.nil _)))))) ?_
        refine EQ.blockN ?_
        refine EQ.code ?_
        refine WC.region ?_
        first | (refine WL.p (.none rfl) rfl (OpP.add64 rfl rfl (by omega)) ?_) | (refine WL.p (.none rfl) rfl (OpP.add rfl rfl) ?_)
        refine WL.p (.none rfl) rfl (OpP.move rfl) ?_
        refine WL.nil ?_
        refine EQ.sub ((Sub.cons (i := 2) rfl (Sub.cons (i := 4) rfl (Sub.cons (i := 8) rfl (Sub.cons (i := 145) rfl (Sub.nil _)))))) ?_
        refine EQ.again (i + 1) ?_ ?_ ?_ ?_
        · (try simp only); omega
        · (try simp only); omega
        · exact ((Sub.cons rfl (Sub.cons rfl (Sub.cons rfl (Sub.cons rfl (Sub.nil _))))))
        · intro w h
          have e : 0 + ((i : Int)).toNat * 1 = i := by omega
          have hlen : (Sha.mix s b).length = (Sha.rounds s (Sha.words b) 64).1.length := by rw [hml, hl.1]
          have u := upd_step (Sha.mix s b) (Sha.rounds s (Sha.words b) 64).1 0 hlen i (by omega)
          have u2 := upd_get (Sha.mix s b) (Sha.rounds s (Sha.words b) 64).1 0 hlen i (by omega)
          have g : (Sha.mix s b).getD i 0 = Sha.ad ((Sha.rounds s (Sha.words b) 64).1.getD i 0) (s.getD i 0) := by simp [Sha.mix, List.getD_eq_getElem?_getD, show i < 8 by omega]
          rw [g] at u
          simp only [List.set_cons_zero, List.set_cons_succ, spl_iv, e, u2] at h
          rw [u] at h
          exact h
      · -- cond 3 f
        (try simp only [decide_eq_true_eq, decide_eq_false_iff_not, Bool.not_eq_true', Bool.not_eq_false', Bool.or_eq_true, Bool.and_eq_true, Bool.or_eq_false_iff, Bool.and_eq_false_imp] at hc3)
        refine WC.exit ?_
        refine EQ.thenE ?_
        refine EQ.thenE ?_
        refine EQ.blockHit ?_
        refine EQ.code ?_
        refine WC.seq ?_
        refine WC.region ?_
        first | (refine WL.p (.none rfl) rfl (OpP.loadB rfl ty_113 (by repeat (first | assumption | exact List.mem_cons_self | exact List.mem_of_getElem? (by assumption) | exact set_mem (by first | assumption | exact set_hit (by assumption)) | apply List.mem_cons_of_mem | apply List.mem_append_right)) (by rfl)) ?_) | (refine WL.p (.none rfl) rfl (OpP.loadW rfl ty_113 (by repeat (first | assumption | exact List.mem_cons_self | exact List.mem_of_getElem? (by assumption) | exact set_mem (by first | assumption | exact set_hit (by assumption)) | apply List.mem_cons_of_mem | apply List.mem_append_right)) (by first | rfl | (simp [spl_length]; done) | (simp [spl_length]; omega))) ?_)
        first | (refine WL.s (.none rfl) rfl (OpS.storeAll rfl rfl ty_113 (by repeat (first | assumption | exact at0 | exact set_hit (by first | assumption | exact set_hit (by assumption)) | apply ats)) (by rfl) (by rfl) (by rfl) (by rfl)) ?_) | (refine WL.s (.none rfl) rfl (OpS.store rfl rfl ty_113 (by repeat (first | assumption | exact at0 | exact set_hit (by first | assumption | exact set_hit (by assumption)) | apply ats)) (by rfl) (by first | rfl | (simp [spl_length]; done) | (simp [spl_length]; omega)) (by first | rfl | exact iv_one _ _ | (simp [Value.oneCell']; done)) (by first | rfl | (refine Nat.ble_eq_true_of_le ?_; simp [spl_length]; done) | (refine Nat.ble_eq_true_of_le ?_; simp [spl_length]; omega))) ?_)
        refine WL.nil ?_
        refine EQ.sub ((Sub.cons (i := 4) rfl (Sub.nil _))) ?_
        refine EQ.code ?_
        refine WC.ret ?_
        refine EQ.finD (H' := H) (res1 rfl (.cellW rfl ty_113 (by repeat (first | assumption | exact List.mem_cons_self | exact List.mem_of_getElem? (by assumption) | exact set_mem (by first | assumption | exact set_hit (by assumption)) | apply List.mem_cons_of_mem | apply List.mem_append_right)) (by first | rfl | (simp [spl_length]; done) | (simp [spl_length]; omega)))) (by intro _ h; first | exact h | exact h.drop | exact h.drop.drop | exact h.drop.drop.drop | exact h.drop.drop.drop.drop | exact h.drop.drop.drop.drop.drop | exact h.drop.drop.drop.drop.drop.drop | exact h.drop_mid) ?_
        obtain rfl : i = 8 := by omega
        refine ⟨?_, rfl⟩
        have e1 : (Sha.mix s b).take 8 ++ (Sha.rounds s (Sha.words b) 64).1.drop 8 = Sha.mix s b := by rw [List.take_of_length_le (by omega), List.drop_of_length_le (by omega)]; simp
        rw [e1, spl_all _ _ (by simp [hml])]

end Go.Proofs.Ytmeimjpjelmchaa
