/- Sh3: walks of functions of the program, each over the rules of Sx. No conditions but those in the theorems' heads. -/
import Derived.Test.YtmeimjpjelmchaaSh2
import Derived.Test.YtmeimjpjelmchaaProg
set_option linter.unusedVariables false
set_option linter.unusedSimpArgs false
namespace Go.Proofs.Ytmeimjpjelmchaa
open Go.RowKit Go.Sx
namespace Sh3
theorem bld_116 : bldS Try.prog 116 = some ([(0, 8), (8, 1), (9, 1), (10, 1)], [.int .u32 0, .int .u32 0, .int .u32 0, .int .u32 0, .int .u32 0, .int .u32 0, .int .u32 0, .int .u32 0, .slice none 0 0, .int .i64 0, .bool false]) := by kernel_rfl
theorem fld_116_0 : fldI Try.prog 116 0 = some (0, true, 8) := by kernel_rfl
theorem fld_116_1 : fldI Try.prog 116 1 = some (8, false, 1) := by kernel_rfl
theorem fld_116_2 : fldI Try.prog 116 2 = some (9, false, 1) := by kernel_rfl
theorem fld_116_3 : fldI Try.prog 116 3 = some (10, false, 1) := by kernel_rfl
theorem k_66 : Cal Try.prog 66 := ⟨_, _, Try.func66, by kernel_rfl, rfl⟩
theorem k_67 : Cal Try.prog 67 := ⟨_, _, Try.func67, by kernel_rfl, rfl⟩
theorem sl_23 : slI Try.prog 23 = some (5, 1, 1) := by kernel_rfl
theorem ty_113 : tyI Try.prog 113 = some (true, 8) := by kernel_rfl
theorem ty_23 : tyI Try.prog 23 = some (false, 1) := by kernel_rfl
theorem ty_3 : tyI Try.prog 3 = some (false, 1) := by kernel_rfl
theorem ty_4 : tyI Try.prog 4 = some (false, 1) := by kernel_rfl
end Sh3
open Sh3

/-- What stands behind a pointer to a sum in the making. -/
abbrev shaL (st : List Int) (la : Option Addr) (ll lc : Nat) (n : Int) : List Value := iv .u32 st ++ [.slice la ll lc, .int .i64 n, .bool true]
abbrev shaO (st : List Int) (la : Option Addr) (ll lc : Nat) (n : Int) : Obj := cl (shaL st la ll lc n) 116

set_option maxRecDepth 100000 in
theorem shaNew_c {W0 : World} {H : Hp} : CxX Try.prog W0 53 #[] H (fun v H' => ∃ g, v = .pointer (some ⟨g, 0, none⟩) ∧ H' = (g, shaO Sha.hL none 0 0 0) :: H) := by
  refine enter Try.func53 rfl Try.ntmps53 rfl ?_
  refine WC.seq ?_
  refine WC.region ?_
  refine WL.p (.none rfl) rfl (OpP.assign rfl) ?_
  refine WL.nil ?_
  refine EQ.sub ((Sub.cons (i := 0) rfl (Sub.nil _))) ?_
  refine EQ.code ?_
  refine WC.seq ?_
  refine WC.region ?_
  refine WL.callD rfl (.none rfl) rfl k_66 rfl (begin_c) ?_
  refine WL.p (.none rfl) rfl (OpP.buildS bld_116 (kI rfl (kI rfl kI0)) (by rfl)) ?_
  refine WL.box rfl rfl rfl (fun b3 => ?_)
  refine WL.p (.none rfl) rfl (OpP.assign rfl) ?_
  refine WL.nil ?_
  refine EQ.sub ((Sub.cons (i := 0) rfl (Sub.nil _))) ?_
  refine EQ.code ?_
  refine WC.ret ?_
  refine EQ.fin (res1 rfl (.tmp rfl)) ?_
  exact ⟨b3, rfl, rfl⟩

set_option maxRecDepth 100000 in
theorem shaAdd_c {W0 : World} {H : Hp} {g : Nat} {a : Option Addr} {len c : Nat} {l : List Int} (hlen : len = l.length) (hb : l.length ≤ 140737488355328) (hc : len ≤ c) (hsl : Sl W0 H a (iv .u8 l)) :
    CxX Try.prog W0 54 #[.pointer (some ⟨g, 0, none⟩), .slice a len c] ((g, shaO Sha.hL none 0 0 0) :: H) (fun v H' => v = .int .i64 0 ∧
      ∃ la lc seg, H' = (g, shaO (Sha.absorb Sha.hL l) la (Sha.rest l).length lc l.length) :: (seg ++ H) ∧ OwnS 5 1 (.slice la (Sha.rest l).length lc) (Sha.rest l).length (iv .u8 (Sha.rest l)) seg) := by
  subst hlen
  have h8 : ∀ k, (Sha.stK Sha.hL l k).length = 8 := Sha.stK_length _ _ rfl
  refine enter Try.func54 rfl Try.ntmps54 rfl ?_
  refine WC.seq ?_
  refine WC.region ?_
  refine WL.p (.none rfl) rfl (OpP.assign rfl) ?_
  refine WL.nil ?_
  refine EQ.sub ((Sub.cons (i := 0) rfl (Sub.cons (i := 1) rfl (Sub.cons (i := 4) rfl (Sub.nil _))))) ?_
  refine EQ.code ?_
  refine WC.seq ?_
  refine WC.seq ?_
  refine WC.region ?_
  refine WL.p (.none rfl) rfl (OpP.move rfl) ?_
  refine WL.p (.none rfl) rfl (OpP.eqlNil rfl rfl Try.underlying88) ?_
  refine WL.p (.none rfl) rfl (OpP.move rfl) ?_
  refine WL.g (.bool rfl rfl rfl) rfl (fun hg => OpP.move rfl) ?_
  refine WL.g (.bool rfl rfl rfl) rfl (fun hg => OpP.nilCheck (gk hg rfl)) ?_
  refine WL.g (.bool rfl rfl rfl) rfl (fun hg => OpP.fieldAddr (gk hg rfl) fld_116_3) ?_
  refine WL.g (.bool rfl rfl rfl) rfl (fun hg => OpP.load (gk hg rfl) ty_4 (Rd.own (by repeat (first | assumption | exact List.mem_cons_self | exact List.mem_of_getElem? (by assumption) | exact set_mem (by first | assumption | exact set_hit (by assumption)) | apply List.mem_cons_of_mem | apply List.mem_append_right)) (by rfl))) ?_
  refine WL.g (.bool rfl rfl rfl) rfl (fun hg => OpP.not (gk hg rfl)) ?_
  refine WL.p (.none rfl) rfl (OpP.por rfl rfl rfl) ?_
  refine WL.nil ?_
  refine EQ.sub ((Sub.cons (i := 0) rfl (Sub.cons (i := 1) rfl (Sub.cons (i := 4) rfl (Sub.cons (i := 14) rfl (Sub.nil _)))))) ?_
  refine EQ.code ?_
  refine WC.condF rfl ?_
  refine WC.skip ?_
  refine EQ.code ?_
  refine WC.seq ?_
  refine WC.region ?_
  refine WL.p (.none rfl) rfl (OpP.move rfl) ?_
  refine WL.p (.none rfl) rfl (OpP.nilCheck rfl) ?_
  refine WL.p (.none rfl) rfl (OpP.fieldAddr rfl fld_116_2) ?_
  refine WL.p (.none rfl) rfl (OpP.load rfl ty_3 (Rd.own (by repeat (first | assumption | exact List.mem_cons_self | exact List.mem_of_getElem? (by assumption) | exact set_mem (by first | assumption | exact set_hit (by assumption)) | apply List.mem_cons_of_mem | apply List.mem_append_right)) (by rfl))) ?_
  refine WL.p (.none rfl) rfl (OpP.move rfl) ?_
  refine WL.p (.none rfl) rfl (OpP.lenSl rfl Try.underlying23) ?_
  first | (refine WL.p (.none rfl) rfl (OpP.add64 rfl rfl (by omega)) ?_) | (refine WL.p (.none rfl) rfl (OpP.add rfl rfl) ?_)
  refine WL.p (.none rfl) rfl (OpP.nilCheck rfl) ?_
  refine WL.p (.none rfl) rfl (OpP.fieldAddr rfl fld_116_2) ?_
  refine WL.s (.none rfl) rfl (OpS.store rfl rfl ty_3 (by repeat (first | assumption | exact at0 | exact set_hit (by first | assumption | exact set_hit (by assumption)) | apply ats)) (by rfl) (by rfl) (by rfl) (by rfl)) ?_
  refine WL.nil ?_
  refine EQ.sub ((Sub.cons (i := 0) rfl (Sub.cons (i := 1) rfl (Sub.cons (i := 4) rfl (Sub.nil _))))) ?_
  refine EQ.code ?_
  refine WC.seq ?_
  refine WC.drawT 16 (by kernel_rfl) (by kernel_rfl) ?_
  refine WQ.p (.none rfl) rfl (OpP.move rfl) ?_
  refine WQ.p (.none rfl) rfl (OpP.nilCheck rfl) ?_
  refine WQ.p (.none rfl) rfl (OpP.fieldAddr rfl fld_116_1) ?_
  refine WQ.p (.none rfl) rfl (OpP.load rfl ty_23 (Rd.own (by repeat (first | assumption | exact List.mem_cons_self | exact List.mem_of_getElem? (by assumption) | exact set_mem (by first | assumption | exact set_hit (by assumption)) | apply List.mem_cons_of_mem | apply List.mem_append_right)) (by rfl))) ?_
  refine WQ.p (.none rfl) rfl (OpP.move rfl) ?_
  refine WQ.p (.none rfl) rfl (OpP.nilCheck rfl) ?_
  refine WQ.p (.none rfl) rfl (OpP.fieldAddr rfl fld_116_1) ?_
  refine WQ.p (.none rfl) rfl (OpP.load rfl ty_23 (Rd.own (by repeat (first | assumption | exact List.mem_cons_self | exact List.mem_of_getElem? (by assumption) | exact set_mem (by first | assumption | exact set_hit (by assumption)) | apply List.mem_cons_of_mem | apply List.mem_append_right)) (by rfl))) ?_
  refine WQ.p (.none rfl) rfl (OpP.lenSl rfl Try.underlying23) ?_
  refine WQ.p (.none rfl) rfl (OpP.move rfl) ?_
  refine WQ.p (.none rfl) rfl (OpP.nilCheck rfl) ?_
  refine WQ.p (.none rfl) rfl (OpP.fieldAddr rfl fld_116_1) ?_
  refine WQ.p (.none rfl) rfl (OpP.load rfl ty_23 (Rd.own (by repeat (first | assumption | exact List.mem_cons_self | exact List.mem_of_getElem? (by assumption) | exact set_mem (by first | assumption | exact set_hit (by assumption)) | apply List.mem_cons_of_mem | apply List.mem_append_right)) (by rfl))) ?_
  refine WQ.p (.none rfl) rfl (OpP.lenSl rfl Try.underlying23) ?_
  refine WQ.p (.none rfl) rfl (OpP.slice rfl sl_23 (l := _) (rfl) (⟨_, rfl⟩) (⟨_, rfl⟩) (by omega) (by omega) (by omega) (by omega)) ?_
  refine WQ.p (.none rfl) rfl (OpP.move rfl) ?_
  refine WQ.tail ?_
  refine WL.append (seg := []) (R := (g, shaO Sha.hL none 0 0 (0 + (l.length : Int))) :: H) (v := .slice none 0 0) (news := iv .u8 l) rfl (.none rfl) rfl sl_23 rfl rfl (OwnS.nil 5 1) (hsl.of (by intro w h; exact h.drop)) (by simp) (by simp [Value.oneCell']) (by decide) (by simp only [maxLen]; omega) (by omega) (fun v40 seg hown hnil => ?_)
  refine WL.fromMid ?_
  obtain ⟨a0, c0, hv0, hc0', hc0m, hs0⟩ := hown.val
  subst hv0
  simp only [Nat.zero_add, List.nil_append] at hown hc0' hs0 ⊢
  refine WL.p (.none rfl) rfl (OpP.assign rfl) ?_
  refine WL.nil ?_
  refine EQ.sub ((Sub.cons (i := 0) rfl (Sub.cons (i := 4) rfl (Sub.cons (i := 5) rfl (Sub.nil _))))) ?_
  refine EQ.code ?_
  refine WC.seq ?_
  refine WC.block ?_
  refine WC.loop (σ := Nat × Option Addr × Nat) (fun s => [(0, .pointer (some ⟨g, 0, none⟩)), (5, .slice s.2.1 (l.length - 64 * s.1) s.2.2)]) (fun s => (g, shaO (Sha.stK Sha.hL l s.1) none 0 0 (0 + (l.length : Int))) :: (seg ++ H)) (fun s => 64 * s.1 ≤ l.length ∧ l.length - 64 * s.1 ≤ s.2.2 ∧ s.2.2 ≤ 9223372036854775807 ∧ Sl W0 (seg ++ H) s.2.1 (iv .u8 (l.drop (64 * s.1)))) (fun s => l.length - 64 * s.1) (0, a0, c0) ⟨by simp, by simpa using hc0', by simpa [maxLen] using hc0m, by simpa using hs0 W0 H⟩ ((Sub.cons rfl (Sub.cons rfl (Sub.nil _)))) (fun _ h => h) (fun ⟨k, ak, ck⟩ hinv => ?_)
  (try simp only at hinv ⊢)
  obtain ⟨hk, hck, hck2, hsk⟩ := hinv
  refine WC.seq ?_
  refine WC.seq ?_
  refine WC.region ?_
  refine WL.p (.none rfl) rfl (OpP.move rfl) ?_
  refine WL.p (.none rfl) rfl (OpP.lenSl rfl Try.underlying23) ?_
  refine WL.p (.none rfl) rfl (OpP.geq rfl rfl) ?_
  refine WL.nil ?_
  refine EQ.sub ((Sub.cons (i := 0) rfl (Sub.cons (i := 5) rfl (Sub.cons (i := 43) rfl (Sub.nil _))))) ?_
  refine EQ.code ?_
  refine WC.cond rfl (fun hc1 => ?_) (fun hc1 => ?_)
  · -- cond 1 t
    (try simp only [decide_eq_true_eq, decide_eq_false_iff_not, Bool.not_eq_true', Bool.not_eq_false', Bool.or_eq_true, Bool.and_eq_true, Bool.or_eq_false_iff, Bool.and_eq_false_imp] at hc1)
    refine WC.skip ?_
    refine EQ.code ?_
    refine WC.block ?_
    refine WC.seq ?_
    refine WC.drawT 10 (by kernel_rfl) (by kernel_rfl) ?_
    refine WQ.p (.none rfl) rfl (OpP.move rfl) ?_
    refine WQ.p (.none rfl) rfl (OpP.move rfl) ?_
    refine WQ.p (.none rfl) rfl (OpP.nilCheck rfl) ?_
    refine WQ.p (.none rfl) rfl (OpP.fieldAddr rfl fld_116_0) ?_
    refine WQ.p (.none rfl) rfl (OpP.loadPre (p := iv .u32 (Sha.stK Sha.hL l k)) rfl ty_113 List.mem_cons_self (by simp [h8])) ?_
    refine WQ.p (.none rfl) rfl (OpP.move rfl) ?_
    refine WQ.p (.none rfl) rfl (OpP.slice rfl sl_23 (l := _) (rfl) (rfl) (⟨_, rfl⟩) (by omega) (by omega) (by omega) (by omega)) ?_
    refine WQ.callD rfl (.none rfl) rfl k_67 rfl (mix_c (s := Sha.stK Sha.hL l k) (b := (l.drop (64 * k)).take 64) (h8 k) (by simp; omega) (by omega) (by omega) (by omega) (hsk.cons.cutH 64 _)) ?_
    refine WQ.p (.none rfl) rfl (OpP.nilCheck rfl) ?_
    refine WQ.p (.none rfl) rfl (OpP.fieldAddr rfl fld_116_0) ?_
    refine WQ.tail ?_
    refine WL.s (.none rfl) rfl (OpS.store rfl rfl ty_113 at0 (by rfl) (by simp [Sha.mix_length]) (iv_one _ _) (by simp [h8])) ?_
    refine WL.nil ?_
    refine EQ.sub ((Sub.cons (i := 0) rfl (Sub.cons (i := 5) rfl (Sub.nil _)))) ?_
    refine EQ.code ?_
    refine WC.region ?_
    refine WL.p (.none rfl) rfl (OpP.move rfl) ?_
    refine WL.p (.none rfl) rfl (OpP.slice rfl sl_23 (l := _) (⟨_, rfl⟩) (rfl) (⟨rfl, rfl⟩) (by omega) (by omega) (by omega) (by omega)) ?_
    refine WL.p (.none rfl) rfl (OpP.assign rfl) ?_
    refine WL.nil ?_
    refine EQ.sub ((Sub.cons (i := 0) rfl (Sub.cons (i := 5) rfl (Sub.nil _)))) ?_
    refine EQ.blockN ?_
    refine EQ.again (k + 1, if (ck : Int) = 64 then ak else ak.map (·.add ((64 : Int).toNat * 1)), ck - 64) ?_ ?_ ?_ ?_
    · refine ⟨by (try simp only); omega, by (try simp only); omega, by (try simp only); omega, ?_⟩
      have hcut := hsk.cutB (64 : Int) ((ck : Int) = 64) (by intro; simp; omega)
      rw [List.drop_drop] at hcut
      exact hcut
    · (try simp only); omega
    · exact (Sub.cons rfl (Sub.cons (congrArg some (slice_congr rfl (by (try simp only); omega) (by (try simp only); omega))) (Sub.nil _)))
    · intro w h
      (try simp only [List.set_cons_zero] at h)
      rw [spl_pre _ _ _ (by simp [Sha.mix_length, h8])] at h
      exact h
  · -- cond 1 f
    (try simp only [decide_eq_true_eq, decide_eq_false_iff_not, Bool.not_eq_true', Bool.not_eq_false', Bool.or_eq_true, Bool.and_eq_true, Bool.or_eq_false_iff, Bool.and_eq_false_imp] at hc1)
    refine WC.exit ?_
    refine EQ.thenE ?_
    refine EQ.thenE ?_
    refine EQ.blockHit ?_
    refine EQ.code ?_
    refine WC.seq ?_
    refine WC.region ?_
    refine WL.p (.none rfl) rfl (OpP.move rfl) ?_
    refine WL.buildSlice1 sl_23 rfl rfl (by decide) rfl rfl (by rfl) (fun b57 => ?_)
    refine WL.p (.none rfl) rfl (OpP.move rfl) ?_
    refine WL.append (seg := [(b57, cl [] 5)]) (R := (g, shaO (Sha.stK Sha.hL l k) none 0 0 (0 + (l.length : Int))) :: (seg ++ H)) (news := iv .u8 (l.drop (64 * k))) rfl (.none rfl) rfl sl_23 rfl rfl (OwnS.empty 5 1 b57) (hsk.of (by intro w h; exact h.drop.drop)) (by simp) iv_mem (by decide) (by simp only [maxLen]; omega) (by omega) (fun v59 seg2 hown2 hnil2 => ?_)
    refine WL.fromMid ?_
    obtain ⟨a2, c2, hv2, hc2', hc2m, hs2⟩ := hown2.val
    subst hv2
    refine WL.p (.none rfl) rfl (OpP.nilCheck rfl) ?_
    refine WL.p (.none rfl) rfl (OpP.fieldAddr rfl fld_116_1) ?_
    refine WL.s (.none rfl) rfl (OpS.store rfl rfl ty_23 at0 (by rfl) (by rfl) (by rfl) (by simp [h8])) ?_
    refine WL.nil ?_
    refine EQ.sub ((Sub.nil _)) ?_
    refine EQ.code ?_
    refine WC.seq ?_
    refine WC.region ?_
    refine WL.p (.none rfl) rfl (OpP.assign rfl) ?_
    refine WL.nil ?_
    refine EQ.sub ((Sub.cons (i := 4) rfl (Sub.nil _))) ?_
    refine EQ.code ?_
    refine WC.ret ?_
    obtain rfl : k = l.length / 64 := by omega
    have hrl : (Sha.rest l).length = l.length - 64 * (l.length / 64) := by simp [Sha.rest]
    simp only [Nat.zero_add, List.nil_append] at hown2
    refine EQ.finD (H' := (g, shaO (Sha.absorb Sha.hL l) a2 (Sha.rest l).length c2 l.length) :: (seg2 ++ H)) (res1 rfl (.tmp rfl)) (by
        intro w h
        (try simp only [List.set_cons_zero] at h)
        rw [show (0 + 8 : Nat) = 8 + 0 from rfl, spl_post _ _ 8 0 _ (by simp [h8]) (by simp)] at h
        rw [hrl]
        have h2 := h.sublist (List.Sublist.cons_cons _ (List.Sublist.append_left (List.sublist_append_right seg H) seg2))
        simpa [spl, Sha.absorb] using h2) ?_
    exact ⟨rfl, a2, c2, seg2, rfl, by rw [hrl]; exact hown2⟩

end Go.Proofs.Ytmeimjpjelmchaa
