/- Lw: walks of functions of the program, each over the rules of Sx. No conditions but those in the theorems' heads. -/
import Derived.Test.YtmeimjpjelmchaaLv
import Derived.Test.YtmeimjpjelmchaaSxStr
import Derived.Test.YtmeimjpjelmchaaProg
set_option linter.unusedVariables false
set_option linter.unusedSimpArgs false
namespace Go.Proofs.Ytmeimjpjelmchaa
open Go.RowKit Go.Sx
namespace Lw
theorem bld_34 : bldS Try.prog 34 = some ([(0, 1), (1, 1), (2, 1), (3, 32)], [.int .u64 0, .string ⟨#[]⟩, .int .i64 0, .int .u8 0, .int .u8 0, .int .u8 0, .int .u8 0, .int .u8 0, .int .u8 0, .int .u8 0, .int .u8 0, .int .u8 0, .int .u8 0, .int .u8 0, .int .u8 0, .int .u8 0, .int .u8 0, .int .u8 0, .int .u8 0, .int .u8 0, .int .u8 0, .int .u8 0, .int .u8 0, .int .u8 0, .int .u8 0, .int .u8 0, .int .u8 0, .int .u8 0, .int .u8 0, .int .u8 0, .int .u8 0, .int .u8 0, .int .u8 0, .int .u8 0, .int .u8 0]) := by kernel_rfl
theorem bld_38 : bldS Try.prog 38 = some ([(0, 1), (1, 1)], [.int .i64 0, .int .u64 0]) := by kernel_rfl
theorem el_24 : elI Try.prog 24 = some (none, 40, true, 3) := by kernel_rfl
theorem fld_38_0 : fldI Try.prog 38 0 = some (0, false, 1) := by kernel_rfl
theorem fld_38_1 : fldI Try.prog 38 1 = some (1, false, 1) := by kernel_rfl
theorem fld_40_0 : fldI Try.prog 40 0 = some (0, false, 1) := by kernel_rfl
theorem fld_40_1 : fldI Try.prog 40 1 = some (1, true, 2) := by kernel_rfl
theorem k_10 : Cal Try.prog 10 := ⟨_, _, Try.func10, by kernel_rfl, rfl⟩
theorem k_11 : Cal Try.prog 11 := ⟨_, _, Try.func11, by kernel_rfl, rfl⟩
theorem k_12 : Cal Try.prog 12 := ⟨_, _, Try.func12, by kernel_rfl, rfl⟩
theorem k_13 : Cal Try.prog 13 := ⟨_, _, Try.func13, by kernel_rfl, rfl⟩
theorem k_14 : Cal Try.prog 14 := ⟨_, _, Try.func14, by kernel_rfl, rfl⟩
theorem k_15 : Cal Try.prog 15 := ⟨_, _, Try.func15, by kernel_rfl, rfl⟩
theorem k_16 : Cal Try.prog 16 := ⟨_, _, Try.func16, by kernel_rfl, rfl⟩
theorem k_17 : Cal Try.prog 17 := ⟨_, _, Try.func17, by kernel_rfl, rfl⟩
theorem k_18 : Cal Try.prog 18 := ⟨_, _, Try.func18, by kernel_rfl, rfl⟩
theorem k_19 : Cal Try.prog 19 := ⟨_, _, Try.func19, by kernel_rfl, rfl⟩
theorem k_20 : Cal Try.prog 20 := ⟨_, _, Try.func20, by kernel_rfl, rfl⟩
theorem k_21 : Cal Try.prog 21 := ⟨_, _, Try.func21, by kernel_rfl, rfl⟩
theorem k_22 : Cal Try.prog 22 := ⟨_, _, Try.func22, by kernel_rfl, rfl⟩
theorem k_23 : Cal Try.prog 23 := ⟨_, _, Try.func23, by kernel_rfl, rfl⟩
theorem k_24 : Cal Try.prog 24 := ⟨_, _, Try.func24, by kernel_rfl, rfl⟩
theorem k_25 : Cal Try.prog 25 := ⟨_, _, Try.func25, by kernel_rfl, rfl⟩
theorem k_26 : Cal Try.prog 26 := ⟨_, _, Try.func26, by kernel_rfl, rfl⟩
theorem k_27 : Cal Try.prog 27 := ⟨_, _, Try.func27, by kernel_rfl, rfl⟩
theorem k_28 : Cal Try.prog 28 := ⟨_, _, Try.func28, by kernel_rfl, rfl⟩
theorem k_8 : Cal Try.prog 8 := ⟨_, _, Try.func8, by kernel_rfl, rfl⟩
theorem k_9 : Cal Try.prog 9 := ⟨_, _, Try.func9, by kernel_rfl, rfl⟩
theorem sl_87 : slI Try.prog 87 = some (23, 1, 24) := by kernel_rfl
theorem ty_22 : tyI Try.prog 22 = some (false, 1) := by kernel_rfl
theorem ty_3 : tyI Try.prog 3 = some (false, 1) := by kernel_rfl
theorem ty_34 : tyI Try.prog 34 = some (true, 35) := by kernel_rfl
theorem ty_38 : tyI Try.prog 38 = some (true, 2) := by kernel_rfl
theorem ty_40 : tyI Try.prog 40 = some (true, 3) := by kernel_rfl
theorem z_34 : zI Try.prog 34 = some [.int .u64 0, .string ⟨#[]⟩, .int .i64 0, .int .u8 0, .int .u8 0, .int .u8 0, .int .u8 0, .int .u8 0, .int .u8 0, .int .u8 0, .int .u8 0, .int .u8 0, .int .u8 0, .int .u8 0, .int .u8 0, .int .u8 0, .int .u8 0, .int .u8 0, .int .u8 0, .int .u8 0, .int .u8 0, .int .u8 0, .int .u8 0, .int .u8 0, .int .u8 0, .int .u8 0, .int .u8 0, .int .u8 0, .int .u8 0, .int .u8 0, .int .u8 0, .int .u8 0, .int .u8 0, .int .u8 0, .int .u8 0] := by kernel_rfl
theorem z_40 : zI Try.prog 40 = some [.int .i64 0, .int .i64 0, .int .u64 0] := by kernel_rfl
theorem z_57 : zI Try.prog 57 = some [.bool false, .int .u64 0, .string ⟨#[]⟩, .int .i64 0, .int .u8 0, .int .u8 0, .int .u8 0, .int .u8 0, .int .u8 0, .int .u8 0, .int .u8 0, .int .u8 0, .int .u8 0, .int .u8 0, .int .u8 0, .int .u8 0, .int .u8 0, .int .u8 0, .int .u8 0, .int .u8 0, .int .u8 0, .int .u8 0, .int .u8 0, .int .u8 0, .int .u8 0, .int .u8 0, .int .u8 0, .int .u8 0, .int .u8 0, .int .u8 0, .int .u8 0, .int .u8 0, .int .u8 0, .int .u8 0, .int .u8 0, .int .u8 0, .slice none 0 0, .int .i64 0, .int .u64 0, .int .i64 0, .bool false] := by kernel_rfl
end Lw
open Lw

/-- Calls, as cells. -/
def opsV (ol : List (Int × Int × Nat)) : List Value := ol.flatMap fun o => [.int .i64 o.1, .int .i64 o.2.1, .int .u64 ((o.2.2 : Nat) : Int)]
theorem opsV_length (ol : List (Int × Int × Nat)) : (opsV ol).length = ol.length * 3 := by
  unfold opsV
  induction ol with
  | nil => rfl
  | cons o ol ih => simp [List.flatMap_cons] at ih ⊢; omega
theorem opsV_get : ∀ (ol : List (Int × Int × Nat)) (k : Nat) (o : Int × Int × Nat), ol[k]? = some o → ∀ j v, ([.int .i64 o.1, .int .i64 o.2.1, .int .u64 ((o.2.2 : Nat) : Int)] : List Value)[j]? = some v → (opsV ol)[k * 3 + j]? = some v
  | [], k, o, h, _, _, _ => by simp at h
  | p :: ol, 0, o, h, j, v, hv => by
    simp only [List.getElem?_cons_zero, Option.some.injEq] at h
    subst h
    unfold opsV
    rw [List.flatMap_cons, Nat.zero_mul, Nat.zero_add, List.getElem?_append_left]
    · exact hv
    · rcases Nat.lt_or_ge j 3 with hj | hj
      · simpa using hj
      · rw [List.getElem?_eq_none (by simpa using hj)] at hv; cases hv
  | p :: ol, k + 1, o, h, j, v, hv => by
    have ih := opsV_get ol k o (by simpa using h) j v hv
    unfold opsV at ih ⊢
    rw [List.flatMap_cons, List.getElem?_append_right (by simp; omega)]
    simpa [show (k + 1) * 3 + j - 3 = k * 3 + j by omega] using ih
def zSnd : Snd := { made := false, id := 0, name := ByteArray.empty, size := 0, sum := fun _ => 0, ba := none, bl := 0, bc := 0, n := 0, bits := 0, pos := 0, gone := false }
theorem zSnd_next : zSnd.next = -1 := by unfold Snd.next; rw [if_neg (by intro h; exact absurd h.1 (by decide))]
theorem PeekZ_c {W0 : World} {H : Hp} {g i : Nat} (hi : H[i]? = some (g, zSnd.obj)) : CxD Try.prog W0 12 #[.pointer (some ⟨g, 0, none⟩)] H (.tuple #[.int .i64 0, .bool false]) H :=
  CxD.to (Peek_c hi (by decide) (by decide) (by decide +kernel)) (by rw [zSnd_next]; rfl) rfl
theorem AnewZ_c {W0 : World} {H : Hp} {g i : Nat} (hi : H[i]? = some (g, zSnd.obj)) : CxD Try.prog W0 20 #[.pointer (some ⟨g, 0, none⟩), mv 0 0] H (.int .i64 6) H :=
  CxD.to (Anew_c hi (by decide) (by decide)) rfl (by rw [if_neg (by show ¬ (zSnd.ask 0 0 = 0); decide)])
theorem StateZ_c {W0 : World} {H : Hp} {g i : Nat} (hi : H[i]? = some (g, zSnd.obj)) : CxD Try.prog W0 25 #[.pointer (some ⟨g, 0, none⟩)] H (.int .i64 0) H :=
  CxD.to (State_c hi (by decide) (by decide)) rfl rfl
theorem told_ob (y : Rsn) : y.told.hb = y.hb ∧ y.told.hob = y.hob := by unfold Rsn.told; split <;> exact ⟨rfl, rfl⟩
theorem know_ob (y : Rsn) (w : List Bool) (rt an : Bool) : (y.know w rt an).hb = y.hb := by unfold Rsn.know; split <;> rfl
theorem cancel_ob (y : Rsn) : y.cancel.hb = y.hb ∧ y.cancel.hob = y.hob := by unfold Rsn.cancel; split <;> exact ⟨rfl, rfl⟩

set_option maxRecDepth 100000 in
theorem LivesBad_c {W0 : World} {H : Hp} {a a3 : Option Addr} {m cp c3 : Nat} {id : Int} {nm : ByteArray} {l : List Int} {ol : List (Int × Int × Nat)} (hl : l.length = m) (hc : m ≤ cp) (hcp : cp ≤ 9223372036854775807) (hsl : ∀ R, Sl W0 R a (iv .u8 l)) (hol : ol.length ≤ 9223372036854775807) (hops : ∀ R, Sl W0 R a3 (opsV ol)) (hob : ∀ o ∈ ol, o.2.2 < 18446744073709551616) (hok : infoOk id nm m = false) : CxD Try.prog W0 3 #[.int .u64 id, .string nm, .slice a m cp, .slice a3 ol.length c3] H (.bool true) H := by
  refine enter Try.func3 rfl Try.ntmps3 rfl ?_
  refine WC.seq ?_
  refine WC.region ?_
  refine WL.p (.none rfl) rfl (OpP.assign rfl) ?_
  refine WL.nil ?_
  refine EQ.sub ((Sub.cons (i := 0) rfl (Sub.cons (i := 1) rfl (Sub.cons (i := 2) rfl (Sub.cons (i := 3) rfl (Sub.cons (i := 8) rfl (Sub.nil _))))))) ?_
  refine EQ.code ?_
  refine WC.seq ?_
  refine WC.seq ?_
  refine WC.region ?_
  refine WL.p (.none rfl) rfl (OpP.move rfl) ?_
  refine WL.p (.none rfl) rfl (OpP.lenSl rfl Try.underlying23) ?_
  refine WL.p (.none rfl) rfl (OpP.gtr rfl rfl) ?_
  refine WL.p (.none rfl) rfl (OpP.move rfl) ?_
  refine WL.g (.bool rfl rfl rfl) rfl (fun hg => OpP.move rfl) ?_
  refine WL.g (.bool rfl rfl rfl) rfl (fun hg => OpP.lenStr (gk hg rfl) Try.underlying9) ?_
  refine WL.g (.bool rfl rfl rfl) rfl (fun hg => OpP.gtr (gk hg rfl) rfl) ?_
  refine WL.p (.none rfl) rfl (OpP.por rfl rfl rfl) ?_
  refine WL.nil ?_
  refine EQ.sub ((Sub.cons (i := 0) rfl (Sub.cons (i := 1) rfl (Sub.cons (i := 2) rfl (Sub.cons (i := 3) rfl (Sub.cons (i := 8) rfl (Sub.cons (i := 37) rfl (Sub.nil _)))))))) ?_
  refine EQ.code ?_
  refine WC.cond rfl (fun hc0 => ?_) (fun hc0 => ?_)
  · -- cond 0 t
    (try simp only [decide_eq_true_eq, decide_eq_false_iff_not, Bool.not_eq_true', Bool.not_eq_false', Bool.or_eq_true, Bool.and_eq_true, Bool.or_eq_false_iff, Bool.and_eq_false_imp, Option.isNone_some, Bool.false_eq_true, false_or, true_and] at hc0)
    refine WC.seq ?_
    refine WC.region ?_
    refine WL.callD rfl (.none rfl) rfl k_8 rfl (alive_c) ?_
    refine WL.p (.none rfl) rfl (OpP.assign rfl) ?_
    refine WL.nil ?_
    refine EQ.sub ((Sub.cons (i := 0) rfl (Sub.cons (i := 1) rfl (Sub.cons (i := 2) rfl (Sub.cons (i := 3) rfl (Sub.cons (i := 8) rfl (Sub.nil _))))))) ?_
    refine EQ.code ?_
    refine WC.ret ?_
    refine EQ.thenR ?_
    refine EQ.finD (H' := H) (res1 rfl (.tmp rfl)) (by intro _ h; first | exact h | exact h.drop | exact h.drop.drop | exact h.drop.drop.drop | exact h.drop.drop.drop.drop | exact h.drop.drop.drop.drop.drop | exact h.drop.drop.drop.drop.drop.drop | exact h.drop_mid) ?_
    exact ⟨rfl, rfl⟩
  · -- cond 0 f
    (try simp only [decide_eq_true_eq, decide_eq_false_iff_not, Bool.not_eq_true', Bool.not_eq_false', Bool.or_eq_true, Bool.and_eq_true, Bool.or_eq_false_iff, Bool.and_eq_false_imp, Option.isNone_some, Bool.false_eq_true, false_or, true_and] at hc0)
    refine WC.skip ?_
    refine EQ.code ?_
    refine WC.seq ?_
    refine WC.region ?_
    refine WL.p (.none rfl) rfl (OpP.move rfl) ?_
    refine WL.p (.none rfl) rfl (OpP.move rfl) ?_
    refine WL.p (.none rfl) rfl (OpP.move rfl) ?_
    refine WL.call rfl (.none rfl) rfl k_9 rfl (FNew_c hl (by omega) hc (hsl _)) ?_
    rintro _ _ hnew
    rw [if_neg (by rw [hok]; simp)] at hnew
    obtain ⟨rfl, e9⟩ := hnew
    rw [e9]
    refine WL.p (.none rfl) rfl (OpP.move rfl) ?_
    refine WL.p (.none rfl) rfl (OpP.extract rfl rfl) ?_
    refine WL.p (.none rfl) rfl (OpP.extract rfl rfl) ?_
    refine WL.p (.none rfl) rfl (OpP.assign rfl) ?_
    refine WL.p (.none rfl) rfl (OpP.assign rfl) ?_
    refine WL.nil ?_
    refine EQ.sub ((Sub.cons (i := 0) rfl (Sub.cons (i := 1) rfl (Sub.cons (i := 2) rfl (Sub.cons (i := 3) rfl (Sub.cons (i := 8) rfl (Sub.cons (i := 9) rfl (Sub.cons (i := 10) rfl (Sub.nil _))))))))) ?_
    refine EQ.code ?_
    refine WC.seq ?_
    refine WC.seq ?_
    refine WC.region ?_
    refine WL.p (.none rfl) rfl (OpP.move rfl) ?_
    refine WL.p (.none rfl) rfl (OpP.move rfl) ?_
    refine WL.p (.none rfl) rfl (OpP.move rfl) ?_
    refine WL.p (.none rfl) rfl (OpP.lenSl rfl Try.underlying23) ?_
    refine WL.p (.none rfl) rfl (OpP.buildS (l := .int .u64 id :: .string nm :: .int .i64 m :: sumL (fun _ => 0)) bld_34 (kI rfl (kI rfl (kI rfl kI0))) (by kernel_rfl)) ?_
    refine WL.callD rfl (.none rfl) rfl k_10 rfl (CxD.to (StRight_c (s := fun _ => 0)) (by rw [hok]) rfl) ?_
    refine WL.p (.none rfl) rfl (OpP.not rfl) ?_
    refine WL.nil ?_
    refine EQ.sub ((Sub.cons (i := 0) rfl (Sub.cons (i := 1) rfl (Sub.cons (i := 2) rfl (Sub.cons (i := 3) rfl (Sub.cons (i := 8) rfl (Sub.cons (i := 9) rfl (Sub.cons (i := 10) rfl (Sub.cons (i := 52) rfl (Sub.nil _)))))))))) ?_
    refine EQ.code ?_
    refine WC.condT rfl ?_
    refine WC.seq ?_
    refine WC.region ?_
    refine WL.callD rfl (.none rfl) rfl k_8 rfl (alive_c) ?_
    refine WL.p (.none rfl) rfl (OpP.move rfl) ?_
    refine WL.p (.yes rfl rfl rfl) rfl (OpP.move rfl) ?_
    refine WL.p (.yes rfl rfl rfl) rfl (OpP.eqlNil rfl rfl Try.underlying26) ?_
    refine WL.p (.none rfl) rfl (OpP.pand rfl rfl rfl) ?_
    refine WL.p (.none rfl) rfl (OpP.move rfl) ?_
    refine WL.p (.yes rfl rfl rfl) rfl (OpP.move rfl) ?_
    refine WL.p (.yes rfl rfl rfl) rfl (OpP.eqlI rfl rfl) ?_
    refine WL.p (.none rfl) rfl (OpP.pand rfl rfl rfl) ?_
    refine WL.p (.none rfl) rfl (OpP.assign rfl) ?_
    refine WL.nil ?_
    refine EQ.sub ((Sub.cons (i := 0) rfl (Sub.cons (i := 1) rfl (Sub.cons (i := 2) rfl (Sub.cons (i := 3) rfl (Sub.cons (i := 8) rfl (Sub.cons (i := 9) rfl (Sub.cons (i := 10) rfl (Sub.nil _))))))))) ?_
    refine EQ.code ?_
    refine WC.ret ?_
    refine EQ.thenR ?_
    refine EQ.finD (H' := H) (res1 rfl (.tmp rfl)) (by intro _ h; first | exact h | exact h.drop | exact h.drop.drop | exact h.drop.drop.drop | exact h.drop.drop.drop.drop | exact h.drop.drop.drop.drop.drop | exact h.drop.drop.drop.drop.drop.drop | exact h.drop_mid) ?_
    exact ⟨rfl, rfl⟩

theorem flat34 : flatT Try.prog 3 34 = some (.i .u64 :: .s :: .i .i64 :: List.replicate 32 (.i .u8)) := by kernel_rfl
theorem rel_new {id : Int} {nm : ByteArray} {m cp hb : Nat} {l : List Int} {ba a : Option Addr} {bc : Nat} {x0 : Snd} (hx0 : x0 = newSnd id nm m (sumF l) ba bc) : Rel x0 (newRsn a m cp hb) := by
  subst hx0
  have hch := chunks_bd m
  refine ⟨by show ((List.replicate _ false).length : Int) = chunks m; rw [List.length_replicate]; omega, fun i hi => ?_, rfl, rfl, rfl, Int.le_refl 0, (by decide : (0 : Int) < 18446744073709551616), right_zero hch.1 hch.2, rfl, rfl⟩
  have hi2 : i < (chunks m).toNat := by simpa [newRsn] using hi
  show (List.replicate (chunks m).toNat false).getD i false = mBit 0 i
  rw [List.getD_eq_getElem?_getD, List.getElem?_replicate]
  simp [hi2, mBit]

set_option maxRecDepth 100000 in
theorem LivesOk_c {W0 : World} {H : Hp} {a a3 : Option Addr} {m cp c3 : Nat} {id : Int} {nm : ByteArray} {l : List Int} {ol : List (Int × Int × Nat)} (hl : l.length = m) (hc : m ≤ cp) (hcp : cp ≤ 9223372036854775807) (hsl : ∀ R, Sl W0 R a (iv .u8 l)) (hol : ol.length ≤ 9223372036854775807) (hops : ∀ R, Sl W0 R a3 (opsV ol)) (hob : ∀ o ∈ ol, o.2.2 < 18446744073709551616) (hok : infoOk id nm m = true) : CxD Try.prog W0 3 #[.int .u64 id, .string nm, .slice a m cp, .slice a3 ol.length c3] H (.bool true) H := by
  refine enter Try.func3 rfl Try.ntmps3 rfl ?_
  refine WC.seq ?_
  refine WC.region ?_
  refine WL.p (.none rfl) rfl (OpP.assign rfl) ?_
  refine WL.nil ?_
  refine EQ.sub ((Sub.cons (i := 0) rfl (Sub.cons (i := 1) rfl (Sub.cons (i := 2) rfl (Sub.cons (i := 3) rfl (Sub.cons (i := 8) rfl (Sub.nil _))))))) ?_
  refine EQ.code ?_
  refine WC.seq ?_
  refine WC.seq ?_
  refine WC.region ?_
  refine WL.p (.none rfl) rfl (OpP.move rfl) ?_
  refine WL.p (.none rfl) rfl (OpP.lenSl rfl Try.underlying23) ?_
  refine WL.p (.none rfl) rfl (OpP.gtr rfl rfl) ?_
  refine WL.p (.none rfl) rfl (OpP.move rfl) ?_
  refine WL.g (.bool rfl rfl rfl) rfl (fun hg => OpP.move rfl) ?_
  refine WL.g (.bool rfl rfl rfl) rfl (fun hg => OpP.lenStr (gk hg rfl) Try.underlying9) ?_
  refine WL.g (.bool rfl rfl rfl) rfl (fun hg => OpP.gtr (gk hg rfl) rfl) ?_
  refine WL.p (.none rfl) rfl (OpP.por rfl rfl rfl) ?_
  refine WL.nil ?_
  refine EQ.sub ((Sub.cons (i := 0) rfl (Sub.cons (i := 1) rfl (Sub.cons (i := 2) rfl (Sub.cons (i := 3) rfl (Sub.cons (i := 8) rfl (Sub.cons (i := 37) rfl (Sub.nil _)))))))) ?_
  refine EQ.code ?_
  refine WC.cond rfl (fun hc0 => ?_) (fun hc0 => ?_)
  · -- cond 0 t
    (try simp only [decide_eq_true_eq, decide_eq_false_iff_not, Bool.not_eq_true', Bool.not_eq_false', Bool.or_eq_true, Bool.and_eq_true, Bool.or_eq_false_iff, Bool.and_eq_false_imp, Option.isNone_some, Bool.false_eq_true, false_or, true_and] at hc0)
    refine WC.seq ?_
    refine WC.region ?_
    refine WL.callD rfl (.none rfl) rfl k_8 rfl (alive_c) ?_
    refine WL.p (.none rfl) rfl (OpP.assign rfl) ?_
    refine WL.nil ?_
    refine EQ.sub ((Sub.cons (i := 0) rfl (Sub.cons (i := 1) rfl (Sub.cons (i := 2) rfl (Sub.cons (i := 3) rfl (Sub.cons (i := 8) rfl (Sub.nil _))))))) ?_
    refine EQ.code ?_
    refine WC.ret ?_
    refine EQ.thenR ?_
    refine EQ.finD (H' := H) (res1 rfl (.tmp rfl)) (by intro _ h; first | exact h | exact h.sublist (by repeat (first | exact List.sublist_append_right _ _ | apply List.Sublist.cons))) ?_
    exact ⟨rfl, rfl⟩
  · -- cond 0 f
    (try simp only [decide_eq_true_eq, decide_eq_false_iff_not, Bool.not_eq_true', Bool.not_eq_false', Bool.or_eq_true, Bool.and_eq_true, Bool.or_eq_false_iff, Bool.and_eq_false_imp, Option.isNone_some, Bool.false_eq_true, false_or, true_and] at hc0)
    refine WC.skip ?_
    refine EQ.code ?_
    refine WC.seq ?_
    refine WC.region ?_
    refine WL.p (.none rfl) rfl (OpP.move rfl) ?_
    refine WL.p (.none rfl) rfl (OpP.move rfl) ?_
    refine WL.p (.none rfl) rfl (OpP.move rfl) ?_
    refine WL.call rfl (.none rfl) rfl k_9 rfl (FNew_c hl (by omega) hc (hsl _)) ?_
    rintro _ _ hnew
    rw [if_pos hok] at hnew
    obtain ⟨g, ds, ba, bc, rfl, rfl, hown⟩ := hnew
    obtain ⟨ba1, bc1, hbe, hbc, hbc2, hxs⟩ := hown.val
    cases hbe
    obtain ⟨x0, hx0⟩ : ∃ x0, x0 = newSnd id nm m (sumF l) ba bc := ⟨_, rfl⟩
    rw [← hx0]
    refine WL.p (.none rfl) rfl (OpP.move rfl) ?_
    refine WL.p (.none rfl) rfl (OpP.extract rfl rfl) ?_
    refine WL.p (.none rfl) rfl (OpP.extract rfl rfl) ?_
    refine WL.p (.none rfl) rfl (OpP.assign rfl) ?_
    refine WL.p (.none rfl) rfl (OpP.assign rfl) ?_
    refine WL.nil ?_
    refine EQ.sub ((Sub.cons (i := 0) rfl (Sub.cons (i := 1) rfl (Sub.cons (i := 2) rfl (Sub.cons (i := 3) rfl (Sub.cons (i := 8) rfl (Sub.cons (i := 9) rfl (Sub.cons (i := 10) rfl (Sub.nil _))))))))) ?_
    refine EQ.code ?_
    refine WC.seq ?_
    refine WC.seq ?_
    refine WC.region ?_
    refine WL.p (.none rfl) rfl (OpP.move rfl) ?_
    refine WL.p (.none rfl) rfl (OpP.move rfl) ?_
    refine WL.p (.none rfl) rfl (OpP.move rfl) ?_
    refine WL.p (.none rfl) rfl (OpP.lenSl rfl Try.underlying23) ?_
    refine WL.p (.none rfl) rfl (OpP.buildS (l := .int .u64 id :: .string nm :: .int .i64 m :: sumL (fun _ => 0)) bld_34 (kI rfl (kI rfl (kI rfl kI0))) (by kernel_rfl)) ?_
    refine WL.callD rfl (.none rfl) rfl k_10 rfl (CxD.to (StRight_c (s := fun _ => 0)) (by rw [hok]) rfl) ?_
    refine WL.p (.none rfl) rfl (OpP.not rfl) ?_
    refine WL.nil ?_
    refine EQ.sub ((Sub.cons (i := 0) rfl (Sub.cons (i := 1) rfl (Sub.cons (i := 2) rfl (Sub.cons (i := 3) rfl (Sub.cons (i := 8) rfl (Sub.cons (i := 9) rfl (Sub.cons (i := 10) rfl (Sub.cons (i := 52) rfl (Sub.nil _)))))))))) ?_
    refine EQ.code ?_
    refine WC.condF rfl ?_
    refine WC.skip ?_
    refine EQ.code ?_
    refine WC.seq ?_
    refine WC.seq ?_
    refine WC.region ?_
    refine WL.p (.none rfl) rfl (OpP.move rfl) ?_
    refine WL.p (.none rfl) rfl (OpP.neqI rfl rfl) ?_
    refine WL.p (.none rfl) rfl (OpP.move rfl) ?_
    refine WL.g (.bool rfl rfl rfl) rfl (fun hg => OpP.move rfl) ?_
    refine WL.g (.bool rfl rfl rfl) rfl (fun hg => OpP.eqlNil (gk hg rfl) rfl Try.underlying26) ?_
    refine WL.p (.none rfl) rfl (OpP.por rfl rfl rfl) ?_
    refine WL.nil ?_
    refine EQ.sub ((Sub.cons (i := 0) rfl (Sub.cons (i := 1) rfl (Sub.cons (i := 2) rfl (Sub.cons (i := 3) rfl (Sub.cons (i := 8) rfl (Sub.cons (i := 9) rfl (Sub.cons (i := 67) rfl (Sub.nil _))))))))) ?_
    refine EQ.code ?_
    refine WC.condF rfl ?_
    refine WC.skip ?_
    refine EQ.code ?_
    refine WC.seq ?_
    refine WC.region ?_
    refine WL.p (.none rfl) rfl (OpP.move rfl) ?_
    refine WL.call rfl (.none rfl) rfl k_11 rfl (rNew_c (a := a) (m := m) (cp := cp)) ?_
    rintro _ _ ⟨g2, hb2, rfl, rfl⟩
    have hrel0 := rel_new (m := m) hx0 (a := a) (cp := cp) (hb := hb2)
    refine WL.p (.none rfl) rfl (OpP.assign rfl) ?_
    refine WL.nil ?_
    refine EQ.sub ((Sub.cons (i := 0) rfl (Sub.cons (i := 1) rfl (Sub.cons (i := 2) rfl (Sub.cons (i := 3) rfl (Sub.cons (i := 8) rfl (Sub.cons (i := 9) rfl (Sub.cons (i := 11) rfl (Sub.nil _))))))))) ?_
    refine EQ.code ?_
    refine WC.seq ?_
    refine WC.seq ?_
    refine WC.region ?_
    refine WL.p (.none rfl) rfl (OpP.assign rfl) ?_
    refine WL.nil ?_
    refine EQ.sub ((Sub.cons (i := 0) rfl (Sub.cons (i := 1) rfl (Sub.cons (i := 2) rfl (Sub.cons (i := 3) rfl (Sub.cons (i := 8) rfl (Sub.cons (i := 9) rfl (Sub.cons (i := 11) rfl (Sub.cons (i := 12) rfl (Sub.nil _)))))))))) ?_
    refine EQ.code ?_
    refine WC.block ?_
    refine WC.loop (σ := Nat × Snd × Rsn) (fun s => [(0, .int .u64 id), (1, .string nm), (2, .slice a m cp), (3, .slice a3 ol.length c3), (9, .pointer (some ⟨g, 0, none⟩)), (11, .pointer (some ⟨g2, 0, none⟩)), (12, .int .i64 (s.1 : Int))]) (fun s => (g2, s.2.2.obj) :: (s.2.2.hb, s.2.2.hob) :: (g, s.2.1.obj) :: (ds ++ H)) (fun s => s.1 ≤ ol.length ∧ Rel s.2.1 s.2.2 ∧ Keeps x0 s.2.1 (newRsn a m cp hb2) s.2.2) (fun s => ol.length - s.1) (0, x0, newRsn a m cp hb2) ⟨Nat.zero_le _, hrel0, Keeps.refl _ _⟩ ((Sub.cons rfl (Sub.cons rfl (Sub.cons rfl (Sub.cons rfl (Sub.cons rfl (Sub.cons rfl (Sub.cons rfl (Sub.nil _))))))))) (fun _ h => h) (fun ⟨k, x, y⟩ hinv => ?_)
    (try simp only at hinv ⊢)
    obtain ⟨hk, hrel, hkp⟩ := hinv
    have eid : x.id = id := by rw [hkp.id, hx0]; rfl
    have enm : x.name = nm := by rw [hkp.name, hx0]; rfl
    have esz : x.size = m := by rw [hkp.size, hx0]; rfl
    have esum : x.sum = sumF l := by rw [hkp.sum, hx0]; rfl
    have eba : x.ba = ba := by rw [hkp.ba, hx0]; rfl
    have ebl : x.bl = m := by rw [hkp.bl, hx0]; rfl
    have ebc : x.bc = bc := by rw [hkp.bc, hx0]; rfl
    have eca : y.ca = a := hkp.ca
    have ecn : y.cn = m := hkp.cn
    have ecc : y.cc = cp := hkp.cc
    have hxb : ∀ R, Sl W0 (ds ++ R) x.ba (iv .u8 l) := by rw [eba]; exact fun R => hxs W0 R
    have hcc : y.cn ≤ y.cc := by rw [ecn, ecc]; exact hc
    have hcc2 : y.cc ≤ 9223372036854775807 := by rw [ecc]; exact hcp
    have hlt : 0 ≤ y.next → y.next < chunks y.cn := fun h => by rw [← hrel.next] at h ⊢; have := next_rng hrel.right hrel.lo h; rw [← hrel.size, ← hrel.n]; exact this
    refine WC.seq ?_
    refine WC.seq ?_
    refine WC.region ?_
    refine WL.p (.none rfl) rfl (OpP.move rfl) ?_
    refine WL.p (.none rfl) rfl (OpP.move rfl) ?_
    refine WL.p (.none rfl) rfl (OpP.lenSl rfl Try.underlying24) ?_
    refine WL.p (.none rfl) rfl (OpP.lss rfl rfl) ?_
    refine WL.p (.none rfl) rfl (OpP.move rfl) ?_
    refine WL.g (.bool rfl rfl rfl) rfl (fun hg => OpP.move rfl) ?_
    refine WL.g (.bool rfl rfl rfl) rfl (fun hg => OpP.lss (gk hg rfl) rfl) ?_
    refine WL.p (.none rfl) rfl (OpP.pand rfl rfl rfl) ?_
    refine WL.nil ?_
    refine EQ.sub ((Sub.cons (i := 0) rfl (Sub.cons (i := 1) rfl (Sub.cons (i := 2) rfl (Sub.cons (i := 3) rfl (Sub.cons (i := 9) rfl (Sub.cons (i := 11) rfl (Sub.cons (i := 12) rfl (Sub.cons (i := 77) rfl (Sub.nil _)))))))))) ?_
    refine EQ.code ?_
    refine WC.cond rfl (fun hc3 => ?_) (fun hc3 => ?_)
    · -- cond 3 t
      (try simp only [decide_eq_true_eq, decide_eq_false_iff_not, Bool.not_eq_true', Bool.not_eq_false', Bool.or_eq_true, Bool.and_eq_true, Bool.or_eq_false_iff, Bool.and_eq_false_imp, Option.isNone_some, Bool.false_eq_true, false_or, true_and] at hc3)
      refine WC.skip ?_
      refine EQ.code ?_
      refine WC.seq ?_
      refine WC.block ?_
      refine WC.seq ?_
      refine WC.region ?_
      refine WL.p (.none rfl) rfl (OpP.move rfl) ?_
      refine WL.p (.none rfl) rfl (OpP.move rfl) ?_
      have hklt : k < ol.length := by omega
      obtain ⟨o, ho⟩ : ∃ o, ol[k]? = some o := ⟨_, List.getElem?_eq_getElem hklt⟩
      have hob1 : o.2.2 < 18446744073709551616 := hob o (List.mem_of_getElem? ho)
      have ha3 : a3 ≠ none := by intro hz; have := (hops []).1 hz; have h2 := opsV_length ol; rw [this] at h2; simp at h2; omega
      refine WL.p (.none rfl) rfl (OpP.indexSl rfl rfl el_24 (by omega) (by omega) ha3) ?_
      refine WL.p (.none rfl) rfl (OpP.loadSl (vs := [.int .i64 o.1, .int .i64 o.2.1, .int .u64 ((o.2.2 : Nat) : Int)]) rfl ty_40 (hops _) (fun j v hv => by simpa using opsV_get ol k o ho j v hv) rfl (by simp)) ?_
      refine WL.allocX z_40 rfl (fun b13 => ?_)
      first | (refine WL.s (.none rfl) rfl (OpS.storeAll rfl rfl ty_40 (by repeat (first | assumption | exact at0 | exact set_hit (by first | assumption | exact set_hit (by assumption)) | apply ats)) (by rfl) (by rfl) (by rfl) (by rfl)) ?_) | (refine WL.s (.none rfl) rfl (OpS.store rfl rfl ty_40 (by repeat (first | assumption | exact at0 | exact set_hit (by first | assumption | exact set_hit (by assumption)) | apply ats)) (by rfl) (by rfl) (by rfl) (by rfl)) ?_)
      refine WL.nil ?_
      refine EQ.sub ((Sub.cons (i := 0) rfl (Sub.cons (i := 1) rfl (Sub.cons (i := 2) rfl (Sub.cons (i := 3) rfl (Sub.cons (i := 9) rfl (Sub.cons (i := 11) rfl (Sub.cons (i := 12) rfl (Sub.cons (i := 13) rfl (Sub.nil _)))))))))) ?_
      refine EQ.code ?_
      refine WC.seq ?_
      refine WC.region ?_
      refine WL.p (.none rfl) rfl (OpP.move rfl) ?_
      refine WL.callD rfl (.none rfl) rfl k_12 rfl (Peek2_c (i := 3) rfl hrel) ?_
      refine WL.p (.none rfl) rfl (OpP.move rfl) ?_
      refine WL.p (.none rfl) rfl (OpP.extract rfl rfl) ?_
      refine WL.p (.none rfl) rfl (OpP.extract rfl rfl) ?_
      refine WL.p (.none rfl) rfl (OpP.assign rfl) ?_
      refine WL.p (.none rfl) rfl (OpP.assign rfl) ?_
      refine WL.nil ?_
      refine EQ.sub ((Sub.cons (i := 0) rfl (Sub.cons (i := 1) rfl (Sub.cons (i := 2) rfl (Sub.cons (i := 3) rfl (Sub.cons (i := 9) rfl (Sub.cons (i := 11) rfl (Sub.cons (i := 12) rfl (Sub.cons (i := 13) rfl (Sub.cons (i := 14) rfl (Sub.cons (i := 15) rfl (Sub.nil _)))))))))))) ?_
      refine EQ.code ?_
      refine WC.seq ?_
      refine WC.region ?_
      refine WL.p (.none rfl) rfl (OpP.move rfl) ?_
      refine WL.callD rfl (.none rfl) rfl k_13 rfl (rNextF_c (i := 1) (j := 2) rfl rfl hrel.len64) ?_
      refine WL.p (.none rfl) rfl (OpP.assign rfl) ?_
      refine WL.nil ?_
      refine EQ.sub ((Sub.cons (i := 0) rfl (Sub.cons (i := 1) rfl (Sub.cons (i := 2) rfl (Sub.cons (i := 3) rfl (Sub.cons (i := 9) rfl (Sub.cons (i := 11) rfl (Sub.cons (i := 12) rfl (Sub.cons (i := 13) rfl (Sub.cons (i := 14) rfl (Sub.cons (i := 15) rfl (Sub.cons (i := 16) rfl (Sub.nil _))))))))))))) ?_
      refine EQ.code ?_
      refine WC.seq ?_
      refine WC.seq ?_
      refine WC.region ?_
      refine WL.p (.none rfl) rfl (OpP.move rfl) ?_
      refine WL.p (.none rfl) rfl (OpP.move rfl) ?_
      refine WL.p (.none rfl) rfl (OpP.geq rfl rfl) ?_
      refine WL.p (.none rfl) rfl (OpP.neqB rfl rfl Try.underlying4) ?_
      refine WL.p (.none rfl) rfl (OpP.move rfl) ?_
      refine WL.g (.bool rfl rfl rfl) rfl (fun hg => OpP.move rfl) ?_
      refine WL.g (.bool rfl rfl rfl) rfl (fun hg => OpP.move (gk hg rfl)) ?_
      refine WL.g (.gv rfl rfl rfl) rfl (fun hg => OpP.move rfl) ?_
      refine WL.g (.gv rfl rfl rfl) rfl (fun hg => OpP.move rfl) ?_
      refine WL.g (.gv rfl rfl rfl) rfl (fun hg => OpP.move rfl) ?_
      refine WL.gcall rfl (.gv rfl rfl rfl) rfl k_14 (fun hg => kops2 (gk hg rfl) (gk hg rfl)) (fun hg => rBytes_c (x := y) (j := 1) rfl (by simp at hg; omega) (hlt (by simp at hg; omega)) hcc hcc2) ?_
      refine WL.g (.gv rfl rfl rfl) rfl (fun hg => OpP.lenSl (gk hg rfl) Try.underlying23) ?_
      refine WL.g (.gv rfl rfl rfl) rfl (fun hg => OpP.neqI (gk hg rfl) (gk hg rfl)) ?_
      refine WL.g (.bool rfl rfl rfl) rfl (fun hg => OpP.pand (gk hg rfl) (gk2 hg rfl) rfl) ?_
      refine WL.p (.none rfl) rfl (OpP.por rfl rfl rfl) ?_
      refine WL.p (.none rfl) rfl (OpP.move rfl) ?_
      refine WL.g (.bool rfl rfl rfl) rfl (fun hg => OpP.move rfl) ?_
      refine WL.g (.bool rfl rfl rfl) rfl (fun hg => OpP.not (gk hg rfl)) ?_
      refine WL.g (.bool rfl rfl rfl) rfl (fun hg => OpP.move (gk hg rfl)) ?_
      refine WL.g (.gv rfl rfl rfl) rfl (fun hg => OpP.move rfl) ?_
      refine WL.g (.gv rfl rfl rfl) rfl (fun hg => OpP.neqI (gk hg rfl) rfl) ?_
      refine WL.g (.bool rfl rfl rfl) rfl (fun hg => OpP.pand (gk hg rfl) (gk2 hg rfl) rfl) ?_
      refine WL.p (.none rfl) rfl (OpP.por rfl rfl rfl) ?_
      refine WL.nil ?_
      refine EQ.sub ((Sub.cons (i := 0) rfl (Sub.cons (i := 1) rfl (Sub.cons (i := 2) rfl (Sub.cons (i := 3) rfl (Sub.cons (i := 9) rfl (Sub.cons (i := 11) rfl (Sub.cons (i := 12) rfl (Sub.cons (i := 13) rfl (Sub.cons (i := 16) rfl (Sub.cons (i := 113) rfl (Sub.nil _)))))))))))) ?_
      refine EQ.code ?_
      refine WC.cond rfl (fun hc4 => ?_) (fun hc4 => ?_)
      · -- cond 4 t
        (try simp only [decide_eq_true_eq, decide_eq_false_iff_not, Bool.not_eq_true', Bool.not_eq_false', Bool.or_eq_true, Bool.and_eq_true, Bool.or_eq_false_iff, Bool.and_eq_false_imp, Option.isNone_some, Bool.false_eq_true, false_or, true_and] at hc4)
        exfalso
        by_cases hK : y.next < 0
        · have hK2 : ¬ (0 ≤ y.next) := by omega
          simp [hK, hK2] at hc4
        · have hK2 : 0 ≤ y.next := by omega
          have hla := lengthAt_bd hK2 (hlt hK2)
          simp [hK, hK2] at hc4
          try omega
      · -- cond 4 f
        (try simp only [decide_eq_true_eq, decide_eq_false_iff_not, Bool.not_eq_true', Bool.not_eq_false', Bool.or_eq_true, Bool.and_eq_true, Bool.or_eq_false_iff, Bool.and_eq_false_imp, Option.isNone_some, Bool.false_eq_true, false_or, true_and] at hc4)
        refine WC.skip ?_
        refine EQ.code ?_
        refine WC.seq ?_
        refine WC.seq ?_
        refine WC.region ?_
        refine WL.p (.none rfl) rfl (OpP.move rfl) ?_
        refine WL.p (.none rfl) rfl (OpP.move rfl) ?_
        refine WL.p (.none rfl) rfl (OpP.move rfl) ?_
        refine WL.p (.none rfl) rfl (OpP.remN rfl rfl (by omega) (by omega)) ?_
        refine WL.callD rfl (.none rfl) rfl k_15 rfl (costs_law hrel (i := 3) rfl (i2 := 1) rfl (j2 := 2) rfl hcc hcc2 (by omega) (by omega)) ?_
        refine WL.p (.none rfl) rfl (OpP.not rfl) ?_
        refine WL.nil ?_
        refine EQ.sub ((Sub.cons (i := 0) rfl (Sub.cons (i := 1) rfl (Sub.cons (i := 2) rfl (Sub.cons (i := 3) rfl (Sub.cons (i := 9) rfl (Sub.cons (i := 11) rfl (Sub.cons (i := 12) rfl (Sub.cons (i := 13) rfl (Sub.cons (i := 16) rfl (Sub.cons (i := 119) rfl (Sub.nil _)))))))))))) ?_
        refine EQ.code ?_
        refine WC.condF rfl ?_
        refine WC.skip ?_
        refine EQ.code ?_
        refine WC.seq ?_
        refine WC.region ?_
        refine WL.p (.none rfl) rfl (OpP.fieldAddr rfl fld_40_1) ?_
        refine WL.p (.none rfl) rfl (OpP.fieldAddr rfl fld_38_0) ?_
        refine WL.p (.none rfl) rfl (OpP.load rfl ty_3 (Rd.own (by repeat (first | assumption | exact List.mem_cons_self | exact List.mem_of_getElem? (by assumption) | exact set_mem (by first | assumption | exact set_hit (by assumption)) | apply List.mem_cons_of_mem | apply List.mem_append_right)) (by rfl))) ?_
        refine WL.p (.none rfl) rfl (OpP.fieldAddr rfl fld_40_1) ?_
        refine WL.p (.none rfl) rfl (OpP.fieldAddr rfl fld_38_1) ?_
        refine WL.p (.none rfl) rfl (OpP.load rfl ty_22 (Rd.own (by repeat (first | assumption | exact List.mem_cons_self | exact List.mem_of_getElem? (by assumption) | exact set_mem (by first | assumption | exact set_hit (by assumption)) | apply List.mem_cons_of_mem | apply List.mem_append_right)) (by rfl))) ?_
        refine WL.call rfl (.none rfl) rfl k_16 rfl (rOf2_c hob1) ?_
        rintro _ _ ⟨aw, cw, d2, rfl, rfl, hw⟩
        refine WL.perm (H' := (b13, cl [.int .i64 o.1, .int .i64 o.2.1, .int .u64 ((o.2.2 : Nat) : Int)] 40) :: (g2, y.obj) :: (y.hb, y.hob) :: (g, x.obj) :: ((ds ++ H) ++ d2)) List.perm_append_comm ?_
        refine WL.p (.none rfl) rfl (OpP.move rfl) ?_
        refine WL.p (.none rfl) rfl (OpP.extract rfl rfl) ?_
        refine WL.p (.none rfl) rfl (OpP.extract rfl rfl) ?_
        refine WL.p (.none rfl) rfl (OpP.assign rfl) ?_
        refine WL.p (.none rfl) rfl (OpP.assign rfl) ?_
        refine WL.nil ?_
        refine EQ.sub ((Sub.cons (i := 0) rfl (Sub.cons (i := 1) rfl (Sub.cons (i := 2) rfl (Sub.cons (i := 3) rfl (Sub.cons (i := 9) rfl (Sub.cons (i := 11) rfl (Sub.cons (i := 12) rfl (Sub.cons (i := 13) rfl (Sub.cons (i := 16) rfl (Sub.cons (i := 17) rfl (Sub.cons (i := 18) rfl (Sub.nil _))))))))))))) ?_
        refine EQ.code ?_
        refine WC.seq ?_
        refine WC.seq ?_
        refine WC.region ?_
        refine WL.p (.none rfl) rfl (OpP.fieldAddr rfl fld_40_0) ?_
        refine WL.p (.none rfl) rfl (OpP.load rfl ty_3 (Rd.own (by repeat (first | assumption | exact List.mem_cons_self | exact List.mem_of_getElem? (by assumption) | exact set_mem (by first | assumption | exact set_hit (by assumption)) | apply List.mem_cons_of_mem | apply List.mem_append_right)) (by rfl))) ?_
        refine WL.nil ?_
        refine EQ.sub ((Sub.cons (i := 0) rfl (Sub.cons (i := 1) rfl (Sub.cons (i := 2) rfl (Sub.cons (i := 3) rfl (Sub.cons (i := 9) rfl (Sub.cons (i := 11) rfl (Sub.cons (i := 12) rfl (Sub.cons (i := 13) rfl (Sub.cons (i := 16) rfl (Sub.cons (i := 17) rfl (Sub.cons (i := 18) rfl (Sub.cons (i := 131) rfl (Sub.nil _)))))))))))))) ?_
        refine EQ.code ?_
        refine WC.block ?_
        refine WC.seq ?_
        refine WC.region ?_
        refine WL.p (.none rfl) rfl (OpP.eqlI rfl rfl) ?_
        refine WL.p (.none rfl) rfl (OpP.assign rfl) ?_
        refine WL.nil ?_
        refine EQ.sub ((Sub.cons (i := 0) rfl (Sub.cons (i := 1) rfl (Sub.cons (i := 2) rfl (Sub.cons (i := 3) rfl (Sub.cons (i := 9) rfl (Sub.cons (i := 11) rfl (Sub.cons (i := 12) rfl (Sub.cons (i := 13) rfl (Sub.cons (i := 16) rfl (Sub.cons (i := 17) rfl (Sub.cons (i := 18) rfl (Sub.cons (i := 131) rfl (Sub.cons (i := 132) rfl (Sub.nil _))))))))))))))) ?_
        refine EQ.code ?_
        refine WC.cond rfl (fun hc6 => ?_) (fun hc6 => ?_)
        · -- cond 6 t
          (try simp only [decide_eq_true_eq, decide_eq_false_iff_not, Bool.not_eq_true', Bool.not_eq_false', Bool.or_eq_true, Bool.and_eq_true, Bool.or_eq_false_iff, Bool.and_eq_false_imp, Option.isNone_some, Bool.false_eq_true, false_or, true_and] at hc6)
          refine WC.seq ?_
          refine WC.region ?_
          refine WL.p (.none rfl) rfl (OpP.move rfl) ?_
          refine WL.call rfl (.none rfl) rfl k_17 rfl (Next2_c (i := 3) (y := y) rfl hrel (bd := l) (by rw [ebl]; exact hl) (by rw [esz, ebl]) (by rw [ebl, ebc]; exact hbc) (by rw [ebc]; simp only [maxLen] at hbc2; omega) (fun o2 => (hxb (H ++ d2)).of (fun w h => by have h2 := h.drop.drop.drop.drop; rwa [List.append_assoc] at h2))) ?_
          rintro _ _ ⟨d3, pa, pn, pc, rfl, rfl, hpc⟩
          refine WL.perm (H' := (b13, cl [.int .i64 o.1, .int .i64 o.2.1, .int .u64 ((o.2.2 : Nat) : Int)] 40) :: (g2, y.obj) :: (y.hb, y.hob) :: (g, x.told.obj) :: (((ds ++ H) ++ d2) ++ d3)) List.perm_append_comm ?_
          refine WL.p (.none rfl) rfl (OpP.move rfl) ?_
          refine WL.p (.none rfl) rfl (OpP.extract rfl rfl) ?_
          refine WL.p (.none rfl) rfl (OpP.extract rfl rfl) ?_
          refine WL.p (.none rfl) rfl (OpP.extract rfl rfl) ?_
          refine WL.p (.none rfl) rfl (OpP.assign rfl) ?_
          refine WL.p (.none rfl) rfl (OpP.assign rfl) ?_
          refine WL.p (.none rfl) rfl (OpP.assign rfl) ?_
          refine WL.nil ?_
          refine EQ.sub ((Sub.cons (i := 0) rfl (Sub.cons (i := 1) rfl (Sub.cons (i := 2) rfl (Sub.cons (i := 3) rfl (Sub.cons (i := 9) rfl (Sub.cons (i := 11) rfl (Sub.cons (i := 12) rfl (Sub.cons (i := 16) rfl (Sub.cons (i := 19) rfl (Sub.cons (i := 20) rfl (Sub.cons (i := 21) rfl (Sub.nil _))))))))))))) ?_
          refine EQ.code ?_
          refine WC.seq ?_
          refine WC.region ?_
          refine WL.p (.none rfl) rfl (OpP.move rfl) ?_
          refine WL.callD rfl (.none rfl) rfl k_13 rfl (rNext2_c (i := 1) (j := 2) rfl rfl hrel.len64) ?_
          refine WL.p (.none rfl) rfl (OpP.assign rfl) ?_
          refine WL.nil ?_
          refine EQ.sub ((Sub.cons (i := 0) rfl (Sub.cons (i := 1) rfl (Sub.cons (i := 2) rfl (Sub.cons (i := 3) rfl (Sub.cons (i := 9) rfl (Sub.cons (i := 11) rfl (Sub.cons (i := 12) rfl (Sub.cons (i := 16) rfl (Sub.cons (i := 19) rfl (Sub.cons (i := 20) rfl (Sub.cons (i := 21) rfl (Sub.nil _))))))))))))) ?_
          refine EQ.code ?_
          refine WC.seq ?_
          refine WC.draw (by kernel_rfl) (by kernel_rfl) ?_
          refine WQ.p (.none rfl) rfl (OpP.move rfl) ?_
          refine WQ.p (.none rfl) rfl (OpP.move rfl) ?_
          refine WQ.p (.none rfl) rfl (OpP.geq rfl rfl) ?_
          refine WQ.p (.none rfl) rfl (OpP.neqB rfl rfl Try.underlying4) ?_
          refine WQ.p (.none rfl) rfl (OpP.move rfl) ?_
          refine WQ.g (.bool rfl rfl rfl) rfl (fun hg => OpP.move rfl) ?_
          refine WQ.g (.bool rfl rfl rfl) rfl (fun hg => OpP.move (gk hg rfl)) ?_
          refine WQ.g (.gv rfl rfl rfl) rfl (fun hg => OpP.move rfl) ?_
          refine WQ.g (.gv rfl rfl rfl) rfl (fun hg => OpP.move rfl) ?_
          refine WQ.g (.gv rfl rfl rfl) rfl (fun hg => OpP.neqI (gk hg rfl) (gk hg rfl)) ?_
          refine WQ.g (.gv rfl rfl rfl) rfl (fun hg => OpP.move (gk hg rfl)) ?_
          refine WQ.g (.gv rfl rfl rfl) rfl (fun hg => OpP.move rfl) ?_
          refine WQ.g (.gv rfl rfl rfl) rfl (fun hg => OpP.strOf (l := ((l.drop (64 * y.next).toNat).take (lengthAt y.cn y.next).toNat)) (gk hg rfl) Try.underlying23 Try.underlying9 Try.underlying5 (by have h2 := (hpc (by simp at hg; omega)).2; rw [Int.mul_comm] at h2; exact (h2 W0 []).of (fun w h => by rw [List.append_nil]; exact (h.drop.drop.drop.drop).sublist (List.sublist_append_right _ _))) (by have h2 := (hpc (by simp at hg; omega)).1; rw [h2, List.length_take, List.length_drop]; have hK : 0 ≤ y.next := (by simp at hg; omega); have := lengthAt_bd (n := y.cn) (i := y.next) hK (hlt hK); omega)) ?_
          refine WQ.g (.gv rfl rfl rfl) rfl (fun hg => OpP.move rfl) ?_
          refine WQ.g (.gv rfl rfl rfl) rfl (fun hg => OpP.move rfl) ?_
          refine WQ.gcall rfl (.gv rfl rfl rfl) rfl k_14 (fun hg => kops2 (gk hg rfl) (gk hg rfl)) (fun hg => rBytes_c (x := y.told) (j := 1) rfl (by simp at hg; omega) (by rw [(Keeps.told x y).cn]; exact hlt (by simp at hg; omega)) (by rw [(Keeps.told x y).cn, (Keeps.told x y).cc]; exact hcc) (by rw [(Keeps.told x y).cc]; exact hcc2)) ?_
          refine WQ.g (.gv rfl rfl rfl) rfl (fun hg => OpP.strOf (l := ((l.drop (64 * y.next).toNat).take (lengthAt y.cn y.next).toNat)) (gk hg rfl) Try.underlying23 Try.underlying9 Try.underlying5 (by rw [(Keeps.told x y).cc, (Keeps.told x y).ca]; exact ((by rw [eca]; exact hsl _ : Sl W0 _ y.ca (iv .u8 l)).cutB _ _ (by intro hq; omega)).takeB _) (by rw [(Keeps.told x y).cn, List.length_take, List.length_drop]; have hK : 0 ≤ y.next := (by simp at hg; omega); have := lengthAt_bd (n := y.cn) (i := y.next) hK (hlt hK); omega)) ?_
          refine WQ.g (.gv rfl rfl rfl) rfl (fun hg => OpP.neqS (gk hg rfl) (gk hg rfl)) ?_
          refine WQ.g (.gv rfl rfl rfl) rfl (fun hg => OpP.por (gk hg rfl) rfl (gk2 hg rfl)) ?_
          refine WQ.g (.bool rfl rfl rfl) rfl (fun hg => OpP.pand (gk hg rfl) (gk2 hg rfl) rfl) ?_
          refine WQ.p (.none rfl) rfl (OpP.por rfl rfl rfl) ?_
          refine WQ.done ?_
          refine EQ.sub ((Sub.cons (i := 0) rfl (Sub.cons (i := 1) rfl (Sub.cons (i := 2) rfl (Sub.cons (i := 3) rfl (Sub.cons (i := 9) rfl (Sub.cons (i := 11) rfl (Sub.cons (i := 12) rfl (Sub.cons (i := 162) rfl (Sub.nil _)))))))))) ?_
          refine EQ.code ?_
          refine WC.cond rfl (fun hc7 => ?_) (fun hc7 => ?_)
          · -- cond 7 t
            (try simp only [decide_eq_true_eq, decide_eq_false_iff_not, Bool.not_eq_true', Bool.not_eq_false', Bool.or_eq_true, Bool.and_eq_true, Bool.or_eq_false_iff, Bool.and_eq_false_imp, Option.isNone_some, Bool.false_eq_true, false_or, true_and] at hc7)
            exfalso
            by_cases hK : y.next < 0
            · have hK2 : ¬ (0 ≤ y.next) := by omega
              simp [hK, hK2] at hc7
            · have hK2 : 0 ≤ y.next := by omega
              have hla := lengthAt_bd hK2 (hlt hK2)
              simp [hK, hK2] at hc7
              try omega
          · -- cond 7 f
            (try simp only [decide_eq_true_eq, decide_eq_false_iff_not, Bool.not_eq_true', Bool.not_eq_false', Bool.or_eq_true, Bool.and_eq_true, Bool.or_eq_false_iff, Bool.and_eq_false_imp, Option.isNone_some, Bool.false_eq_true, false_or, true_and] at hc7)
            refine WC.skip ?_
            refine EQ.blockN ?_
            refine EQ.code ?_
            refine WC.seq ?_
            refine WC.region ?_
            refine WL.p (.none rfl) rfl (OpP.move rfl) ?_
            refine WL.callD rfl (.none rfl) rfl k_23 rfl (CxD.to (Left_c (x := x.told) (i := 3) rfl hrel.told.lo hrel.told.hi ⟨(mRight_spec hrel.told.right).1, (mRight_spec hrel.told.right).2.1⟩) (by rw [hrel.told.left]) rfl) ?_
            refine WL.p (.none rfl) rfl (OpP.move rfl) ?_
            refine WL.callD rfl (.none rfl) rfl k_24 rfl (rLeft_c (x := y.told) (i := 1) (j := 2) rfl (by rw [(told_ob y).1, (told_ob y).2]; rfl) hrel.told.len64) ?_
            refine WL.p (.none rfl) rfl (OpP.neqI rfl rfl) ?_
            refine WL.p (.none rfl) rfl (OpP.move rfl) ?_
            refine WL.g (.bool rfl rfl rfl) rfl (fun hg => OpP.move rfl) ?_
            refine WL.gcall rfl (.bool rfl rfl rfl) rfl k_25 (fun hg => kops1 (gk hg rfl)) (fun hg => CxD.to (State_c (x := x.told) (i := 3) rfl hrel.told.lo hrel.told.hi) (by rw [hrel.told.state]) rfl) ?_
            refine WL.g (.bool rfl rfl rfl) rfl (fun hg => OpP.move rfl) ?_
            refine WL.gcall rfl (.bool rfl rfl rfl) rfl k_26 (fun hg => kops1 (gk hg rfl)) (fun hg => rState_c (x := y.told) (i := 1) (j := 2) rfl (by rw [(told_ob y).1, (told_ob y).2]; rfl) hrel.told.len64) ?_
            refine WL.g (.bool rfl rfl rfl) rfl (fun hg => OpP.neqI (gk hg rfl) (gk hg rfl)) ?_
            refine WL.p (.none rfl) rfl (OpP.por rfl rfl rfl) ?_
            refine WL.nil ?_
            refine EQ.sub ((Sub.cons (i := 0) rfl (Sub.cons (i := 1) rfl (Sub.cons (i := 2) rfl (Sub.cons (i := 3) rfl (Sub.cons (i := 9) rfl (Sub.cons (i := 11) rfl (Sub.cons (i := 12) rfl (Sub.cons (i := 203) rfl (Sub.nil _)))))))))) ?_
            refine EQ.code ?_
            refine WC.cond rfl (fun hc8 => ?_) (fun hc8 => ?_)
            · -- cond 8 t
              (try simp only [decide_eq_true_eq, decide_eq_false_iff_not, Bool.not_eq_true', Bool.not_eq_false', Bool.or_eq_true, Bool.and_eq_true, Bool.or_eq_false_iff, Bool.and_eq_false_imp, Option.isNone_some, Bool.false_eq_true, false_or, true_and] at hc8)
              exfalso; simp at hc8
            · -- cond 8 f
              (try simp only [decide_eq_true_eq, decide_eq_false_iff_not, Bool.not_eq_true', Bool.not_eq_false', Bool.or_eq_true, Bool.and_eq_true, Bool.or_eq_false_iff, Bool.and_eq_false_imp, Option.isNone_some, Bool.false_eq_true, false_or, true_and] at hc8)
              refine WC.skip ?_
              refine EQ.blockN ?_
              refine EQ.code ?_
              refine WC.region ?_
              refine WL.p (.none rfl) rfl (OpP.move rfl) ?_
              first | (refine WL.p (.none rfl) rfl (OpP.add64 rfl rfl (by omega)) ?_) | (refine WL.p (.none rfl) rfl (OpP.add rfl rfl) ?_)
              refine WL.p (.none rfl) rfl (OpP.assign rfl) ?_
              refine WL.nil ?_
              refine EQ.sub ((Sub.cons (i := 0) rfl (Sub.cons (i := 1) rfl (Sub.cons (i := 2) rfl (Sub.cons (i := 3) rfl (Sub.cons (i := 9) rfl (Sub.cons (i := 11) rfl (Sub.cons (i := 12) rfl (Sub.nil _))))))))) ?_
              refine EQ.again (k + 1, x.told, y.told) ?_ ?_ ?_ ?_
              · exact ⟨by (try simp only); omega, hrel.told, hkp.trans (Keeps.told x y)⟩
              · (try simp only); omega
              · exact ((Sub.cons rfl (Sub.cons rfl (Sub.cons rfl (Sub.cons rfl (Sub.cons rfl (Sub.cons rfl (Sub.cons rfl (Sub.nil _)))))))))
              · intro w h
                have h2 := h.drop
                show St W0 w ((g2, Rsn.obj y.told) :: (Rsn.hb y.told, Rsn.hob y.told) :: (g, Snd.obj x.told) :: (ds ++ H))
                rw [(told_ob y).1, (told_ob y).2]
                exact h2.sublist ((((List.sublist_append_left _ _).trans (List.sublist_append_left _ _)).cons_cons _).cons_cons _ |>.cons_cons _)
        · -- cond 6 f
          (try simp only [decide_eq_true_eq, decide_eq_false_iff_not, Bool.not_eq_true', Bool.not_eq_false', Bool.or_eq_true, Bool.and_eq_true, Bool.or_eq_false_iff, Bool.and_eq_false_imp, Option.isNone_some, Bool.false_eq_true, false_or, true_and] at hc6)
          refine WC.seq ?_
          refine WC.region ?_
          refine WL.p (.none rfl) rfl (OpP.eqlI rfl rfl) ?_
          refine WL.p (.none rfl) rfl (OpP.assign rfl) ?_
          refine WL.nil ?_
          refine EQ.sub ((Sub.cons (i := 0) rfl (Sub.cons (i := 1) rfl (Sub.cons (i := 2) rfl (Sub.cons (i := 3) rfl (Sub.cons (i := 9) rfl (Sub.cons (i := 11) rfl (Sub.cons (i := 12) rfl (Sub.cons (i := 13) rfl (Sub.cons (i := 17) rfl (Sub.cons (i := 18) rfl (Sub.cons (i := 131) rfl (Sub.cons (i := 163) rfl (Sub.nil _)))))))))))))) ?_
          refine EQ.code ?_
          refine WC.cond rfl (fun hc9 => ?_) (fun hc9 => ?_)
          · -- cond 9 t
            (try simp only [decide_eq_true_eq, decide_eq_false_iff_not, Bool.not_eq_true', Bool.not_eq_false', Bool.or_eq_true, Bool.and_eq_true, Bool.or_eq_false_iff, Bool.and_eq_false_imp, Option.isNone_some, Bool.false_eq_true, false_or, true_and] at hc9)
            refine WC.seq ?_
            refine WC.region ?_
            refine WL.p (.none rfl) rfl (OpP.move rfl) ?_
            refine WL.p (.none rfl) rfl (OpP.fieldAddr rfl fld_40_1) ?_
            refine WL.p (.none rfl) rfl (OpP.loadB rfl ty_38 (by repeat (first | assumption | exact List.mem_cons_self | exact List.mem_of_getElem? (by assumption) | exact set_mem (by first | assumption | exact set_hit (by assumption)) | apply List.mem_cons_of_mem | apply List.mem_append_right)) (by rfl)) ?_
            refine WL.callD rfl (.none rfl) rfl k_18 rfl (CxD.to (Know2_c (i := 3) rfl hrel.lo hrel.hi (by omega) (by omega) hrel.right) (by rw [hrel.ask]) rfl) ?_
            refine WL.p (.none rfl) rfl (OpP.move rfl) ?_
            refine WL.p (.none rfl) rfl (OpP.move rfl) ?_
            refine WL.p (.none rfl) rfl (OpP.move rfl) ?_
            refine WL.callD rfl (.none rfl) rfl k_19 rfl (rKnow2_c (i := 1) (j := 2) rfl rfl (by decide) hrel.len64 (wOf_le _ _) (fun o2 => (hw W0 (ds ++ H)).of (fun w h => (h.drop.drop.drop.drop).perm List.perm_append_comm))) ?_
            refine WL.p (.none rfl) rfl (OpP.neqI rfl rfl) ?_
            refine WL.nil ?_
            refine EQ.sub ((Sub.cons (i := 0) rfl (Sub.cons (i := 1) rfl (Sub.cons (i := 2) rfl (Sub.cons (i := 3) rfl (Sub.cons (i := 9) rfl (Sub.cons (i := 11) rfl (Sub.cons (i := 12) rfl (Sub.cons (i := 173) rfl (Sub.nil _)))))))))) ?_
            refine EQ.code ?_
            refine WC.cond rfl (fun hc10 => ?_) (fun hc10 => ?_)
            · -- cond 10 t
              (try simp only [decide_eq_true_eq, decide_eq_false_iff_not, Bool.not_eq_true', Bool.not_eq_false', Bool.or_eq_true, Bool.and_eq_true, Bool.or_eq_false_iff, Bool.and_eq_false_imp, Option.isNone_some, Bool.false_eq_true, false_or, true_and] at hc10)
              exfalso; simp at hc10
            · -- cond 10 f
              (try simp only [decide_eq_true_eq, decide_eq_false_iff_not, Bool.not_eq_true', Bool.not_eq_false', Bool.or_eq_true, Bool.and_eq_true, Bool.or_eq_false_iff, Bool.and_eq_false_imp, Option.isNone_some, Bool.false_eq_true, false_or, true_and] at hc10)
              refine WC.skip ?_
              refine EQ.blockN ?_
              refine EQ.code ?_
              refine WC.seq ?_
              refine WC.region ?_
              refine WL.p (.none rfl) rfl (OpP.move rfl) ?_
              refine WL.callD rfl (.none rfl) rfl k_23 rfl (CxD.to (Left_c (x := (x.know o.2.1 ((o.2.2 : Nat) : Int))) (i := 3) rfl (hrel.knew o.2.1 hob1).lo (hrel.knew o.2.1 hob1).hi ⟨(mRight_spec (hrel.knew o.2.1 hob1).right).1, (mRight_spec (hrel.knew o.2.1 hob1).right).2.1⟩) (by rw [(hrel.knew o.2.1 hob1).left]) rfl) ?_
              refine WL.p (.none rfl) rfl (OpP.move rfl) ?_
              refine WL.callD rfl (.none rfl) rfl k_24 rfl (rLeft_c (x := (y.know (wOf o.2.1 o.2.2) (rtOf o.2.1 o.2.2) false)) (i := 1) (j := 2) rfl (by rw [know_ob]; rfl) (hrel.knew o.2.1 hob1).len64) ?_
              refine WL.p (.none rfl) rfl (OpP.neqI rfl rfl) ?_
              refine WL.p (.none rfl) rfl (OpP.move rfl) ?_
              refine WL.g (.bool rfl rfl rfl) rfl (fun hg => OpP.move rfl) ?_
              refine WL.gcall rfl (.bool rfl rfl rfl) rfl k_25 (fun hg => kops1 (gk hg rfl)) (fun hg => CxD.to (State_c (x := (x.know o.2.1 ((o.2.2 : Nat) : Int))) (i := 3) rfl (hrel.knew o.2.1 hob1).lo (hrel.knew o.2.1 hob1).hi) (by rw [(hrel.knew o.2.1 hob1).state]) rfl) ?_
              refine WL.g (.bool rfl rfl rfl) rfl (fun hg => OpP.move rfl) ?_
              refine WL.gcall rfl (.bool rfl rfl rfl) rfl k_26 (fun hg => kops1 (gk hg rfl)) (fun hg => rState_c (x := (y.know (wOf o.2.1 o.2.2) (rtOf o.2.1 o.2.2) false)) (i := 1) (j := 2) rfl (by rw [know_ob]; rfl) (hrel.knew o.2.1 hob1).len64) ?_
              refine WL.g (.bool rfl rfl rfl) rfl (fun hg => OpP.neqI (gk hg rfl) (gk hg rfl)) ?_
              refine WL.p (.none rfl) rfl (OpP.por rfl rfl rfl) ?_
              refine WL.nil ?_
              refine EQ.sub ((Sub.cons (i := 0) rfl (Sub.cons (i := 1) rfl (Sub.cons (i := 2) rfl (Sub.cons (i := 3) rfl (Sub.cons (i := 9) rfl (Sub.cons (i := 11) rfl (Sub.cons (i := 12) rfl (Sub.cons (i := 203) rfl (Sub.nil _)))))))))) ?_
              refine EQ.code ?_
              refine WC.cond rfl (fun hc11 => ?_) (fun hc11 => ?_)
              · -- cond 11 t
                (try simp only [decide_eq_true_eq, decide_eq_false_iff_not, Bool.not_eq_true', Bool.not_eq_false', Bool.or_eq_true, Bool.and_eq_true, Bool.or_eq_false_iff, Bool.and_eq_false_imp, Option.isNone_some, Bool.false_eq_true, false_or, true_and] at hc11)
                exfalso; simp at hc11
              · -- cond 11 f
                (try simp only [decide_eq_true_eq, decide_eq_false_iff_not, Bool.not_eq_true', Bool.not_eq_false', Bool.or_eq_true, Bool.and_eq_true, Bool.or_eq_false_iff, Bool.and_eq_false_imp, Option.isNone_some, Bool.false_eq_true, false_or, true_and] at hc11)
                refine WC.skip ?_
                refine EQ.blockN ?_
                refine EQ.code ?_
                refine WC.region ?_
                refine WL.p (.none rfl) rfl (OpP.move rfl) ?_
                first | (refine WL.p (.none rfl) rfl (OpP.add64 rfl rfl (by omega)) ?_) | (refine WL.p (.none rfl) rfl (OpP.add rfl rfl) ?_)
                refine WL.p (.none rfl) rfl (OpP.assign rfl) ?_
                refine WL.nil ?_
                refine EQ.sub ((Sub.cons (i := 0) rfl (Sub.cons (i := 1) rfl (Sub.cons (i := 2) rfl (Sub.cons (i := 3) rfl (Sub.cons (i := 9) rfl (Sub.cons (i := 11) rfl (Sub.cons (i := 12) rfl (Sub.nil _))))))))) ?_
                refine EQ.again (k + 1, (x.know o.2.1 ((o.2.2 : Nat) : Int)), (y.know (wOf o.2.1 o.2.2) (rtOf o.2.1 o.2.2) false)) ?_ ?_ ?_ ?_
                · exact ⟨by (try simp only); omega, (hrel.knew o.2.1 hob1), hkp.trans (Keeps.know x y _ _ _ _ _)⟩
                · (try simp only); omega
                · exact ((Sub.cons rfl (Sub.cons rfl (Sub.cons rfl (Sub.cons rfl (Sub.cons rfl (Sub.cons rfl (Sub.cons rfl (Sub.nil _)))))))))
                · intro w h
                  have h2 := h.drop
                  show St W0 w ((g2, Rsn.obj (y.know (wOf o.2.1 o.2.2) (rtOf o.2.1 o.2.2) false)) :: (Rsn.hb (y.know (wOf o.2.1 o.2.2) (rtOf o.2.1 o.2.2) false), Rsn.hob (y.know (wOf o.2.1 o.2.2) (rtOf o.2.1 o.2.2) false)) :: (g, Snd.obj (x.know o.2.1 ((o.2.2 : Nat) : Int))) :: (ds ++ H))
                  rw [know_ob]
                  exact h2.sublist (((List.sublist_append_left _ _).cons_cons _).cons_cons _ |>.cons_cons _)
          · -- cond 9 f
            (try simp only [decide_eq_true_eq, decide_eq_false_iff_not, Bool.not_eq_true', Bool.not_eq_false', Bool.or_eq_true, Bool.and_eq_true, Bool.or_eq_false_iff, Bool.and_eq_false_imp, Option.isNone_some, Bool.false_eq_true, false_or, true_and] at hc9)
            refine WC.seq ?_
            refine WC.region ?_
            refine WL.p (.none rfl) rfl (OpP.eqlI rfl rfl) ?_
            refine WL.p (.none rfl) rfl (OpP.assign rfl) ?_
            refine WL.nil ?_
            refine EQ.sub ((Sub.cons (i := 0) rfl (Sub.cons (i := 1) rfl (Sub.cons (i := 2) rfl (Sub.cons (i := 3) rfl (Sub.cons (i := 9) rfl (Sub.cons (i := 11) rfl (Sub.cons (i := 12) rfl (Sub.cons (i := 13) rfl (Sub.cons (i := 17) rfl (Sub.cons (i := 18) rfl (Sub.cons (i := 131) rfl (Sub.cons (i := 174) rfl (Sub.nil _)))))))))))))) ?_
            refine EQ.code ?_
            refine WC.cond rfl (fun hc12 => ?_) (fun hc12 => ?_)
            · -- cond 12 t
              (try simp only [decide_eq_true_eq, decide_eq_false_iff_not, Bool.not_eq_true', Bool.not_eq_false', Bool.or_eq_true, Bool.and_eq_true, Bool.or_eq_false_iff, Bool.and_eq_false_imp, Option.isNone_some, Bool.false_eq_true, false_or, true_and] at hc12)
              refine WC.seq ?_
              refine WC.region ?_
              refine WL.p (.none rfl) rfl (OpP.move rfl) ?_
              refine WL.p (.none rfl) rfl (OpP.fieldAddr rfl fld_40_1) ?_
              refine WL.p (.none rfl) rfl (OpP.loadB rfl ty_38 (by repeat (first | assumption | exact List.mem_cons_self | exact List.mem_of_getElem? (by assumption) | exact set_mem (by first | assumption | exact set_hit (by assumption)) | apply List.mem_cons_of_mem | apply List.mem_append_right)) (by rfl)) ?_
              refine WL.callD rfl (.none rfl) rfl k_20 rfl (CxD.to (Anew2_c (i := 3) rfl (by omega) (by omega)) (by rw [hrel.ask]) rfl) ?_
              refine WL.p (.none rfl) rfl (OpP.move rfl) ?_
              refine WL.p (.none rfl) rfl (OpP.move rfl) ?_
              refine WL.p (.none rfl) rfl (OpP.move rfl) ?_
              refine WL.callD rfl (.none rfl) rfl k_19 rfl (rKnow2_c (i := 1) (j := 2) rfl rfl (by decide) hrel.len64 (wOf_le _ _) (fun o2 => (hw W0 (ds ++ H)).of (fun w h => (h.drop.drop.drop.drop).perm List.perm_append_comm))) ?_
              refine WL.p (.none rfl) rfl (OpP.neqI rfl rfl) ?_
              refine WL.nil ?_
              refine EQ.sub ((Sub.cons (i := 0) rfl (Sub.cons (i := 1) rfl (Sub.cons (i := 2) rfl (Sub.cons (i := 3) rfl (Sub.cons (i := 9) rfl (Sub.cons (i := 11) rfl (Sub.cons (i := 12) rfl (Sub.cons (i := 184) rfl (Sub.nil _)))))))))) ?_
              refine EQ.code ?_
              refine WC.cond rfl (fun hc13 => ?_) (fun hc13 => ?_)
              · -- cond 13 t
                (try simp only [decide_eq_true_eq, decide_eq_false_iff_not, Bool.not_eq_true', Bool.not_eq_false', Bool.or_eq_true, Bool.and_eq_true, Bool.or_eq_false_iff, Bool.and_eq_false_imp, Option.isNone_some, Bool.false_eq_true, false_or, true_and] at hc13)
                exfalso; simp at hc13
              · -- cond 13 f
                (try simp only [decide_eq_true_eq, decide_eq_false_iff_not, Bool.not_eq_true', Bool.not_eq_false', Bool.or_eq_true, Bool.and_eq_true, Bool.or_eq_false_iff, Bool.and_eq_false_imp, Option.isNone_some, Bool.false_eq_true, false_or, true_and] at hc13)
                refine WC.skip ?_
                refine EQ.blockN ?_
                refine EQ.code ?_
                refine WC.seq ?_
                refine WC.region ?_
                refine WL.p (.none rfl) rfl (OpP.move rfl) ?_
                refine WL.callD rfl (.none rfl) rfl k_23 rfl (CxD.to (Left_c (x := (x.anew o.2.1 ((o.2.2 : Nat) : Int))) (i := 3) rfl (hrel.anewed o.2.1 hob1).lo (hrel.anewed o.2.1 hob1).hi ⟨(mRight_spec (hrel.anewed o.2.1 hob1).right).1, (mRight_spec (hrel.anewed o.2.1 hob1).right).2.1⟩) (by rw [(hrel.anewed o.2.1 hob1).left]) rfl) ?_
                refine WL.p (.none rfl) rfl (OpP.move rfl) ?_
                refine WL.callD rfl (.none rfl) rfl k_24 rfl (rLeft_c (x := (y.know (wOf o.2.1 o.2.2) (rtOf o.2.1 o.2.2) true)) (i := 1) (j := 2) rfl (by rw [know_ob]; rfl) (hrel.anewed o.2.1 hob1).len64) ?_
                refine WL.p (.none rfl) rfl (OpP.neqI rfl rfl) ?_
                refine WL.p (.none rfl) rfl (OpP.move rfl) ?_
                refine WL.g (.bool rfl rfl rfl) rfl (fun hg => OpP.move rfl) ?_
                refine WL.gcall rfl (.bool rfl rfl rfl) rfl k_25 (fun hg => kops1 (gk hg rfl)) (fun hg => CxD.to (State_c (x := (x.anew o.2.1 ((o.2.2 : Nat) : Int))) (i := 3) rfl (hrel.anewed o.2.1 hob1).lo (hrel.anewed o.2.1 hob1).hi) (by rw [(hrel.anewed o.2.1 hob1).state]) rfl) ?_
                refine WL.g (.bool rfl rfl rfl) rfl (fun hg => OpP.move rfl) ?_
                refine WL.gcall rfl (.bool rfl rfl rfl) rfl k_26 (fun hg => kops1 (gk hg rfl)) (fun hg => rState_c (x := (y.know (wOf o.2.1 o.2.2) (rtOf o.2.1 o.2.2) true)) (i := 1) (j := 2) rfl (by rw [know_ob]; rfl) (hrel.anewed o.2.1 hob1).len64) ?_
                refine WL.g (.bool rfl rfl rfl) rfl (fun hg => OpP.neqI (gk hg rfl) (gk hg rfl)) ?_
                refine WL.p (.none rfl) rfl (OpP.por rfl rfl rfl) ?_
                refine WL.nil ?_
                refine EQ.sub ((Sub.cons (i := 0) rfl (Sub.cons (i := 1) rfl (Sub.cons (i := 2) rfl (Sub.cons (i := 3) rfl (Sub.cons (i := 9) rfl (Sub.cons (i := 11) rfl (Sub.cons (i := 12) rfl (Sub.cons (i := 203) rfl (Sub.nil _)))))))))) ?_
                refine EQ.code ?_
                refine WC.cond rfl (fun hc14 => ?_) (fun hc14 => ?_)
                · -- cond 14 t
                  (try simp only [decide_eq_true_eq, decide_eq_false_iff_not, Bool.not_eq_true', Bool.not_eq_false', Bool.or_eq_true, Bool.and_eq_true, Bool.or_eq_false_iff, Bool.and_eq_false_imp, Option.isNone_some, Bool.false_eq_true, false_or, true_and] at hc14)
                  exfalso; simp at hc14
                · -- cond 14 f
                  (try simp only [decide_eq_true_eq, decide_eq_false_iff_not, Bool.not_eq_true', Bool.not_eq_false', Bool.or_eq_true, Bool.and_eq_true, Bool.or_eq_false_iff, Bool.and_eq_false_imp, Option.isNone_some, Bool.false_eq_true, false_or, true_and] at hc14)
                  refine WC.skip ?_
                  refine EQ.blockN ?_
                  refine EQ.code ?_
                  refine WC.region ?_
                  refine WL.p (.none rfl) rfl (OpP.move rfl) ?_
                  first | (refine WL.p (.none rfl) rfl (OpP.add64 rfl rfl (by omega)) ?_) | (refine WL.p (.none rfl) rfl (OpP.add rfl rfl) ?_)
                  refine WL.p (.none rfl) rfl (OpP.assign rfl) ?_
                  refine WL.nil ?_
                  refine EQ.sub ((Sub.cons (i := 0) rfl (Sub.cons (i := 1) rfl (Sub.cons (i := 2) rfl (Sub.cons (i := 3) rfl (Sub.cons (i := 9) rfl (Sub.cons (i := 11) rfl (Sub.cons (i := 12) rfl (Sub.nil _))))))))) ?_
                  refine EQ.again (k + 1, (x.anew o.2.1 ((o.2.2 : Nat) : Int)), (y.know (wOf o.2.1 o.2.2) (rtOf o.2.1 o.2.2) true)) ?_ ?_ ?_ ?_
                  · exact ⟨by (try simp only); omega, (hrel.anewed o.2.1 hob1), hkp.trans (Keeps.anew x y _ _ _ _ _)⟩
                  · (try simp only); omega
                  · exact ((Sub.cons rfl (Sub.cons rfl (Sub.cons rfl (Sub.cons rfl (Sub.cons rfl (Sub.cons rfl (Sub.cons rfl (Sub.nil _)))))))))
                  · intro w h
                    have h2 := h.drop
                    show St W0 w ((g2, Rsn.obj (y.know (wOf o.2.1 o.2.2) (rtOf o.2.1 o.2.2) true)) :: (Rsn.hb (y.know (wOf o.2.1 o.2.2) (rtOf o.2.1 o.2.2) true), Rsn.hob (y.know (wOf o.2.1 o.2.2) (rtOf o.2.1 o.2.2) true)) :: (g, Snd.obj (x.anew o.2.1 ((o.2.2 : Nat) : Int))) :: (ds ++ H))
                    rw [know_ob]
                    exact h2.sublist (((List.sublist_append_left _ _).cons_cons _).cons_cons _ |>.cons_cons _)
            · -- cond 12 f
              (try simp only [decide_eq_true_eq, decide_eq_false_iff_not, Bool.not_eq_true', Bool.not_eq_false', Bool.or_eq_true, Bool.and_eq_true, Bool.or_eq_false_iff, Bool.and_eq_false_imp, Option.isNone_some, Bool.false_eq_true, false_or, true_and] at hc12)
              refine WC.seq ?_
              refine WC.region ?_
              refine WL.p (.none rfl) rfl (OpP.eqlI rfl rfl) ?_
              refine WL.p (.none rfl) rfl (OpP.assign rfl) ?_
              refine WL.nil ?_
              refine EQ.sub ((Sub.cons (i := 0) rfl (Sub.cons (i := 1) rfl (Sub.cons (i := 2) rfl (Sub.cons (i := 3) rfl (Sub.cons (i := 9) rfl (Sub.cons (i := 11) rfl (Sub.cons (i := 12) rfl (Sub.cons (i := 185) rfl (Sub.nil _)))))))))) ?_
              refine EQ.code ?_
              refine WC.cond rfl (fun hc15 => ?_) (fun hc15 => ?_)
              · -- cond 15 t
                (try simp only [decide_eq_true_eq, decide_eq_false_iff_not, Bool.not_eq_true', Bool.not_eq_false', Bool.or_eq_true, Bool.and_eq_true, Bool.or_eq_false_iff, Bool.and_eq_false_imp, Option.isNone_some, Bool.false_eq_true, false_or, true_and] at hc15)
                refine WC.seq ?_
                refine WC.region ?_
                refine WL.p (.none rfl) rfl (OpP.move rfl) ?_
                refine WL.callD rfl (.none rfl) rfl k_21 rfl (CxD.to (Cancel2_c (i := 3) rfl hrel.lo hrel.hi hrel.made) (by rw [hrel.state]) rfl) ?_
                refine WL.p (.none rfl) rfl (OpP.move rfl) ?_
                refine WL.callD rfl (.none rfl) rfl k_22 rfl (rCancel2_c (i := 1) (j := 2) rfl rfl hrel.len64) ?_
                refine WL.p (.none rfl) rfl (OpP.neqI rfl rfl) ?_
                refine WL.nil ?_
                refine EQ.sub ((Sub.cons (i := 0) rfl (Sub.cons (i := 1) rfl (Sub.cons (i := 2) rfl (Sub.cons (i := 3) rfl (Sub.cons (i := 9) rfl (Sub.cons (i := 11) rfl (Sub.cons (i := 12) rfl (Sub.cons (i := 191) rfl (Sub.nil _)))))))))) ?_
                refine EQ.code ?_
                refine WC.cond rfl (fun hc16 => ?_) (fun hc16 => ?_)
                · -- cond 16 t
                  (try simp only [decide_eq_true_eq, decide_eq_false_iff_not, Bool.not_eq_true', Bool.not_eq_false', Bool.or_eq_true, Bool.and_eq_true, Bool.or_eq_false_iff, Bool.and_eq_false_imp, Option.isNone_some, Bool.false_eq_true, false_or, true_and] at hc16)
                  exfalso; simp at hc16
                · -- cond 16 f
                  (try simp only [decide_eq_true_eq, decide_eq_false_iff_not, Bool.not_eq_true', Bool.not_eq_false', Bool.or_eq_true, Bool.and_eq_true, Bool.or_eq_false_iff, Bool.and_eq_false_imp, Option.isNone_some, Bool.false_eq_true, false_or, true_and] at hc16)
                  refine WC.skip ?_
                  refine EQ.blockN ?_
                  refine EQ.code ?_
                  refine WC.seq ?_
                  refine WC.region ?_
                  refine WL.p (.none rfl) rfl (OpP.move rfl) ?_
                  refine WL.callD rfl (.none rfl) rfl k_23 rfl (CxD.to (Left_c (x := x.cancel) (i := 3) rfl hrel.cancelled.lo hrel.cancelled.hi ⟨(mRight_spec hrel.cancelled.right).1, (mRight_spec hrel.cancelled.right).2.1⟩) (by rw [hrel.cancelled.left]) rfl) ?_
                  refine WL.p (.none rfl) rfl (OpP.move rfl) ?_
                  refine WL.callD rfl (.none rfl) rfl k_24 rfl (rLeft_c (x := y.cancel) (i := 1) (j := 2) rfl (by rw [(cancel_ob y).1, (cancel_ob y).2]; rfl) hrel.cancelled.len64) ?_
                  refine WL.p (.none rfl) rfl (OpP.neqI rfl rfl) ?_
                  refine WL.p (.none rfl) rfl (OpP.move rfl) ?_
                  refine WL.g (.bool rfl rfl rfl) rfl (fun hg => OpP.move rfl) ?_
                  refine WL.gcall rfl (.bool rfl rfl rfl) rfl k_25 (fun hg => kops1 (gk hg rfl)) (fun hg => CxD.to (State_c (x := x.cancel) (i := 3) rfl hrel.cancelled.lo hrel.cancelled.hi) (by rw [hrel.cancelled.state]) rfl) ?_
                  refine WL.g (.bool rfl rfl rfl) rfl (fun hg => OpP.move rfl) ?_
                  refine WL.gcall rfl (.bool rfl rfl rfl) rfl k_26 (fun hg => kops1 (gk hg rfl)) (fun hg => rState_c (x := y.cancel) (i := 1) (j := 2) rfl (by rw [(cancel_ob y).1, (cancel_ob y).2]; rfl) hrel.cancelled.len64) ?_
                  refine WL.g (.bool rfl rfl rfl) rfl (fun hg => OpP.neqI (gk hg rfl) (gk hg rfl)) ?_
                  refine WL.p (.none rfl) rfl (OpP.por rfl rfl rfl) ?_
                  refine WL.nil ?_
                  refine EQ.sub ((Sub.cons (i := 0) rfl (Sub.cons (i := 1) rfl (Sub.cons (i := 2) rfl (Sub.cons (i := 3) rfl (Sub.cons (i := 9) rfl (Sub.cons (i := 11) rfl (Sub.cons (i := 12) rfl (Sub.cons (i := 203) rfl (Sub.nil _)))))))))) ?_
                  refine EQ.code ?_
                  refine WC.cond rfl (fun hc17 => ?_) (fun hc17 => ?_)
                  · -- cond 17 t
                    (try simp only [decide_eq_true_eq, decide_eq_false_iff_not, Bool.not_eq_true', Bool.not_eq_false', Bool.or_eq_true, Bool.and_eq_true, Bool.or_eq_false_iff, Bool.and_eq_false_imp, Option.isNone_some, Bool.false_eq_true, false_or, true_and] at hc17)
                    exfalso; simp at hc17
                  · -- cond 17 f
                    (try simp only [decide_eq_true_eq, decide_eq_false_iff_not, Bool.not_eq_true', Bool.not_eq_false', Bool.or_eq_true, Bool.and_eq_true, Bool.or_eq_false_iff, Bool.and_eq_false_imp, Option.isNone_some, Bool.false_eq_true, false_or, true_and] at hc17)
                    refine WC.skip ?_
                    refine EQ.blockN ?_
                    refine EQ.code ?_
                    refine WC.region ?_
                    refine WL.p (.none rfl) rfl (OpP.move rfl) ?_
                    first | (refine WL.p (.none rfl) rfl (OpP.add64 rfl rfl (by omega)) ?_) | (refine WL.p (.none rfl) rfl (OpP.add rfl rfl) ?_)
                    refine WL.p (.none rfl) rfl (OpP.assign rfl) ?_
                    refine WL.nil ?_
                    refine EQ.sub ((Sub.cons (i := 0) rfl (Sub.cons (i := 1) rfl (Sub.cons (i := 2) rfl (Sub.cons (i := 3) rfl (Sub.cons (i := 9) rfl (Sub.cons (i := 11) rfl (Sub.cons (i := 12) rfl (Sub.nil _))))))))) ?_
                    refine EQ.again (k + 1, x.cancel, y.cancel) ?_ ?_ ?_ ?_
                    · exact ⟨by (try simp only); omega, hrel.cancelled, hkp.trans (Keeps.cancel x y)⟩
                    · (try simp only); omega
                    · exact ((Sub.cons rfl (Sub.cons rfl (Sub.cons rfl (Sub.cons rfl (Sub.cons rfl (Sub.cons rfl (Sub.cons rfl (Sub.nil _)))))))))
                    · intro w h
                      have h2 := h.drop
                      show St W0 w ((g2, Rsn.obj y.cancel) :: (Rsn.hb y.cancel, Rsn.hob y.cancel) :: (g, Snd.obj x.cancel) :: (ds ++ H))
                      rw [(cancel_ob y).1, (cancel_ob y).2]
                      exact h2.sublist (((List.sublist_append_left _ _).cons_cons _).cons_cons _ |>.cons_cons _)
              · -- cond 15 f
                (try simp only [decide_eq_true_eq, decide_eq_false_iff_not, Bool.not_eq_true', Bool.not_eq_false', Bool.or_eq_true, Bool.and_eq_true, Bool.or_eq_false_iff, Bool.and_eq_false_imp, Option.isNone_some, Bool.false_eq_true, false_or, true_and] at hc15)
                refine WC.skip ?_
                refine EQ.blockN ?_
                refine EQ.code ?_
                refine WC.seq ?_
                refine WC.region ?_
                refine WL.p (.none rfl) rfl (OpP.move rfl) ?_
                refine WL.callD rfl (.none rfl) rfl k_23 rfl (CxD.to (Left_c (x := x) (i := 3) rfl hrel.lo hrel.hi ⟨(mRight_spec hrel.right).1, (mRight_spec hrel.right).2.1⟩) (by rw [hrel.left]) rfl) ?_
                refine WL.p (.none rfl) rfl (OpP.move rfl) ?_
                refine WL.callD rfl (.none rfl) rfl k_24 rfl (rLeft_c (x := y) (i := 1) (j := 2) rfl rfl hrel.len64) ?_
                refine WL.p (.none rfl) rfl (OpP.neqI rfl rfl) ?_
                refine WL.p (.none rfl) rfl (OpP.move rfl) ?_
                refine WL.g (.bool rfl rfl rfl) rfl (fun hg => OpP.move rfl) ?_
                refine WL.gcall rfl (.bool rfl rfl rfl) rfl k_25 (fun hg => kops1 (gk hg rfl)) (fun hg => CxD.to (State_c (x := x) (i := 3) rfl hrel.lo hrel.hi) (by rw [hrel.state]) rfl) ?_
                refine WL.g (.bool rfl rfl rfl) rfl (fun hg => OpP.move rfl) ?_
                refine WL.gcall rfl (.bool rfl rfl rfl) rfl k_26 (fun hg => kops1 (gk hg rfl)) (fun hg => rState_c (x := y) (i := 1) (j := 2) rfl rfl hrel.len64) ?_
                refine WL.g (.bool rfl rfl rfl) rfl (fun hg => OpP.neqI (gk hg rfl) (gk hg rfl)) ?_
                refine WL.p (.none rfl) rfl (OpP.por rfl rfl rfl) ?_
                refine WL.nil ?_
                refine EQ.sub ((Sub.cons (i := 0) rfl (Sub.cons (i := 1) rfl (Sub.cons (i := 2) rfl (Sub.cons (i := 3) rfl (Sub.cons (i := 9) rfl (Sub.cons (i := 11) rfl (Sub.cons (i := 12) rfl (Sub.cons (i := 203) rfl (Sub.nil _)))))))))) ?_
                refine EQ.code ?_
                refine WC.cond rfl (fun hc18 => ?_) (fun hc18 => ?_)
                · -- cond 18 t
                  (try simp only [decide_eq_true_eq, decide_eq_false_iff_not, Bool.not_eq_true', Bool.not_eq_false', Bool.or_eq_true, Bool.and_eq_true, Bool.or_eq_false_iff, Bool.and_eq_false_imp, Option.isNone_some, Bool.false_eq_true, false_or, true_and] at hc18)
                  exfalso; simp at hc18
                · -- cond 18 f
                  (try simp only [decide_eq_true_eq, decide_eq_false_iff_not, Bool.not_eq_true', Bool.not_eq_false', Bool.or_eq_true, Bool.and_eq_true, Bool.or_eq_false_iff, Bool.and_eq_false_imp, Option.isNone_some, Bool.false_eq_true, false_or, true_and] at hc18)
                  refine WC.skip ?_
                  refine EQ.blockN ?_
                  refine EQ.code ?_
                  refine WC.region ?_
                  refine WL.p (.none rfl) rfl (OpP.move rfl) ?_
                  first | (refine WL.p (.none rfl) rfl (OpP.add64 rfl rfl (by omega)) ?_) | (refine WL.p (.none rfl) rfl (OpP.add rfl rfl) ?_)
                  refine WL.p (.none rfl) rfl (OpP.assign rfl) ?_
                  refine WL.nil ?_
                  refine EQ.sub ((Sub.cons (i := 0) rfl (Sub.cons (i := 1) rfl (Sub.cons (i := 2) rfl (Sub.cons (i := 3) rfl (Sub.cons (i := 9) rfl (Sub.cons (i := 11) rfl (Sub.cons (i := 12) rfl (Sub.nil _))))))))) ?_
                  refine EQ.again (k + 1, x, y) ?_ ?_ ?_ ?_
                  · exact ⟨by (try simp only); omega, hrel, hkp.trans (Keeps.refl x y)⟩
                  · (try simp only); omega
                  · exact ((Sub.cons rfl (Sub.cons rfl (Sub.cons rfl (Sub.cons rfl (Sub.cons rfl (Sub.cons rfl (Sub.cons rfl (Sub.nil _)))))))))
                  · intro w h
                    have h2 := h.drop
                    show St W0 w ((g2, Rsn.obj y) :: (Rsn.hb y, Rsn.hob y) :: (g, Snd.obj x) :: (ds ++ H))
                    skip
                    exact h2.sublist (((List.sublist_append_left _ _).cons_cons _).cons_cons _ |>.cons_cons _)
    · -- cond 3 f
      (try simp only [decide_eq_true_eq, decide_eq_false_iff_not, Bool.not_eq_true', Bool.not_eq_false', Bool.or_eq_true, Bool.and_eq_true, Bool.or_eq_false_iff, Bool.and_eq_false_imp, Option.isNone_some, Bool.false_eq_true, false_or, true_and] at hc3)
      refine WC.exit ?_
      refine EQ.thenE ?_
      refine EQ.thenE ?_
      refine EQ.blockHit ?_
      refine EQ.code ?_
      refine WC.seq ?_
      refine WC.region ?_
      refine WL.p (.none rfl) rfl (OpP.move rfl) ?_
      refine WL.callD rfl (.none rfl) rfl k_27 rfl (CxD.to (Info_c (x := x) (i := 2) rfl) (show infoV x.id x.name x.size x.sum = infoV id nm m (sumF l) by rw [eid, enm, esz, esum]) rfl) ?_
      refine WL.allocX z_34 rfl (fun b22 => ?_)
      first | (refine WL.s (.none rfl) rfl (OpS.storeAll rfl rfl ty_34 (by repeat (first | assumption | exact at0 | exact set_hit (by first | assumption | exact set_hit (by assumption)) | apply ats)) (by rfl) (by rfl) (by rfl) (by rfl)) ?_) | (refine WL.s (.none rfl) rfl (OpS.store rfl rfl ty_34 (by repeat (first | assumption | exact at0 | exact set_hit (by first | assumption | exact set_hit (by assumption)) | apply ats)) (by rfl) (by rfl) (by rfl) (by rfl)) ?_)
      refine WL.nil ?_
      refine EQ.sub ((Sub.cons (i := 0) rfl (Sub.cons (i := 1) rfl (Sub.cons (i := 2) rfl (Sub.cons (i := 22) rfl (Sub.nil _)))))) ?_
      refine EQ.code ?_
      refine WC.seq ?_
      refine WC.region ?_
      refine WL.p (.none rfl) rfl (OpP.assign rfl) ?_
      refine WL.nil ?_
      refine EQ.sub ((Sub.cons (i := 0) rfl (Sub.cons (i := 1) rfl (Sub.cons (i := 2) rfl (Sub.cons (i := 22) rfl (Sub.cons (i := 23) rfl (Sub.nil _))))))) ?_
      refine EQ.code ?_
      refine WC.seq ?_
      refine WC.region ?_
      refine WL.allocX z_57 rfl (fun b24 => ?_)
      refine WL.nil ?_
      refine EQ.sub ((Sub.cons (i := 0) rfl (Sub.cons (i := 1) rfl (Sub.cons (i := 2) rfl (Sub.cons (i := 22) rfl (Sub.cons (i := 23) rfl (Sub.cons (i := 24) rfl (Sub.nil _)))))))) ?_
      refine EQ.code ?_
      refine WC.seq ?_
      refine WC.region ?_
      refine WL.p (.none rfl) rfl (OpP.move rfl) ?_
      refine WL.callD rfl (.none rfl) rfl k_17 rfl (Next_nil) ?_
      refine WL.p (.none rfl) rfl (OpP.move rfl) ?_
      refine WL.p (.none rfl) rfl (OpP.extract rfl rfl) ?_
      refine WL.p (.none rfl) rfl (OpP.extract rfl rfl) ?_
      refine WL.p (.none rfl) rfl (OpP.extract rfl rfl) ?_
      refine WL.p (.none rfl) rfl (OpP.assign rfl) ?_
      refine WL.p (.none rfl) rfl (OpP.assign rfl) ?_
      refine WL.p (.none rfl) rfl (OpP.assign rfl) ?_
      refine WL.nil ?_
      refine EQ.sub ((Sub.cons (i := 0) rfl (Sub.cons (i := 1) rfl (Sub.cons (i := 2) rfl (Sub.cons (i := 22) rfl (Sub.cons (i := 23) rfl (Sub.cons (i := 24) rfl (Sub.cons (i := 27) rfl (Sub.nil _))))))))) ?_
      refine EQ.code ?_
      refine WC.seq ?_
      refine WC.region ?_
      refine WL.callD rfl (.none rfl) rfl k_12 rfl (PeekZ_c (i := 0) rfl) ?_
      refine WL.p (.none rfl) rfl (OpP.move rfl) ?_
      refine WL.p (.none rfl) rfl (OpP.extract rfl rfl) ?_
      refine WL.p (.none rfl) rfl (OpP.extract rfl rfl) ?_
      refine WL.p (.none rfl) rfl (OpP.assign rfl) ?_
      refine WL.p (.none rfl) rfl (OpP.assign rfl) ?_
      refine WL.nil ?_
      refine EQ.sub ((Sub.cons (i := 0) rfl (Sub.cons (i := 1) rfl (Sub.cons (i := 2) rfl (Sub.cons (i := 22) rfl (Sub.cons (i := 23) rfl (Sub.cons (i := 24) rfl (Sub.cons (i := 27) rfl (Sub.cons (i := 29) rfl (Sub.nil _)))))))))) ?_
      refine EQ.code ?_
      refine WC.seq ?_
      refine WC.mix (by kernel_rfl) ?_
      refine AJ.one 0 rfl (by kernel_rfl) (by intro _ h; first | exact h | exact h.drop | exact h.drop.drop | exact h.sublist (List.sublist_append_right _ _) | exact h.drop.sublist (List.sublist_append_right _ _)) ?_
      refine WL.callD rfl (.none rfl) rfl k_8 rfl (alive_c) ?_
      refine WL.nil ?_
      refine EQ.an ?_
      refine AJ.p (i := 1) rfl (by kernel_rfl) (.none rfl) rfl (OpP.move rfl) ?_
      refine AJ.p (i := 2) rfl (by kernel_rfl) (.yes rfl rfl rfl) rfl (OpP.loadW rfl ty_34 (List.mem_cons_of_mem _ List.mem_cons_self) rfl) ?_
      refine AJ.p (i := 3) rfl (by kernel_rfl) (.yes rfl rfl rfl) rfl (OpP.move rfl) ?_
      refine AJ.p (i := 4) rfl (by kernel_rfl) (.yes rfl rfl rfl) rfl (OpP.move rfl) ?_
      refine AJ.p (i := 5) rfl (by kernel_rfl) (.yes rfl rfl rfl) rfl (OpP.move rfl) ?_
      refine AJ.p (i := 6) rfl (by kernel_rfl) (.yes rfl rfl rfl) rfl (OpP.lenSl rfl Try.underlying23) ?_
      refine AJ.p (i := 7) rfl (by kernel_rfl) (.yes rfl rfl rfl) rfl (OpP.move rfl) ?_
      refine AJ.one 8 rfl (by kernel_rfl) (by intro _ h; first | exact h | exact h.drop | exact h.drop.drop | exact h.sublist (List.sublist_append_right _ _) | exact h.drop.sublist (List.sublist_append_right _ _)) ?_
      refine WL.unguard (.yes rfl rfl rfl) ?_
      refine WL.buildSlice1 sl_87 rfl rfl (by decide) rfl rfl (by rfl) (fun b224 => ?_)
      refine WL.nil ?_
      refine EQ.an ?_
      refine AJ.one 9 rfl (by kernel_rfl) (by intro _ h; first | exact h | exact h.drop | exact h.drop.drop | exact h.sublist (List.sublist_append_right _ _) | exact h.drop.sublist (List.sublist_append_right _ _)) ?_
      refine WL.callD rfl (.yes rfl rfl rfl) rfl k_28 rfl (Of_c hl (by omega) hc (hsl _) (Sl.own List.mem_cons_self (fun j x hj => by simpa using hj))) ?_
      refine WL.nil ?_
      refine EQ.an ?_
      generalize sumF l = F
      refine AJ.p (i := 10) rfl (by kernel_rfl) (.yes rfl rfl rfl) rfl (OpP.buildS (l := .int .u64 id :: .string nm :: .int .i64 m :: sumL F) bld_34 (kI rfl (kI rfl (kI rfl (kI rfl kI0)))) (by kernel_rfl)) ?_
      refine AJ.p (i := 11) rfl (by kernel_rfl) (.yes rfl rfl rfl) rfl (OpP.eqlSelf (xs := .int .u64 id :: .string nm :: .int .i64 m :: sumL F) (D := 3) rfl rfl flat34 ty_34 (by kernel_rfl) rfl (by rfl)) ?_
      refine AJ.p (i := 12) rfl (by kernel_rfl) (.none rfl) rfl (OpP.pand rfl rfl rfl) ?_
      refine AJ.p (i := 13) rfl (by kernel_rfl) (.none rfl) rfl (OpP.move rfl) ?_
      refine AJ.p (i := 14) rfl (by kernel_rfl) (.yes rfl rfl rfl) rfl (OpP.move rfl) ?_
      refine AJ.p (i := 15) rfl (by kernel_rfl) (.yes rfl rfl rfl) rfl (OpP.not rfl) ?_
      refine AJ.p (i := 16) rfl (by kernel_rfl) (.none rfl) rfl (OpP.pand rfl rfl rfl) ?_
      refine AJ.p (i := 17) rfl (by kernel_rfl) (.none rfl) rfl (OpP.move rfl) ?_
      refine AJ.p (i := 18) rfl (by kernel_rfl) (.yes rfl rfl rfl) rfl (OpP.move rfl) ?_
      refine AJ.p (i := 19) rfl (by kernel_rfl) (.yes rfl rfl rfl) rfl (OpP.not rfl) ?_
      refine AJ.p (i := 20) rfl (by kernel_rfl) (.none rfl) rfl (OpP.pand rfl rfl rfl) ?_
      refine AJ.p (i := 21) rfl (by kernel_rfl) (.none rfl) rfl (OpP.move rfl) ?_
      refine AJ.p (i := 22) rfl (by kernel_rfl) (.yes rfl rfl rfl) rfl (OpP.move rfl) ?_
      refine AJ.p (i := 23) rfl (by kernel_rfl) (.yes rfl rfl rfl) rfl (OpP.buildS bld_38 kI0 (by rfl)) ?_
      refine AJ.one 24 rfl (by kernel_rfl) (by intro _ h; first | exact h | exact h.drop | exact h.drop.drop | exact h.sublist (List.sublist_append_right _ _) | exact h.drop.sublist (List.sublist_append_right _ _)) ?_
      refine WL.callD rfl (.yes rfl rfl rfl) rfl k_18 rfl (Know_nil) ?_
      refine WL.nil ?_
      refine EQ.an ?_
      refine AJ.p (i := 25) rfl (by kernel_rfl) (.yes rfl rfl rfl) rfl (OpP.eqlI rfl rfl) ?_
      refine AJ.p (i := 26) rfl (by kernel_rfl) (.none rfl) rfl (OpP.pand rfl rfl rfl) ?_
      refine AJ.p (i := 27) rfl (by kernel_rfl) (.none rfl) rfl (OpP.move rfl) ?_
      refine AJ.p (i := 28) rfl (by kernel_rfl) (.yes rfl rfl rfl) rfl (OpP.buildS bld_38 kI0 (by rfl)) ?_
      refine AJ.one 29 rfl (by kernel_rfl) (by intro _ h; first | exact h | exact h.drop | exact h.drop.drop | exact h.sublist (List.sublist_append_right _ _) | exact h.drop.sublist (List.sublist_append_right _ _)) ?_
      refine WL.callD rfl (.yes rfl rfl rfl) rfl k_20 rfl (AnewZ_c (i := 1) rfl) ?_
      refine WL.nil ?_
      refine EQ.an ?_
      refine AJ.p (i := 30) rfl (by kernel_rfl) (.yes rfl rfl rfl) rfl (OpP.eqlI rfl rfl) ?_
      refine AJ.p (i := 31) rfl (by kernel_rfl) (.none rfl) rfl (OpP.pand rfl rfl rfl) ?_
      refine AJ.p (i := 32) rfl (by kernel_rfl) (.none rfl) rfl (OpP.move rfl) ?_
      refine AJ.p (i := 33) rfl (by kernel_rfl) (.yes rfl rfl rfl) rfl (OpP.move rfl) ?_
      refine AJ.one 34 rfl (by kernel_rfl) (by intro _ h; first | exact h | exact h.drop | exact h.drop.drop | exact h.sublist (List.sublist_append_right _ _) | exact h.drop.sublist (List.sublist_append_right _ _)) ?_
      refine WL.callD rfl (.yes rfl rfl rfl) rfl k_21 rfl (Cancel_nil) ?_
      refine WL.nil ?_
      refine EQ.an ?_
      refine AJ.p (i := 35) rfl (by kernel_rfl) (.yes rfl rfl rfl) rfl (OpP.eqlI rfl rfl) ?_
      refine AJ.p (i := 36) rfl (by kernel_rfl) (.none rfl) rfl (OpP.pand rfl rfl rfl) ?_
      refine AJ.p (i := 37) rfl (by kernel_rfl) (.none rfl) rfl (OpP.move rfl) ?_
      refine AJ.p (i := 38) rfl (by kernel_rfl) (.yes rfl rfl rfl) rfl (OpP.move rfl) ?_
      refine AJ.p (i := 40) rfl (by kernel_rfl) (.yes rfl rfl rfl) rfl (OpP.move rfl) ?_
      refine AJ.one 39 rfl (by kernel_rfl) (by intro _ h; first | exact h | exact h.drop | exact h.drop.drop | exact h.sublist (List.sublist_append_right _ _) | exact h.drop.sublist (List.sublist_append_right _ _)) ?_
      refine WL.callD rfl (.yes rfl rfl rfl) rfl k_23 rfl (Left_nil) ?_
      refine WL.nil ?_
      refine EQ.an ?_
      refine AJ.one 41 rfl (by kernel_rfl) (by intro _ h; first | exact h | exact h.drop | exact h.drop.drop | exact h.sublist (List.sublist_append_right _ _) | exact h.drop.sublist (List.sublist_append_right _ _)) ?_
      refine WL.callD rfl (.yes rfl rfl rfl) rfl k_25 rfl (State_nil) ?_
      refine WL.nil ?_
      refine EQ.an ?_
      first | (refine AJ.p (i := 42) rfl (by kernel_rfl) (.yes rfl rfl rfl) rfl (OpP.add64 rfl rfl (by omega)) ?_) | (refine AJ.p (i := 42) rfl (by kernel_rfl) (.yes rfl rfl rfl) rfl (OpP.add rfl rfl) ?_)
      refine AJ.one 43 rfl (by kernel_rfl) (by intro _ h; first | exact h | exact h.drop | exact h.drop.drop | exact h.sublist (List.sublist_append_right _ _) | exact h.drop.sublist (List.sublist_append_right _ _)) ?_
      refine WL.callD rfl (.yes rfl rfl rfl) rfl k_25 rfl (StateZ_c (i := 1) rfl) ?_
      refine WL.nil ?_
      refine EQ.an ?_
      first | (refine AJ.p (i := 44) rfl (by kernel_rfl) (.yes rfl rfl rfl) rfl (OpP.add64 rfl rfl (by omega)) ?_) | (refine AJ.p (i := 44) rfl (by kernel_rfl) (.yes rfl rfl rfl) rfl (OpP.add rfl rfl) ?_)
      refine AJ.p (i := 45) rfl (by kernel_rfl) (.yes rfl rfl rfl) rfl (OpP.eqlI rfl rfl) ?_
      refine AJ.p (i := 46) rfl (by kernel_rfl) (.none rfl) rfl (OpP.pand rfl rfl rfl) ?_
      refine AJ.p (i := 47) rfl (by kernel_rfl) (.none rfl) rfl (OpP.assign rfl) ?_
      refine AJ.done (by kernel_rfl) (by intro _ h; first | exact h | exact h.drop | exact h.drop.drop | exact h.sublist (List.sublist_append_right _ _) | exact h.drop.sublist (List.sublist_append_right _ _)) ?_
      refine EQ.sub ((Sub.cons (i := 8) rfl (Sub.nil _))) ?_
      refine EQ.code ?_
      refine WC.ret ?_
      refine EQ.finD (H' := H) (res1 rfl (.tmp rfl)) (by intro _ h; first | exact h | exact h.sublist (by repeat (first | exact List.sublist_append_right _ _ | apply List.Sublist.cons))) ?_
      exact ⟨rfl, rfl⟩

end Go.Proofs.Ytmeimjpjelmchaa
