/- Sk: walks of functions of the program, each over the rules of Sx. No conditions but those in the theorems' heads. -/
import Derived.Test.YtmeimjpjelmchaaSa
import Derived.Test.YtmeimjpjelmchaaProg
set_option linter.unusedVariables false
set_option linter.unusedSimpArgs false
namespace Go.Proofs.Ytmeimjpjelmchaa
open Go.RowKit Go.Sx
namespace Sk
theorem bld_34 : bldS Try.prog 34 = some ([(0, 1), (1, 1), (2, 1), (3, 32)], [.int .u64 0, .string ⟨#[]⟩, .int .i64 0, .int .u8 0, .int .u8 0, .int .u8 0, .int .u8 0, .int .u8 0, .int .u8 0, .int .u8 0, .int .u8 0, .int .u8 0, .int .u8 0, .int .u8 0, .int .u8 0, .int .u8 0, .int .u8 0, .int .u8 0, .int .u8 0, .int .u8 0, .int .u8 0, .int .u8 0, .int .u8 0, .int .u8 0, .int .u8 0, .int .u8 0, .int .u8 0, .int .u8 0, .int .u8 0, .int .u8 0, .int .u8 0, .int .u8 0, .int .u8 0, .int .u8 0, .int .u8 0]) := by kernel_rfl
theorem el_23 : elI Try.prog 23 = some (none, 5, false, 1) := by kernel_rfl
theorem fld_38_0 : fldI Try.prog 38 0 = some (0, false, 1) := by kernel_rfl
theorem k_10 : Cal Try.prog 10 := ⟨_, _, Try.func10, by kernel_rfl, rfl⟩
theorem k_28 : Cal Try.prog 28 := ⟨_, _, Try.func28, by kernel_rfl, rfl⟩
theorem k_30 : Cal Try.prog 30 := ⟨_, _, Try.func30, by kernel_rfl, rfl⟩
theorem k_34 : Cal Try.prog 34 := ⟨_, _, Try.func34, by kernel_rfl, rfl⟩
theorem k_35 : Cal Try.prog 35 := ⟨_, _, Try.func35, by kernel_rfl, rfl⟩
theorem k_37 : Cal Try.prog 37 := ⟨_, _, Try.func37, by kernel_rfl, rfl⟩
theorem k_38 : Cal Try.prog 38 := ⟨_, _, Try.func38, by kernel_rfl, rfl⟩
theorem k_39 : Cal Try.prog 39 := ⟨_, _, Try.func39, by kernel_rfl, rfl⟩
theorem k_40 : Cal Try.prog 40 := ⟨_, _, Try.func40, by kernel_rfl, rfl⟩
theorem k_41 : Cal Try.prog 41 := ⟨_, _, Try.func41, by kernel_rfl, rfl⟩
theorem k_42 : Cal Try.prog 42 := ⟨_, _, Try.func42, by kernel_rfl, rfl⟩
theorem k_43 : Cal Try.prog 43 := ⟨_, _, Try.func43, by kernel_rfl, rfl⟩
theorem k_44 : Cal Try.prog 44 := ⟨_, _, Try.func44, by kernel_rfl, rfl⟩
theorem sl_23 : slI Try.prog 23 = some (5, 1, 1) := by kernel_rfl
theorem sl_87 : slI Try.prog 87 = some (23, 1, 24) := by kernel_rfl
theorem ty_3 : tyI Try.prog 3 = some (false, 1) := by kernel_rfl
theorem ty_34 : tyI Try.prog 34 = some (true, 35) := by kernel_rfl
theorem ty_38 : tyI Try.prog 38 = some (true, 2) := by kernel_rfl
theorem ty_5 : tyI Try.prog 5 = some (false, 1) := by kernel_rfl
theorem z_34 : zI Try.prog 34 = some [.int .u64 0, .string ⟨#[]⟩, .int .i64 0, .int .u8 0, .int .u8 0, .int .u8 0, .int .u8 0, .int .u8 0, .int .u8 0, .int .u8 0, .int .u8 0, .int .u8 0, .int .u8 0, .int .u8 0, .int .u8 0, .int .u8 0, .int .u8 0, .int .u8 0, .int .u8 0, .int .u8 0, .int .u8 0, .int .u8 0, .int .u8 0, .int .u8 0, .int .u8 0, .int .u8 0, .int .u8 0, .int .u8 0, .int .u8 0, .int .u8 0, .int .u8 0, .int .u8 0, .int .u8 0, .int .u8 0, .int .u8 0] := by kernel_rfl
theorem z_38 : zI Try.prog 38 = some [.int .i64 0, .int .u64 0] := by kernel_rfl
end Sk
open Sk

theorem dmg_other {F : FileM} {i : Int} {j b : Nat} {c : Ch} (h : F.look i = some c) {q : Int} (hq : q ≠ i) : (F.dmg i j b).snd q = F.snd q := by
  unfold FileM.snd; rw [look_dmg h, if_neg hq]
theorem dmg_keeps (F : FileM) (i : Int) (j b : Nat) : (F.dmg i j b).id = F.id ∧ (F.dmg i j b).size = F.size ∧ (F.dmg i j b).sum = F.sum := by
  unfold FileM.dmg; split <;> exact ⟨rfl, rfl, rfl⟩
/-- Behind a damage and another writing all is right again. -/
theorem Good.mend {F : FileM} {b : List Int} (h : Good F b) {i j by0 : Nat} {c : Ch} (hl : F.look (i : Int) = some c) : Good ((F.dmg i j by0).put i (chunkB b i)) b := by
  refine ⟨by show (F.dmg _ _ _).size = _; rw [(dmg_keeps F _ _ _).2.1]; exact h.size, fun q d hd => ?_⟩
  rw [look_put] at hd
  split at hd
  · rename_i e
    simp only [Option.some.injEq] at hd
    subst hd
    exact ⟨by rw [e], rfl⟩
  · rename_i e
    rw [look_dmg hl, if_neg e] at hd
    exact h.right q d hd
theorem put_snd (F : FileM) (i : Int) (l : List Int) (q : Int) : (F.put i l).snd q = if q = i then true else F.snd q := by
  unfold FileM.snd
  rw [look_put]
  by_cases h : q = i
  · simp [h]
  · simp [h]
theorem has_mask {F : FileM} {i : Nat} (h : (i : Int) < chunks F.size) : mHas (chunks F.size) ((F.mask : Nat) : Int) (i : Int) = F.snd (i : Int) := by
  have hch := chunks_bd F.size
  unfold mHas
  have hr := maskN_right (fun i => F.snd (i : Int)) (n := chunks F.size) (k := (chunks F.size).toNat) hch.1 hch.2 (by omega)
  unfold FileM.mask
  rw [hr, mBit_nat, maskN_bit _ _ _ (by omega)]
  have h0 : (0 : Int) ≤ i := by omega
  simp [h]
theorem count_mask (F : FileM) : (if mRight (chunks F.size) ((F.mask : Nat) : Int) then ((pc 64 ((F.mask : Nat) : Int).toNat : Nat) : Int) else 0) = (((List.range (chunks F.size).toNat).filter fun (i : Nat) => F.snd (i : Int)).length : Int) := by
  have hch := chunks_bd F.size
  have hr := maskN_right (fun i => F.snd (i : Int)) (n := chunks F.size) (k := (chunks F.size).toNat) hch.1 hch.2 (by omega)
  unfold FileM.mask
  rw [hr, if_pos rfl, Int.toNat_natCast, pc_mask64 _ (by omega)]
theorem mask_lt (F : FileM) : F.mask < 18446744073709551616 := maskN_lt64 _ (by have := chunks_bd F.size; omega)

set_option maxRecDepth 100000 in
theorem StoreKeeps_c {W0 : World} {H : Hp} {a a2 : Option Addr} {cp c2 : Nat} {l ol : List Int} {id i ofs : Int} {by0 : Nat} (hc : l.length ≤ cp) (hcp : cp ≤ 9223372036854775807) (hB : IsB l) (hsl : ∀ R, Sl W0 R a (iv .u8 l)) (hn2 : ol.length ≤ 140737488355328) (hoB : IsB ol) (hso : ∀ R, Sl W0 R a2 (iv .u8 ol)) (hby : by0 < 256)
    (hi1 : -9223372036854775808 ≤ i) (hi2 : i ≤ 9223372036854775807) (ho1 : -9223372036854775808 ≤ ofs) (ho2 : ofs ≤ 9223372036854775807) (hl63 : l.length ≤ 140737488355328) :
    CxD Try.prog W0 6 #[.int .u64 id, .slice a l.length cp, .slice a2 ol.length c2, .int .i64 i, .int .i64 ofs, .int .u8 (by0 : Int)] H (.bool true) H := by
  have hch2 := chunks_bd l.length
  refine enter Try.func6 rfl Try.ntmps6 rfl ?_
  refine WC.seq ?_
  refine WC.region ?_
  refine WL.p (.none rfl) rfl (OpP.assign rfl) ?_
  refine WL.nil ?_
  refine EQ.sub ((Sub.cons (i := 0) rfl (Sub.cons (i := 1) rfl (Sub.cons (i := 2) rfl (Sub.cons (i := 3) rfl (Sub.cons (i := 4) rfl (Sub.cons (i := 5) rfl (Sub.cons (i := 12) rfl (Sub.nil _))))))))) ?_
  refine EQ.code ?_
  refine WC.seq ?_
  refine WC.region ?_
  refine WL.p (.none rfl) rfl (OpP.move rfl) ?_
  refine WL.p (.none rfl) rfl (OpP.move rfl) ?_
  refine WL.p (.none rfl) rfl (OpP.lenSl rfl Try.underlying23) ?_
  refine WL.p (.none rfl) rfl (OpP.move rfl) ?_
  refine WL.buildSlice1 sl_87 rfl rfl (by decide) rfl rfl (by rfl) (fun b32 => ?_)
  refine WL.callD rfl (.none rfl) rfl k_28 rfl (Of_c rfl (by omega) hc (hsl _) (Sl.own List.mem_cons_self (fun j x hj => by simpa using hj))) ?_
  obtain ⟨X, hX⟩ : ∃ X : FileM, X = { id := id, nm := ⟨#[102]⟩, size := l.length, sum := sumF l, ch := [] } := ⟨_, rfl⟩
  have hIL : infoL X = .int .u64 id :: .string ⟨#[102]⟩ :: .int .i64 (l.length : Int) :: sumL (sumF l) := by subst hX; rfl
  have hXl : X.sum = sumF l := by subst hX; rfl
  refine WL.p (v := .agg ⟨infoL X⟩) (.none rfl) rfl (by rw [hIL]; generalize sumF l = FF; exact OpP.buildS (l := .int .u64 id :: .string ⟨#[102]⟩ :: .int .i64 (l.length : Int) :: sumL FF) bld_34 (kI rfl (kI rfl (kI rfl (kI rfl kI0)))) (by kernel_rfl)) ?_
  refine WL.allocX z_34 rfl (fun b13 => ?_)
  first | (refine WL.s (.none rfl) rfl (OpS.storeAll rfl rfl ty_34 (by repeat (first | assumption | exact at0 | exact set_hit (by first | assumption | exact set_hit (by assumption)) | apply ats)) (by rfl) (by rfl) (by rfl) (by rfl)) ?_) | (refine WL.s (.none rfl) rfl (OpS.store rfl rfl ty_34 (by repeat (first | assumption | exact at0 | exact set_hit (by first | assumption | exact set_hit (by assumption)) | apply ats)) (by rfl) (by rfl) (by rfl) (by rfl)) ?_)
  refine WL.nil ?_
  refine EQ.sub ((Sub.cons (i := 0) rfl (Sub.cons (i := 1) rfl (Sub.cons (i := 2) rfl (Sub.cons (i := 3) rfl (Sub.cons (i := 4) rfl (Sub.cons (i := 5) rfl (Sub.cons (i := 12) rfl (Sub.cons (i := 13) rfl (Sub.nil _)))))))))) ?_
  refine EQ.code ?_
  refine WC.seq ?_
  refine WC.seq ?_
  refine WC.region ?_
  refine WL.p (.none rfl) rfl (OpP.move rfl) ?_
  refine WL.p (.none rfl) rfl (OpP.lenSl rfl Try.underlying23) ?_
  refine WL.p (.none rfl) rfl (OpP.gtr rfl rfl) ?_
  refine WL.p (.none rfl) rfl (OpP.move rfl) ?_
  refine WL.g (.bool rfl rfl rfl) rfl (fun hg => show OpP _ _ _ _ _ _ (infoV id ⟨#[102]⟩ (l.length : Int) X.sum) from by rw [show infoV id ⟨#[102]⟩ (l.length : Int) X.sum = .agg ⟨infoL X⟩ by rw [hIL, hXl]]; exact OpP.loadW rfl ty_34 List.mem_cons_self (infoL_length X)) ?_
  refine WL.gcall rfl (.bool rfl rfl rfl) rfl k_10 (fun hg => kops1 (gk hg rfl)) (fun hg => StRight_c (id := id) (n := l.length) (nm := ⟨#[102]⟩) (s := X.sum)) ?_
  refine WL.g (.bool rfl rfl rfl) rfl (fun hg => OpP.not (gk hg rfl)) ?_
  refine WL.p (.none rfl) rfl (OpP.por rfl rfl rfl) ?_
  refine WL.nil ?_
  refine EQ.sub ((Sub.cons (i := 0) rfl (Sub.cons (i := 1) rfl (Sub.cons (i := 2) rfl (Sub.cons (i := 3) rfl (Sub.cons (i := 4) rfl (Sub.cons (i := 5) rfl (Sub.cons (i := 12) rfl (Sub.cons (i := 13) rfl (Sub.cons (i := 42) rfl (Sub.nil _))))))))))) ?_
  refine EQ.code ?_
  refine WC.cond rfl (fun hc0 => ?_) (fun hc0 => ?_)
  · -- cond 0 t
    (try simp only [decide_eq_true_eq, decide_eq_false_iff_not, Bool.not_eq_true', Bool.not_eq_false', Bool.or_eq_true, Bool.and_eq_true, Bool.or_eq_false_iff, Bool.and_eq_false_imp, Option.isNone_some, Bool.false_eq_true, false_or, true_and] at hc0)
    refine WC.seq ?_
    refine WC.region ?_
    refine WL.callD rfl (.none rfl) rfl k_30 rfl (alive25_c) ?_
    refine WL.p (.none rfl) rfl (OpP.assign rfl) ?_
    refine WL.nil ?_
    refine EQ.sub ((Sub.cons (i := 0) rfl (Sub.cons (i := 1) rfl (Sub.cons (i := 2) rfl (Sub.cons (i := 3) rfl (Sub.cons (i := 4) rfl (Sub.cons (i := 5) rfl (Sub.cons (i := 12) rfl (Sub.cons (i := 13) rfl (Sub.nil _)))))))))) ?_
    refine EQ.code ?_
    refine WC.ret ?_
    refine EQ.thenR ?_
    refine EQ.finD (H' := H) (res1 rfl (.tmp rfl)) (by intro _ h; first | exact h | exact h.sublist (by repeat (first | exact List.Sublist.refl _ | exact List.sublist_append_right _ _ | apply List.Sublist.cons | refine List.Sublist.trans ?_ (List.sublist_append_right _ _)))) ?_
    exact ⟨rfl, rfl⟩
  · -- cond 0 f
    (try simp only [decide_eq_true_eq, decide_eq_false_iff_not, Bool.not_eq_true', Bool.not_eq_false', Bool.or_eq_true, Bool.and_eq_true, Bool.or_eq_false_iff, Bool.and_eq_false_imp, Option.isNone_some, Bool.false_eq_true, false_or, true_and] at hc0)
    have hl4 : l.length ≤ 4096 := by omega
    refine WC.skip ?_
    refine EQ.code ?_
    refine WC.seq ?_
    refine WC.region ?_
    refine WL.call rfl (.none rfl) rfl k_37 rfl (sNew_c) ?_
    rintro _ _ ⟨g, ds0, rfl, rfl, hs0⟩
    refine WL.p (.none rfl) rfl (OpP.assign rfl) ?_
    refine WL.nil ?_
    refine EQ.sub ((Sub.cons (i := 0) rfl (Sub.cons (i := 1) rfl (Sub.cons (i := 2) rfl (Sub.cons (i := 3) rfl (Sub.cons (i := 4) rfl (Sub.cons (i := 5) rfl (Sub.cons (i := 12) rfl (Sub.cons (i := 13) rfl (Sub.cons (i := 14) rfl (Sub.nil _))))))))))) ?_
    refine EQ.code ?_
    refine WC.seq ?_
    refine WC.region ?_
    refine WL.p (.none rfl) rfl (OpP.move rfl) ?_
    refine WL.p (.none rfl) rfl (OpP.loadB rfl ty_34 (by repeat (first | assumption | exact List.mem_cons_self | exact List.mem_of_getElem? (by assumption) | exact set_mem (by first | assumption | exact set_hit (by assumption)) | apply List.mem_cons_of_mem | apply List.mem_append_right)) (by rfl)) ?_
    refine WL.call rfl (.none rfl) rfl k_38 rfl (Open2_new (X := X) hs0 (by subst hX; exact hc0.2) rfl (by decide)) ?_
    rintro _ _ ⟨rfl, ds1, rfl, hs1⟩
    have hXs : X.size = l.length := by subst hX; rfl
    have hXid : (fresh X).id = id := by subst hX; rfl
    have hXsum : (fresh X).sum = sumF l := by subst hX; rfl
    rw [show chunks X.size = chunks l.length by rw [hXs]]
    refine WL.p (.none rfl) rfl (OpP.move rfl) ?_
    refine WL.p (.none rfl) rfl (OpP.extract rfl rfl) ?_
    refine WL.p (.none rfl) rfl (OpP.extract rfl rfl) ?_
    refine WL.allocX z_38 rfl (fun b15 => ?_)
    first | (refine WL.s (.none rfl) rfl (OpS.storeAll rfl rfl ty_38 (by repeat (first | assumption | exact at0 | exact set_hit (by first | assumption | exact set_hit (by assumption)) | apply ats)) (by rfl) (by rfl) (by rfl) (by rfl)) ?_) | (refine WL.s (.none rfl) rfl (OpS.store rfl rfl ty_38 (by repeat (first | assumption | exact at0 | exact set_hit (by first | assumption | exact set_hit (by assumption)) | apply ats)) (by rfl) (by rfl) (by rfl) (by rfl)) ?_)
    refine WL.p (.none rfl) rfl (OpP.assign rfl) ?_
    refine WL.nil ?_
    refine EQ.sub ((Sub.cons (i := 0) rfl (Sub.cons (i := 1) rfl (Sub.cons (i := 2) rfl (Sub.cons (i := 3) rfl (Sub.cons (i := 4) rfl (Sub.cons (i := 5) rfl (Sub.cons (i := 12) rfl (Sub.cons (i := 14) rfl (Sub.cons (i := 15) rfl (Sub.cons (i := 16) rfl (Sub.nil _)))))))))))) ?_
    refine EQ.code ?_
    refine WC.seq ?_
    refine WC.region ?_
    refine WL.p (.none rfl) rfl (OpP.move rfl) ?_
    refine WL.p (.none rfl) rfl (OpP.lenSl rfl Try.underlying23) ?_
    refine WL.callD rfl (.none rfl) rfl k_34 rfl (Chunks_c) ?_
    refine WL.p (.none rfl) rfl (OpP.assign rfl) ?_
    refine WL.nil ?_
    refine EQ.sub ((Sub.cons (i := 0) rfl (Sub.cons (i := 1) rfl (Sub.cons (i := 2) rfl (Sub.cons (i := 3) rfl (Sub.cons (i := 4) rfl (Sub.cons (i := 5) rfl (Sub.cons (i := 12) rfl (Sub.cons (i := 14) rfl (Sub.cons (i := 15) rfl (Sub.cons (i := 16) rfl (Sub.cons (i := 17) rfl (Sub.nil _))))))))))))) ?_
    refine EQ.code ?_
    refine WC.seq ?_
    refine WC.seq ?_
    refine WC.region ?_
    refine WL.p (.none rfl) rfl (OpP.move rfl) ?_
    refine WL.p (.none rfl) rfl (OpP.neqI rfl rfl) ?_
    refine WL.p (.none rfl) rfl (OpP.move rfl) ?_
    refine WL.p (.yes rfl rfl rfl) rfl (OpP.fieldAddr rfl fld_38_0) ?_
    refine WL.p (.yes rfl rfl rfl) rfl (OpP.load rfl ty_3 (Rd.own (by repeat (first | assumption | exact List.mem_cons_self | exact List.mem_of_getElem? (by assumption) | exact set_mem (by first | assumption | exact set_hit (by assumption)) | apply List.mem_cons_of_mem | apply List.mem_append_right)) (by rfl))) ?_
    refine WL.p (.yes rfl rfl rfl) rfl (OpP.move rfl) ?_
    refine WL.p (.yes rfl rfl rfl) rfl (OpP.neqI rfl rfl) ?_
    refine WL.p (.none rfl) rfl (OpP.por rfl rfl rfl) ?_
    refine WL.p (.none rfl) rfl (OpP.move rfl) ?_
    refine WL.g (.bool rfl rfl rfl) rfl (fun hg => OpP.loadB rfl ty_38 (by repeat (first | assumption | exact List.mem_cons_self | exact List.mem_of_getElem? (by assumption) | exact set_mem (by first | assumption | exact set_hit (by assumption)) | apply List.mem_cons_of_mem | apply List.mem_append_right)) (by rfl)) ?_
    refine WL.gcall rfl (.bool rfl rfl rfl) rfl k_39 (fun hg => kops1 (gk hg rfl)) (fun hg => CxD.to (Count_c (by decide) (by decide)) (show _ = Value.int .i64 0 by rw [right_zero hch2.1 hch2.2]; rfl) rfl) ?_
    refine WL.g (.bool rfl rfl rfl) rfl (fun hg => OpP.neqI (gk hg rfl) rfl) ?_
    refine WL.p (.none rfl) rfl (OpP.por rfl rfl rfl) ?_
    refine WL.nil ?_
    refine EQ.sub ((Sub.cons (i := 0) rfl (Sub.cons (i := 1) rfl (Sub.cons (i := 2) rfl (Sub.cons (i := 3) rfl (Sub.cons (i := 4) rfl (Sub.cons (i := 5) rfl (Sub.cons (i := 12) rfl (Sub.cons (i := 14) rfl (Sub.cons (i := 15) rfl (Sub.cons (i := 17) rfl (Sub.cons (i := 66) rfl (Sub.nil _))))))))))))) ?_
    refine EQ.code ?_
    refine WC.cond rfl (fun hc1 => ?_) (fun hc1 => ?_)
    · -- cond 1 t
      (try simp only [decide_eq_true_eq, decide_eq_false_iff_not, Bool.not_eq_true', Bool.not_eq_false', Bool.or_eq_true, Bool.and_eq_true, Bool.or_eq_false_iff, Bool.and_eq_false_imp, Option.isNone_some, Bool.false_eq_true, false_or, true_and] at hc1)
      exfalso; simp at hc1
    · -- cond 1 f
      (try simp only [decide_eq_true_eq, decide_eq_false_iff_not, Bool.not_eq_true', Bool.not_eq_false', Bool.or_eq_true, Bool.and_eq_true, Bool.or_eq_false_iff, Bool.and_eq_false_imp, Option.isNone_some, Bool.false_eq_true, false_or, true_and] at hc1)
      refine WC.skip ?_
      refine EQ.code ?_
      refine WC.join (σ := FileM × Hp) (fun s => [(0, .int .u64 id), (1, .slice a l.length cp), (2, .slice a2 ol.length c2), (3, .int .i64 i), (4, .int .i64 ofs), (5, .int .u8 (by0 : Int)), (14, .pointer (some ⟨g, 0, none⟩)), (15, .pointer (some ⟨b15, 0, none⟩)), (17, .int .i64 (chunks l.length))]) (fun s => (b15, cl [.int .i64 (chunks l.length), .int .u64 0] 38) :: (s.2 ++ ((b13, cl (infoL X) 34) :: (b32, cl [.slice a l.length cp] 23) :: H))) (fun s => SR [s.1] g s.2 ∧ Good s.1 l ∧ s.1.id = id ∧ s.1.sum = sumF l ∧ (chunks (l.length : Int) + (ol.length : Int) ≤ 200 → ∀ q : Nat, (q : Int) < chunks l.length → s.1.snd (q : Int) = true)) ?_ (fun ⟨F, ds⟩ hinv => ?_)
      · -- join 20 0
        refine WC.seq ?_
        refine WC.region ?_
        refine WL.p (.none rfl) rfl (OpP.assign rfl) ?_
        refine WL.nil ?_
        refine EQ.sub ((Sub.cons (i := 0) rfl (Sub.cons (i := 1) rfl (Sub.cons (i := 2) rfl (Sub.cons (i := 3) rfl (Sub.cons (i := 4) rfl (Sub.cons (i := 5) rfl (Sub.cons (i := 12) rfl (Sub.cons (i := 14) rfl (Sub.cons (i := 15) rfl (Sub.cons (i := 17) rfl (Sub.cons (i := 18) rfl (Sub.nil _))))))))))))) ?_
        refine EQ.code ?_
        refine WC.block ?_
        refine WC.loop (σ := Nat × FileM × Hp) (fun s => [(0, .int .u64 id), (1, .slice a l.length cp), (2, .slice a2 ol.length c2), (3, .int .i64 i), (4, .int .i64 ofs), (5, .int .u8 (by0 : Int)), (14, .pointer (some ⟨g, 0, none⟩)), (15, .pointer (some ⟨b15, 0, none⟩)), (17, .int .i64 (chunks l.length)), (18, .int .i64 (s.1 : Int))]) (fun s => (b15, cl [.int .i64 (chunks l.length), .int .u64 0] 38) :: (s.2.2 ++ ((b13, cl (infoL X) 34) :: (b32, cl [.slice a l.length cp] 23) :: H))) (fun s => (s.1 : Int) ≤ chunks l.length + ol.length ∧ s.1 ≤ 200 ∧ SR [s.2.1] g s.2.2 ∧ Good s.2.1 l ∧ s.2.1.id = id ∧ s.2.1.sum = sumF l ∧ ∀ j : Nat, j < s.1 → ol.length ≤ j → (s.2.1.look ((j : Int) - (ol.length : Int))).isSome = true) (fun s => 200 - s.1) (0, fresh X, ds1) ⟨by omega, Nat.zero_le _, hs1, good_fresh hXs, hXid, hXsum, fun j hj _ => by omega⟩ ((Sub.cons rfl (Sub.cons rfl (Sub.cons rfl (Sub.cons rfl (Sub.cons rfl (Sub.cons rfl (Sub.cons rfl (Sub.cons rfl (Sub.cons rfl (Sub.cons rfl (Sub.nil _)))))))))))) (fun _ h => h) (fun ⟨k, F, ds⟩ hinv => ?_)
        (try simp only at hinv ⊢)
        obtain ⟨hk, hk2, hs, hgood, hid, hsum, hcov⟩ := hinv
        refine WC.seq ?_
        refine WC.seq ?_
        refine WC.region ?_
        refine WL.p (.none rfl) rfl (OpP.move rfl) ?_
        refine WL.p (.none rfl) rfl (OpP.move rfl) ?_
        refine WL.p (.none rfl) rfl (OpP.move rfl) ?_
        refine WL.p (.none rfl) rfl (OpP.lenSl rfl Try.underlying23) ?_
        first | (refine WL.p (.none rfl) rfl (OpP.add64 rfl rfl (by omega)) ?_) | (refine WL.p (.none rfl) rfl (OpP.add rfl rfl) ?_)
        refine WL.p (.none rfl) rfl (OpP.lss rfl rfl) ?_
        refine WL.p (.none rfl) rfl (OpP.move rfl) ?_
        refine WL.g (.bool rfl rfl rfl) rfl (fun hg => OpP.move rfl) ?_
        refine WL.g (.bool rfl rfl rfl) rfl (fun hg => OpP.lss (gk hg rfl) rfl) ?_
        refine WL.p (.none rfl) rfl (OpP.pand rfl rfl rfl) ?_
        refine WL.nil ?_
        refine EQ.sub ((Sub.cons (i := 0) rfl (Sub.cons (i := 1) rfl (Sub.cons (i := 2) rfl (Sub.cons (i := 3) rfl (Sub.cons (i := 4) rfl (Sub.cons (i := 5) rfl (Sub.cons (i := 14) rfl (Sub.cons (i := 15) rfl (Sub.cons (i := 17) rfl (Sub.cons (i := 18) rfl (Sub.cons (i := 76) rfl (Sub.nil _))))))))))))) ?_
        refine EQ.code ?_
        refine WC.cond rfl (fun hc2 => ?_) (fun hc2 => ?_)
        · -- cond 2 t
          (try simp only [decide_eq_true_eq, decide_eq_false_iff_not, Bool.not_eq_true', Bool.not_eq_false', Bool.or_eq_true, Bool.and_eq_true, Bool.or_eq_false_iff, Bool.and_eq_false_imp, Option.isNone_some, Bool.false_eq_true, false_or, true_and] at hc2)
          refine WC.skip ?_
          refine EQ.code ?_
          refine WC.seq ?_
          refine WC.block ?_
          refine WC.seq ?_
          refine WC.region ?_
          refine WL.p (.none rfl) rfl (OpP.move rfl) ?_
          refine WL.p (.none rfl) rfl (OpP.assign rfl) ?_
          refine WL.nil ?_
          refine EQ.sub ((Sub.cons (i := 0) rfl (Sub.cons (i := 1) rfl (Sub.cons (i := 2) rfl (Sub.cons (i := 3) rfl (Sub.cons (i := 4) rfl (Sub.cons (i := 5) rfl (Sub.cons (i := 14) rfl (Sub.cons (i := 15) rfl (Sub.cons (i := 17) rfl (Sub.cons (i := 18) rfl (Sub.cons (i := 19) rfl (Sub.nil _))))))))))))) ?_
          refine EQ.code ?_
          refine WC.seq ?_
          refine WC.seq ?_
          refine WC.region ?_
          refine WL.p (.none rfl) rfl (OpP.move rfl) ?_
          refine WL.p (.none rfl) rfl (OpP.move rfl) ?_
          refine WL.p (.none rfl) rfl (OpP.lenSl rfl Try.underlying23) ?_
          refine WL.p (.none rfl) rfl (OpP.lss rfl rfl) ?_
          refine WL.p (.none rfl) rfl (OpP.move rfl) ?_
          refine WL.g (.bool rfl rfl rfl) rfl (fun hg => OpP.move rfl) ?_
          refine WL.g (.bool rfl rfl rfl) rfl (fun hg => OpP.gtr (gk hg rfl) rfl) ?_
          refine WL.p (.none rfl) rfl (OpP.pand rfl rfl rfl) ?_
          refine WL.nil ?_
          refine EQ.sub ((Sub.cons (i := 0) rfl (Sub.cons (i := 1) rfl (Sub.cons (i := 2) rfl (Sub.cons (i := 3) rfl (Sub.cons (i := 4) rfl (Sub.cons (i := 5) rfl (Sub.cons (i := 14) rfl (Sub.cons (i := 15) rfl (Sub.cons (i := 17) rfl (Sub.cons (i := 18) rfl (Sub.cons (i := 19) rfl (Sub.cons (i := 87) rfl (Sub.nil _)))))))))))))) ?_
          refine EQ.code ?_
          refine WC.cond rfl (fun hc3 => ?_) (fun hc3 => ?_)
          · -- cond 3 t
            (try simp only [decide_eq_true_eq, decide_eq_false_iff_not, Bool.not_eq_true', Bool.not_eq_false', Bool.or_eq_true, Bool.and_eq_true, Bool.or_eq_false_iff, Bool.and_eq_false_imp, Option.isNone_some, Bool.false_eq_true, false_or, true_and] at hc3)
            refine WC.region ?_
            refine WL.p (.none rfl) rfl (OpP.move rfl) ?_
            refine WL.p (.none rfl) rfl (OpP.move rfl) ?_
            have ha2 : a2 ≠ none := by intro hz; have := (hso []).1 hz; simp at this; rw [this] at hc3; simp at hc3; omega
            refine WL.p (.none rfl) rfl (OpP.indexSl rfl rfl el_23 (by omega) (by omega) ha2) ?_
            refine WL.p (.none rfl) rfl (OpP.load rfl ty_5 ((hso _).get k (by omega))) ?_
            have hqk : 0 ≤ ol.getD k 0 ∧ ol.getD k 0 < 256 := hoB _ (by rw [List.getD_eq_getElem?_getD, List.getElem?_eq_getElem (by omega)]; exact List.getElem_mem _)
            obtain ⟨q, hqe⟩ : ∃ q : Nat, ol.getD k 0 = (q : Int) := ⟨(ol.getD k 0).toNat, by omega⟩
            rw [hqe]
            first | (refine WL.p (.none rfl) rfl (OpP.convI rfl Try.underlying5 Try.underlying3 (by omega)) ?_) | (refine WL.p (.none rfl) rfl (OpP.conv rfl Try.underlying5 Try.underlying3) ?_)
            refine WL.p (.none rfl) rfl (OpP.move rfl) ?_
            refine WL.p (.none rfl) rfl (OpP.remN rfl rfl (by omega) (by omega)) ?_
            have hq0 : 0 ≤ (q : Int) % chunks (l.length : Int) := Int.emod_nonneg _ (by omega)
            have hq1 : (q : Int) % chunks (l.length : Int) < chunks (l.length : Int) := Int.emod_lt_of_pos _ (by omega)
            obtain ⟨c0, hce⟩ : ∃ c0 : Int, c0 = (q : Int) % chunks (l.length : Int) := ⟨_, rfl⟩
            rw [← hce] at hq0 hq1 ⊢
            have hla0 := lengthAt_bd hq0 hq1
            refine WL.p (.none rfl) rfl (OpP.assign rfl) ?_
            refine WL.nil ?_
            refine EQ.sub ((Sub.cons (i := 0) rfl (Sub.cons (i := 1) rfl (Sub.cons (i := 2) rfl (Sub.cons (i := 3) rfl (Sub.cons (i := 4) rfl (Sub.cons (i := 5) rfl (Sub.cons (i := 14) rfl (Sub.cons (i := 15) rfl (Sub.cons (i := 17) rfl (Sub.cons (i := 18) rfl (Sub.cons (i := 19) rfl (Sub.nil _))))))))))))) ?_
            refine EQ.code ?_
            refine WC.seq ?_
            refine WC.seq ?_
            refine WC.region ?_
            refine WL.p (.none rfl) rfl (OpP.move rfl) ?_
            refine WL.p (.none rfl) rfl (OpP.move rfl) ?_
            refine WL.p (.none rfl) rfl (OpP.geq rfl rfl) ?_
            refine WL.nil ?_
            refine EQ.sub ((Sub.cons (i := 0) rfl (Sub.cons (i := 1) rfl (Sub.cons (i := 2) rfl (Sub.cons (i := 3) rfl (Sub.cons (i := 4) rfl (Sub.cons (i := 5) rfl (Sub.cons (i := 14) rfl (Sub.cons (i := 15) rfl (Sub.cons (i := 17) rfl (Sub.cons (i := 18) rfl (Sub.cons (i := 19) rfl (Sub.cons (i := 105) rfl (Sub.nil _)))))))))))))) ?_
            refine EQ.code ?_
            refine WC.cond rfl (fun hc4 => ?_) (fun hc4 => ?_)
            · -- cond 4 t
              (try simp only [decide_eq_true_eq, decide_eq_false_iff_not, Bool.not_eq_true', Bool.not_eq_false', Bool.or_eq_true, Bool.and_eq_true, Bool.or_eq_false_iff, Bool.and_eq_false_imp, Option.isNone_some, Bool.false_eq_true, false_or, true_and] at hc4)
              exfalso; omega
            · -- cond 4 f
              (try simp only [decide_eq_true_eq, decide_eq_false_iff_not, Bool.not_eq_true', Bool.not_eq_false', Bool.or_eq_true, Bool.and_eq_true, Bool.or_eq_false_iff, Bool.and_eq_false_imp, Option.isNone_some, Bool.false_eq_true, false_or, true_and] at hc4)
              refine WC.skip ?_
              refine EQ.code ?_
              refine WC.seq ?_
              refine WC.region ?_
              refine WL.p (.none rfl) rfl (OpP.move rfl) ?_
              refine WL.p (.none rfl) rfl (OpP.move rfl) ?_
              refine WL.p (.none rfl) rfl (OpP.move rfl) ?_
              refine WL.p (.none rfl) rfl (OpP.move rfl) ?_
              refine WL.p (.none rfl) rfl (OpP.move rfl) ?_
              first | (refine WL.p (.none rfl) rfl (OpP.mul64 rfl rfl (by omega)) ?_) | (refine WL.p (.none rfl) rfl (OpP.mul rfl rfl) ?_)
              refine WL.p (.none rfl) rfl (OpP.move rfl) ?_
              first | (refine WL.p (.none rfl) rfl (OpP.mul64 rfl rfl (by omega)) ?_) | (refine WL.p (.none rfl) rfl (OpP.mul rfl rfl) ?_)
              refine WL.p (.none rfl) rfl (OpP.move rfl) ?_
              refine WL.p (.none rfl) rfl (OpP.lenSl rfl Try.underlying23) ?_
              refine WL.p (.none rfl) rfl (OpP.move rfl) ?_
              refine WL.callD rfl (.none rfl) rfl k_35 rfl (Length_any) ?_
              first | (refine WL.p (.none rfl) rfl (OpP.add64 rfl rfl (by omega)) ?_) | (refine WL.p (.none rfl) rfl (OpP.add rfl rfl) ?_)
              refine WL.p (.none rfl) rfl (OpP.slice rfl sl_23 (l := _) (⟨_, rfl⟩) (rfl) (⟨_, rfl⟩) (by omega) (by omega) (by omega) (by omega)) ?_
              refine WL.call rfl (.none rfl) rfl k_40 rfl (CxX.pre (List.perm_append_comm_assoc [_] ds _) (Write_ok (i := c0) (F := F) (l := chunkB l (c0)) hs (fFind_one hid) (by unfold wOk; rw [hgood.size]; exact ⟨by omega, by omega, by have := lengthAt_bd (n := (l.length : Int)) (i := c0) (by omega) (by omega); omega⟩) (by rw [chunkB_len (by omega) (by omega)]; omega) (chunkB_isB hB _) (Sl.via (((hsl _).cutB (64 * (c0)) _ (by intro hq; omega)).takeB _)))) ?_
              rintro _ _ ⟨rfl, ds2, rfl, hs2⟩
              have hs2 : SR [F.put c0 (chunkB l c0)] g ds2 := by rwa [show fSet [F] (F.put c0 (chunkB l c0)) = [F.put c0 (chunkB l c0)] from fSet_one rfl] at hs2
              refine WL.p (.none rfl) rfl (OpP.neqI rfl rfl) ?_
              refine WL.nil ?_
              refine EQ.sub ((Sub.cons (i := 0) rfl (Sub.cons (i := 1) rfl (Sub.cons (i := 2) rfl (Sub.cons (i := 3) rfl (Sub.cons (i := 4) rfl (Sub.cons (i := 5) rfl (Sub.cons (i := 14) rfl (Sub.cons (i := 15) rfl (Sub.cons (i := 17) rfl (Sub.cons (i := 18) rfl (Sub.cons (i := 121) rfl (Sub.nil _))))))))))))) ?_
              refine EQ.code ?_
              refine WC.condF rfl ?_
              refine WC.skip ?_
              refine EQ.blockN ?_
              refine EQ.code ?_
              refine WC.region ?_
              refine WL.p (.none rfl) rfl (OpP.move rfl) ?_
              first | (refine WL.p (.none rfl) rfl (OpP.add64 rfl rfl (by omega)) ?_) | (refine WL.p (.none rfl) rfl (OpP.add rfl rfl) ?_)
              refine WL.p (.none rfl) rfl (OpP.assign rfl) ?_
              refine WL.nil ?_
              refine EQ.sub ((Sub.cons (i := 0) rfl (Sub.cons (i := 1) rfl (Sub.cons (i := 2) rfl (Sub.cons (i := 3) rfl (Sub.cons (i := 4) rfl (Sub.cons (i := 5) rfl (Sub.cons (i := 14) rfl (Sub.cons (i := 15) rfl (Sub.cons (i := 17) rfl (Sub.cons (i := 18) rfl (Sub.nil _)))))))))))) ?_
              refine EQ.again (k + 1, F.put c0 (chunkB l c0), ds2) ?_ ?_ ?_ ?_
              · refine ⟨by (try simp only); omega, by (try simp only); omega, hs2, hgood.put c0, hid, hsum, fun j hj hj2 => ?_⟩
                show ((F.put c0 (chunkB l c0)).look _).isSome = true
                rw [look_put]
                split
                · rfl
                · rename_i hne
                  exact hcov j (by (try simp only at hj); omega) hj2
              · (try simp only); omega
              · exact ((Sub.cons rfl (Sub.cons rfl (Sub.cons rfl (Sub.cons rfl (Sub.cons rfl (Sub.cons rfl (Sub.cons rfl (Sub.cons rfl (Sub.cons rfl (Sub.cons rfl (Sub.nil _))))))))))))
              · intro w h; exact h.perm (List.perm_append_comm_assoc [_] ds2 _).symm
          · -- cond 3 f
            (try simp only [decide_eq_true_eq, decide_eq_false_iff_not, Bool.not_eq_true', Bool.not_eq_false', Bool.or_eq_true, Bool.and_eq_true, Bool.or_eq_false_iff, Bool.and_eq_false_imp, Option.isNone_some, Bool.false_eq_true, false_or, true_and] at hc3)
            refine WC.seq ?_
            refine WC.region ?_
            refine WL.p (.none rfl) rfl (OpP.move rfl) ?_
            refine WL.p (.none rfl) rfl (OpP.move rfl) ?_
            refine WL.p (.none rfl) rfl (OpP.lenSl rfl Try.underlying23) ?_
            refine WL.p (.none rfl) rfl (OpP.geq rfl rfl) ?_
            refine WL.nil ?_
            refine EQ.sub ((Sub.cons (i := 0) rfl (Sub.cons (i := 1) rfl (Sub.cons (i := 2) rfl (Sub.cons (i := 3) rfl (Sub.cons (i := 4) rfl (Sub.cons (i := 5) rfl (Sub.cons (i := 14) rfl (Sub.cons (i := 15) rfl (Sub.cons (i := 17) rfl (Sub.cons (i := 18) rfl (Sub.cons (i := 19) rfl (Sub.cons (i := 98) rfl (Sub.nil _)))))))))))))) ?_
            refine EQ.code ?_
            refine WC.cond rfl (fun hc6 => ?_) (fun hc6 => ?_)
            · -- cond 6 t
              (try simp only [decide_eq_true_eq, decide_eq_false_iff_not, Bool.not_eq_true', Bool.not_eq_false', Bool.or_eq_true, Bool.and_eq_true, Bool.or_eq_false_iff, Bool.and_eq_false_imp, Option.isNone_some, Bool.false_eq_true, false_or, true_and] at hc6)
              refine WC.region ?_
              refine WL.p (.none rfl) rfl (OpP.move rfl) ?_
              refine WL.p (.none rfl) rfl (OpP.move rfl) ?_
              refine WL.p (.none rfl) rfl (OpP.lenSl rfl Try.underlying23) ?_
              first | (refine WL.p (.none rfl) rfl (OpP.sub64 rfl rfl (by omega)) ?_) | (refine WL.p (.none rfl) rfl (OpP.sub rfl rfl) ?_)
              have hq0 : 0 ≤ (k : Int) - (ol.length : Int) := by omega
              have hq1 : (k : Int) - (ol.length : Int) < chunks (l.length : Int) := by omega
              obtain ⟨c0, hce⟩ : ∃ c0 : Int, c0 = (k : Int) - (ol.length : Int) := ⟨_, rfl⟩
              rw [← hce] at hq0 hq1 ⊢
              have hla0 := lengthAt_bd hq0 hq1
              refine WL.p (.none rfl) rfl (OpP.assign rfl) ?_
              refine WL.nil ?_
              refine EQ.sub ((Sub.cons (i := 0) rfl (Sub.cons (i := 1) rfl (Sub.cons (i := 2) rfl (Sub.cons (i := 3) rfl (Sub.cons (i := 4) rfl (Sub.cons (i := 5) rfl (Sub.cons (i := 14) rfl (Sub.cons (i := 15) rfl (Sub.cons (i := 17) rfl (Sub.cons (i := 18) rfl (Sub.cons (i := 19) rfl (Sub.nil _))))))))))))) ?_
              refine EQ.code ?_
              refine WC.seq ?_
              refine WC.seq ?_
              refine WC.region ?_
              refine WL.p (.none rfl) rfl (OpP.move rfl) ?_
              refine WL.p (.none rfl) rfl (OpP.move rfl) ?_
              refine WL.p (.none rfl) rfl (OpP.geq rfl rfl) ?_
              refine WL.nil ?_
              refine EQ.sub ((Sub.cons (i := 0) rfl (Sub.cons (i := 1) rfl (Sub.cons (i := 2) rfl (Sub.cons (i := 3) rfl (Sub.cons (i := 4) rfl (Sub.cons (i := 5) rfl (Sub.cons (i := 14) rfl (Sub.cons (i := 15) rfl (Sub.cons (i := 17) rfl (Sub.cons (i := 18) rfl (Sub.cons (i := 19) rfl (Sub.cons (i := 105) rfl (Sub.nil _)))))))))))))) ?_
              refine EQ.code ?_
              refine WC.cond rfl (fun hc7 => ?_) (fun hc7 => ?_)
              · -- cond 7 t
                (try simp only [decide_eq_true_eq, decide_eq_false_iff_not, Bool.not_eq_true', Bool.not_eq_false', Bool.or_eq_true, Bool.and_eq_true, Bool.or_eq_false_iff, Bool.and_eq_false_imp, Option.isNone_some, Bool.false_eq_true, false_or, true_and] at hc7)
                exfalso; omega
              · -- cond 7 f
                (try simp only [decide_eq_true_eq, decide_eq_false_iff_not, Bool.not_eq_true', Bool.not_eq_false', Bool.or_eq_true, Bool.and_eq_true, Bool.or_eq_false_iff, Bool.and_eq_false_imp, Option.isNone_some, Bool.false_eq_true, false_or, true_and] at hc7)
                refine WC.skip ?_
                refine EQ.code ?_
                refine WC.seq ?_
                refine WC.region ?_
                refine WL.p (.none rfl) rfl (OpP.move rfl) ?_
                refine WL.p (.none rfl) rfl (OpP.move rfl) ?_
                refine WL.p (.none rfl) rfl (OpP.move rfl) ?_
                refine WL.p (.none rfl) rfl (OpP.move rfl) ?_
                refine WL.p (.none rfl) rfl (OpP.move rfl) ?_
                first | (refine WL.p (.none rfl) rfl (OpP.mul64 rfl rfl (by omega)) ?_) | (refine WL.p (.none rfl) rfl (OpP.mul rfl rfl) ?_)
                refine WL.p (.none rfl) rfl (OpP.move rfl) ?_
                first | (refine WL.p (.none rfl) rfl (OpP.mul64 rfl rfl (by omega)) ?_) | (refine WL.p (.none rfl) rfl (OpP.mul rfl rfl) ?_)
                refine WL.p (.none rfl) rfl (OpP.move rfl) ?_
                refine WL.p (.none rfl) rfl (OpP.lenSl rfl Try.underlying23) ?_
                refine WL.p (.none rfl) rfl (OpP.move rfl) ?_
                refine WL.callD rfl (.none rfl) rfl k_35 rfl (Length_any) ?_
                first | (refine WL.p (.none rfl) rfl (OpP.add64 rfl rfl (by omega)) ?_) | (refine WL.p (.none rfl) rfl (OpP.add rfl rfl) ?_)
                refine WL.p (.none rfl) rfl (OpP.slice rfl sl_23 (l := _) (⟨_, rfl⟩) (rfl) (⟨_, rfl⟩) (by omega) (by omega) (by omega) (by omega)) ?_
                refine WL.call rfl (.none rfl) rfl k_40 rfl (CxX.pre (List.perm_append_comm_assoc [_] ds _) (Write_ok (i := c0) (F := F) (l := chunkB l (c0)) hs (fFind_one hid) (by unfold wOk; rw [hgood.size]; exact ⟨by omega, by omega, by have := lengthAt_bd (n := (l.length : Int)) (i := c0) (by omega) (by omega); omega⟩) (by rw [chunkB_len (by omega) (by omega)]; omega) (chunkB_isB hB _) (Sl.via (((hsl _).cutB (64 * (c0)) _ (by intro hq; omega)).takeB _)))) ?_
                rintro _ _ ⟨rfl, ds2, rfl, hs2⟩
                have hs2 : SR [F.put c0 (chunkB l c0)] g ds2 := by rwa [show fSet [F] (F.put c0 (chunkB l c0)) = [F.put c0 (chunkB l c0)] from fSet_one rfl] at hs2
                refine WL.p (.none rfl) rfl (OpP.neqI rfl rfl) ?_
                refine WL.nil ?_
                refine EQ.sub ((Sub.cons (i := 0) rfl (Sub.cons (i := 1) rfl (Sub.cons (i := 2) rfl (Sub.cons (i := 3) rfl (Sub.cons (i := 4) rfl (Sub.cons (i := 5) rfl (Sub.cons (i := 14) rfl (Sub.cons (i := 15) rfl (Sub.cons (i := 17) rfl (Sub.cons (i := 18) rfl (Sub.cons (i := 121) rfl (Sub.nil _))))))))))))) ?_
                refine EQ.code ?_
                refine WC.condF rfl ?_
                refine WC.skip ?_
                refine EQ.blockN ?_
                refine EQ.code ?_
                refine WC.region ?_
                refine WL.p (.none rfl) rfl (OpP.move rfl) ?_
                first | (refine WL.p (.none rfl) rfl (OpP.add64 rfl rfl (by omega)) ?_) | (refine WL.p (.none rfl) rfl (OpP.add rfl rfl) ?_)
                refine WL.p (.none rfl) rfl (OpP.assign rfl) ?_
                refine WL.nil ?_
                refine EQ.sub ((Sub.cons (i := 0) rfl (Sub.cons (i := 1) rfl (Sub.cons (i := 2) rfl (Sub.cons (i := 3) rfl (Sub.cons (i := 4) rfl (Sub.cons (i := 5) rfl (Sub.cons (i := 14) rfl (Sub.cons (i := 15) rfl (Sub.cons (i := 17) rfl (Sub.cons (i := 18) rfl (Sub.nil _)))))))))))) ?_
                refine EQ.again (k + 1, F.put c0 (chunkB l c0), ds2) ?_ ?_ ?_ ?_
                · refine ⟨by (try simp only); omega, by (try simp only); omega, hs2, hgood.put c0, hid, hsum, fun j hj hj2 => ?_⟩
                  show ((F.put c0 (chunkB l c0)).look _).isSome = true
                  rw [look_put]
                  split
                  · rfl
                  · rename_i hne
                    exact hcov j (by (try simp only at hj); omega) hj2
                · (try simp only); omega
                · exact ((Sub.cons rfl (Sub.cons rfl (Sub.cons rfl (Sub.cons rfl (Sub.cons rfl (Sub.cons rfl (Sub.cons rfl (Sub.cons rfl (Sub.cons rfl (Sub.cons rfl (Sub.nil _))))))))))))
                · intro w h; exact h.perm (List.perm_append_comm_assoc [_] ds2 _).symm
            · -- cond 6 f
              (try simp only [decide_eq_true_eq, decide_eq_false_iff_not, Bool.not_eq_true', Bool.not_eq_false', Bool.or_eq_true, Bool.and_eq_true, Bool.or_eq_false_iff, Bool.and_eq_false_imp, Option.isNone_some, Bool.false_eq_true, false_or, true_and] at hc6)
              refine WC.skip ?_
              refine EQ.code ?_
              refine WC.seq ?_
              refine WC.seq ?_
              refine WC.region ?_
              refine WL.p (.none rfl) rfl (OpP.move rfl) ?_
              refine WL.p (.none rfl) rfl (OpP.move rfl) ?_
              refine WL.p (.none rfl) rfl (OpP.geq rfl rfl) ?_
              refine WL.nil ?_
              refine EQ.sub ((Sub.cons (i := 0) rfl (Sub.cons (i := 1) rfl (Sub.cons (i := 2) rfl (Sub.cons (i := 3) rfl (Sub.cons (i := 4) rfl (Sub.cons (i := 5) rfl (Sub.cons (i := 14) rfl (Sub.cons (i := 15) rfl (Sub.cons (i := 17) rfl (Sub.cons (i := 18) rfl (Sub.cons (i := 19) rfl (Sub.cons (i := 105) rfl (Sub.nil _)))))))))))))) ?_
              refine EQ.code ?_
              refine WC.cond rfl (fun hc9 => ?_) (fun hc9 => ?_)
              · -- cond 9 t
                (try simp only [decide_eq_true_eq, decide_eq_false_iff_not, Bool.not_eq_true', Bool.not_eq_false', Bool.or_eq_true, Bool.and_eq_true, Bool.or_eq_false_iff, Bool.and_eq_false_imp, Option.isNone_some, Bool.false_eq_true, false_or, true_and] at hc9)
                refine WC.exit ?_
                refine EQ.thenE ?_
                refine EQ.blockMiss rfl ?_
                refine EQ.thenE ?_
                refine EQ.thenE ?_
                refine EQ.blockHit ?_
                refine EQ.joined (F, ds) ?_ ?_ ?_
                · exact ⟨hs, hgood, hid, hsum, fun _ q hq => by omega⟩
                · exact ((Sub.cons rfl (Sub.cons rfl (Sub.cons rfl (Sub.cons rfl (Sub.cons rfl (Sub.cons rfl (Sub.cons rfl (Sub.cons rfl (Sub.cons rfl (Sub.nil _)))))))))))
                · intro _ h; first | exact h | exact h.drop | exact h.drop_mid
              · -- cond 9 f
                (try simp only [decide_eq_true_eq, decide_eq_false_iff_not, Bool.not_eq_true', Bool.not_eq_false', Bool.or_eq_true, Bool.and_eq_true, Bool.or_eq_false_iff, Bool.and_eq_false_imp, Option.isNone_some, Bool.false_eq_true, false_or, true_and] at hc9)
                exfalso; omega
        · -- cond 2 f
          (try simp only [decide_eq_true_eq, decide_eq_false_iff_not, Bool.not_eq_true', Bool.not_eq_false', Bool.or_eq_true, Bool.and_eq_true, Bool.or_eq_false_iff, Bool.and_eq_false_imp, Option.isNone_some, Bool.false_eq_true, false_or, true_and] at hc2)
          refine WC.exit ?_
          refine EQ.thenE ?_
          refine EQ.thenE ?_
          refine EQ.blockHit ?_
          refine EQ.joined (F, ds) ?_ ?_ ?_
          · refine ⟨hs, hgood, hid, hsum, fun hfu q hq => ?_⟩
            have := hcov (ol.length + q) (by omega) (by omega)
            rw [show ((ol.length + q : Nat) : Int) - (ol.length : Int) = (q : Int) by omega] at this
            show F.snd (q : Int) = true
            rw [hgood.snd]; exact this
          · exact ((Sub.cons rfl (Sub.cons rfl (Sub.cons rfl (Sub.cons rfl (Sub.cons rfl (Sub.cons rfl (Sub.cons rfl (Sub.cons rfl (Sub.cons rfl (Sub.nil _)))))))))))
          · intro _ h; first | exact h | exact h.drop | exact h.drop_mid
      · -- join 20 1
        (try simp only at hinv ⊢)
        obtain ⟨hs, hgood, hid, hsum, hfullF⟩ := hinv
        refine WC.seq ?_
        refine WC.region ?_
        refine WL.p (.none rfl) rfl (OpP.move rfl) ?_
        refine WL.p (.none rfl) rfl (OpP.move rfl) ?_
        refine WL.call rfl (.none rfl) rfl k_41 rfl (CxX.pre (List.perm_append_comm_assoc [_] ds _) (Whole2_c hs (fFind_one hid))) ?_
        rintro _ _ ⟨wa, wn, wc, d5, rfl, rfl, hw1, _⟩
        obtain ⟨E, hE⟩ : ∃ E, E = F.wholeE := ⟨_, rfl⟩
        rw [← hE] at hw1 ⊢
        have hWh : chunks (l.length : Int) + (ol.length : Int) ≤ 200 → E = 0 ∧ F.cat = l := fun h => by rw [hE]; exact hgood.whole (by omega) hsum (hfullF h)
        refine WL.p (.none rfl) rfl (OpP.move rfl) ?_
        refine WL.p (.none rfl) rfl (OpP.extract rfl rfl) ?_
        refine WL.p (.none rfl) rfl (OpP.extract rfl rfl) ?_
        refine WL.p (.none rfl) rfl (OpP.assign rfl) ?_
        refine WL.p (.none rfl) rfl (OpP.assign rfl) ?_
        refine WL.nil ?_
        refine EQ.sub ((Sub.cons (i := 0) rfl (Sub.cons (i := 1) rfl (Sub.cons (i := 2) rfl (Sub.cons (i := 3) rfl (Sub.cons (i := 4) rfl (Sub.cons (i := 5) rfl (Sub.cons (i := 14) rfl (Sub.cons (i := 15) rfl (Sub.cons (i := 17) rfl (Sub.cons (i := 20) rfl (Sub.cons (i := 21) rfl (Sub.nil _))))))))))))) ?_
        refine EQ.code ?_
        refine WC.seq ?_
        refine WC.region ?_
        refine WL.p (.none rfl) rfl (OpP.move rfl) ?_
        refine WL.p (.none rfl) rfl (OpP.move rfl) ?_
        refine WL.p (.none rfl) rfl (OpP.lenSl rfl Try.underlying23) ?_
        first | (refine WL.p (.none rfl) rfl (OpP.add64 rfl rfl (by omega)) ?_) | (refine WL.p (.none rfl) rfl (OpP.add rfl rfl) ?_)
        refine WL.p (.none rfl) rfl (OpP.leq rfl rfl) ?_
        refine WL.p (.none rfl) rfl (OpP.assign rfl) ?_
        refine WL.nil ?_
        refine EQ.sub ((Sub.cons (i := 0) rfl (Sub.cons (i := 1) rfl (Sub.cons (i := 3) rfl (Sub.cons (i := 4) rfl (Sub.cons (i := 5) rfl (Sub.cons (i := 14) rfl (Sub.cons (i := 15) rfl (Sub.cons (i := 17) rfl (Sub.cons (i := 20) rfl (Sub.cons (i := 21) rfl (Sub.cons (i := 22) rfl (Sub.nil _))))))))))))) ?_
        refine EQ.code ?_
        refine WC.seq ?_
        refine WC.seq ?_
        refine WC.region ?_
        refine WL.p (.none rfl) rfl (OpP.move rfl) ?_
        refine WL.p (.none rfl) rfl (OpP.move rfl) ?_
        refine WL.g (.bool rfl rfl rfl) rfl (fun hg => OpP.move rfl) ?_
        refine WL.g (.bool rfl rfl rfl) rfl (fun hg => OpP.neqI (gk hg rfl) rfl) ?_
        refine WL.g (.bool rfl rfl rfl) rfl (fun hg => OpP.move (gk hg rfl)) ?_
        refine WL.g (.gv rfl rfl rfl) rfl (fun hg => OpP.move rfl) ?_
        refine WL.g (.gv rfl rfl rfl) rfl (fun hg => OpP.strOf (l := F.cat) (gk hg rfl) Try.underlying23 Try.underlying9 Try.underlying5 ((hw1 (by simp at hg; omega)).2 W0 _) (hw1 (by simp at hg; omega)).1.symm) ?_
        refine WL.g (.gv rfl rfl rfl) rfl (fun hg => OpP.move rfl) ?_
        refine WL.g (.gv rfl rfl rfl) rfl (fun hg => OpP.strOf (l := l) (gk hg rfl) Try.underlying23 Try.underlying9 Try.underlying5 (hsl _) rfl) ?_
        refine WL.g (.gv rfl rfl rfl) rfl (fun hg => OpP.neqS (gk hg rfl) (gk hg rfl)) ?_
        refine WL.g (.bool rfl rfl rfl) rfl (fun hg => OpP.por (gk hg rfl) rfl (gk2 hg rfl)) ?_
        refine WL.p (.none rfl) rfl (OpP.pand rfl rfl rfl) ?_
        refine WL.p (.none rfl) rfl (OpP.move rfl) ?_
        refine WL.g (.bool rfl rfl rfl) rfl (fun hg => OpP.move rfl) ?_
        refine WL.g (.bool rfl rfl rfl) rfl (fun hg => OpP.lss (gk hg rfl) rfl) ?_
        refine WL.p (.none rfl) rfl (OpP.por rfl rfl rfl) ?_
        refine WL.p (.none rfl) rfl (OpP.move rfl) ?_
        refine WL.g (.bool rfl rfl rfl) rfl (fun hg => OpP.move rfl) ?_
        refine WL.g (.bool rfl rfl rfl) rfl (fun hg => OpP.move rfl) ?_
        refine WL.g (.bool rfl rfl rfl) rfl (fun hg => OpP.geq (gk hg rfl) (gk hg rfl)) ?_
        refine WL.p (.none rfl) rfl (OpP.por rfl rfl rfl) ?_
        refine WL.p (.none rfl) rfl (OpP.move rfl) ?_
        refine WL.g (.bool rfl rfl rfl) rfl (fun hg => OpP.move rfl) ?_
        refine WL.g (.bool rfl rfl rfl) rfl (fun hg => OpP.lss (gk hg rfl) rfl) ?_
        refine WL.p (.none rfl) rfl (OpP.por rfl rfl rfl) ?_
        refine WL.p (.none rfl) rfl (OpP.move rfl) ?_
        refine WL.g (.bool rfl rfl rfl) rfl (fun hg => OpP.move rfl) ?_
        refine WL.g (.bool rfl rfl rfl) rfl (fun hg => OpP.move rfl) ?_
        refine WL.g (.bool rfl rfl rfl) rfl (fun hg => OpP.lenSl (gk hg rfl) Try.underlying23) ?_
        refine WL.g (.bool rfl rfl rfl) rfl (fun hg => OpP.move rfl) ?_
        refine WL.gcall rfl (.bool rfl rfl rfl) rfl k_35 (fun hg => kops2 (gk hg rfl) (gk hg rfl)) (fun hg => Length_any) ?_
        refine WL.g (.bool rfl rfl rfl) rfl (fun hg => OpP.geq (gk hg rfl) (gk hg rfl)) ?_
        refine WL.p (.none rfl) rfl (OpP.por rfl rfl rfl) ?_
        refine WL.p (.none rfl) rfl (OpP.move rfl) ?_
        refine WL.g (.bool rfl rfl rfl) rfl (fun hg => OpP.move rfl) ?_
        refine WL.g (.bool rfl rfl rfl) rfl (fun hg => OpP.eqlI (gk hg rfl) rfl) ?_
        refine WL.p (.none rfl) rfl (OpP.por rfl rfl rfl) ?_
        refine WL.nil ?_
        refine EQ.sub ((Sub.cons (i := 0) rfl (Sub.cons (i := 1) rfl (Sub.cons (i := 3) rfl (Sub.cons (i := 4) rfl (Sub.cons (i := 5) rfl (Sub.cons (i := 14) rfl (Sub.cons (i := 15) rfl (Sub.cons (i := 17) rfl (Sub.cons (i := 20) rfl (Sub.cons (i := 21) rfl (Sub.cons (i := 22) rfl (Sub.cons (i := 169) rfl (Sub.nil _)))))))))))))) ?_
        refine EQ.code ?_
        refine WC.cond rfl (fun hc10 => ?_) (fun hc10 => ?_)
        · -- cond 10 t
          (try simp only [decide_eq_true_eq, decide_eq_false_iff_not, Bool.not_eq_true', Bool.not_eq_false', Bool.or_eq_true, Bool.and_eq_true, Bool.or_eq_false_iff, Bool.and_eq_false_imp, Option.isNone_some, Bool.false_eq_true, false_or, true_and] at hc10)
          refine WC.seq ?_
          refine WC.region ?_
          refine WL.p (.none rfl) rfl (OpP.move rfl) ?_
          refine WL.p (.none rfl) rfl (OpP.not rfl) ?_
          refine WL.p (.none rfl) rfl (OpP.move rfl) ?_
          refine WL.gcall rfl (.bool rfl rfl rfl) rfl k_30 (fun hg => kops0) (fun hg => alive25_c) ?_
          refine WL.p (.none rfl) rfl (OpP.pand rfl rfl rfl) ?_
          refine WL.p (.none rfl) rfl (OpP.move rfl) ?_
          refine WL.g (.bool rfl rfl rfl) rfl (fun hg => OpP.move rfl) ?_
          refine WL.g (.bool rfl rfl rfl) rfl (fun hg => OpP.eqlI (gk hg rfl) rfl) ?_
          refine WL.g (.bool rfl rfl rfl) rfl (fun hg => OpP.move (gk hg rfl)) ?_
          refine WL.g (.gv rfl rfl rfl) rfl (fun hg => OpP.move rfl) ?_
          refine WL.g (.gv rfl rfl rfl) rfl (fun hg => OpP.strOf (l := F.cat) (gk hg rfl) Try.underlying23 Try.underlying9 Try.underlying5 ((hw1 (by simp at hg; omega)).2 W0 _) (hw1 (by simp at hg; omega)).1.symm) ?_
          refine WL.g (.gv rfl rfl rfl) rfl (fun hg => OpP.move rfl) ?_
          refine WL.g (.gv rfl rfl rfl) rfl (fun hg => OpP.strOf (l := l) (gk hg rfl) Try.underlying23 Try.underlying9 Try.underlying5 (hsl _) rfl) ?_
          refine WL.g (.gv rfl rfl rfl) rfl (fun hg => OpP.eqlS (gk hg rfl) (gk hg rfl)) ?_
          refine WL.g (.bool rfl rfl rfl) rfl (fun hg => OpP.pand (gk hg rfl) (gk2 hg rfl) rfl) ?_
          refine WL.g (.bool rfl rfl rfl) rfl (fun hg => OpP.move (gk hg rfl)) ?_
          refine WL.gcall rfl (.gv rfl rfl rfl) rfl k_30 (fun hg => kops0) (fun hg => alive25_c) ?_
          refine WL.g (.bool rfl rfl rfl) rfl (fun hg => OpP.pand (gk hg rfl) (gk2 hg rfl) rfl) ?_
          refine WL.p (.none rfl) rfl (OpP.por rfl rfl rfl) ?_
          refine WL.p (.none rfl) rfl (OpP.assign rfl) ?_
          refine WL.nil ?_
          refine EQ.sub ((Sub.cons (i := 0) rfl (Sub.cons (i := 1) rfl (Sub.cons (i := 3) rfl (Sub.cons (i := 4) rfl (Sub.cons (i := 5) rfl (Sub.cons (i := 12) rfl (Sub.cons (i := 14) rfl (Sub.cons (i := 15) rfl (Sub.cons (i := 17) rfl (Sub.cons (i := 20) rfl (Sub.cons (i := 22) rfl (Sub.nil _))))))))))))) ?_
          refine EQ.code ?_
          refine WC.ret ?_
          refine EQ.thenR ?_
          refine EQ.finD (H' := H) (res1 rfl (.tmp rfl)) (by intro _ h; first | exact h | exact h.sublist (by repeat (first | exact List.Sublist.refl _ | exact List.sublist_append_right _ _ | apply List.Sublist.cons | refine List.Sublist.trans ?_ (List.sublist_append_right _ _)))) ?_
          refine ⟨congrArg Value.bool ?_, rfl⟩
          by_cases hfu : chunks (l.length : Int) + (ol.length : Int) ≤ 200
          · obtain ⟨q1, q2⟩ := hWh hfu
            simp [hfu, q1, q2]
          · simp [hfu]
        · -- cond 10 f
          (try simp only [decide_eq_true_eq, decide_eq_false_iff_not, Bool.not_eq_true', Bool.not_eq_false', Bool.or_eq_true, Bool.and_eq_true, Bool.or_eq_false_iff, Bool.and_eq_false_imp, Option.isNone_some, Bool.false_eq_true, false_or, true_and] at hc10)
          refine WC.skip ?_
          refine EQ.code ?_
          refine WC.seq ?_
          refine WC.seq ?_
          refine WC.region ?_
          refine WL.p (.none rfl) rfl (OpP.move rfl) ?_
          refine WL.p (.none rfl) rfl (OpP.not rfl) ?_
          refine WL.nil ?_
          refine EQ.sub ((Sub.cons (i := 0) rfl (Sub.cons (i := 1) rfl (Sub.cons (i := 3) rfl (Sub.cons (i := 4) rfl (Sub.cons (i := 5) rfl (Sub.cons (i := 14) rfl (Sub.cons (i := 15) rfl (Sub.cons (i := 17) rfl (Sub.cons (i := 20) rfl (Sub.cons (i := 190) rfl (Sub.nil _)))))))))))) ?_
          refine EQ.code ?_
          refine WC.cond rfl (fun hc11 => ?_) (fun hc11 => ?_)
          · -- cond 11 t
            (try simp only [decide_eq_true_eq, decide_eq_false_iff_not, Bool.not_eq_true', Bool.not_eq_false', Bool.or_eq_true, Bool.and_eq_true, Bool.or_eq_false_iff, Bool.and_eq_false_imp, Option.isNone_some, Bool.false_eq_true, false_or, true_and] at hc11)
            refine WC.seq ?_
            refine WC.region ?_
            refine WL.callD rfl (.none rfl) rfl k_30 rfl (alive25_c) ?_
            refine WL.p (.none rfl) rfl (OpP.assign rfl) ?_
            refine WL.nil ?_
            refine EQ.sub ((Sub.cons (i := 0) rfl (Sub.cons (i := 1) rfl (Sub.cons (i := 3) rfl (Sub.cons (i := 4) rfl (Sub.cons (i := 5) rfl (Sub.cons (i := 12) rfl (Sub.cons (i := 14) rfl (Sub.cons (i := 15) rfl (Sub.cons (i := 17) rfl (Sub.cons (i := 20) rfl (Sub.nil _)))))))))))) ?_
            refine EQ.code ?_
            refine WC.ret ?_
            refine EQ.thenR ?_
            refine EQ.finD (H' := H) (res1 rfl (.tmp rfl)) (by intro _ h; first | exact h | exact h.sublist (by repeat (first | exact List.Sublist.refl _ | exact List.sublist_append_right _ _ | apply List.Sublist.cons | refine List.Sublist.trans ?_ (List.sublist_append_right _ _)))) ?_
            exact ⟨rfl, rfl⟩
          · -- cond 11 f
            (try simp only [decide_eq_true_eq, decide_eq_false_iff_not, Bool.not_eq_true', Bool.not_eq_false', Bool.or_eq_true, Bool.and_eq_true, Bool.or_eq_false_iff, Bool.and_eq_false_imp, Option.isNone_some, Bool.false_eq_true, false_or, true_and] at hc11)
            refine WC.skip ?_
            refine EQ.code ?_
            refine WC.seq ?_
            refine WC.seq ?_
            refine WC.region ?_
            have hfu : chunks (l.length : Int) + (ol.length : Int) ≤ 200 := by omega
            obtain ⟨q1, q2⟩ := hWh hfu
            obtain ⟨⟨⟨⟨⟨_, g1⟩, g2⟩, g3⟩, g4⟩, g5⟩ := hc10
            obtain ⟨iN, rfl⟩ := Int.eq_ofNat_of_zero_le (show 0 ≤ i by omega)
            obtain ⟨jN, rfl⟩ := Int.eq_ofNat_of_zero_le (show 0 ≤ ofs by omega)
            have hsnd := hfullF hfu iN (by omega)
            rw [hgood.snd] at hsnd
            obtain ⟨ch, hch⟩ := Option.isSome_iff_exists.1 hsnd
            obtain ⟨hcb, hcs⟩ := hgood.right iN ch hch
            have hcl := chunkB_len (b := l) (i := (iN : Int)) (by omega) (by omega)
            rw [← hcb] at hcl
            have hlaN := lengthAt_bd (n := (l.length : Int)) (i := (iN : Int)) (by omega) (by omega)
            refine WL.p (.none rfl) rfl (OpP.move rfl) ?_
            refine WL.p (.none rfl) rfl (OpP.move rfl) ?_
            refine WL.p (.none rfl) rfl (OpP.move rfl) ?_
            refine WL.p (.none rfl) rfl (OpP.move rfl) ?_
            refine WL.p (.none rfl) rfl (OpP.move rfl) ?_
            refine WL.call rfl (.none rfl) rfl k_42 rfl (CxX.pre (List.perm_append_comm_assoc d5 ds _) (Damage_ok (i := (iN : Int)) (F := F) (h0 := ch) (j := jN) (b := by0) hs (fFind_one hid) hch (by omega) hby)) ?_
            rintro _ _ ⟨rfl, ds6, rfl, hs6⟩
            obtain ⟨F2, hF2⟩ : ∃ F2, F2 = F.dmg (iN : Int) jN by0 := ⟨_, rfl⟩
            rw [← hF2] at hs6
            have hid2 : F2.id = id := by rw [hF2, (dmg_keeps F _ _ _).1]; exact hid
            have hsz2 : F2.size = l.length := by rw [hF2, (dmg_keeps F _ _ _).2.1]; exact hgood.size
            rw [fSet_one (by rw [hid2]; exact hid)] at hs6
            have hsnd2 : ∀ q : Nat, (q : Int) < chunks l.length → F2.snd (q : Int) = decide (q ≠ iN) := fun q hq => by
              rw [hF2]
              by_cases e : q = iN
              · subst e; rw [dmg_snd hch hcs (by rw [hcb]; exact chunkB_isB hB _) (by omega) (by omega) hby]; simp
              · rw [dmg_other hch (by omega), hfullF hfu q hq]; simp [e]
            have hhas := has_mask (F := F2) (i := iN) (by rw [hsz2]; omega)
            rw [hsz2, hsnd2 iN (by omega)] at hhas
            have hcnt := count_mask F2
            rw [hsz2, filter_one _ iN (by omega) _ (fun q hq => hsnd2 q (by omega))] at hcnt
            have hcnt : _ = chunks (l.length : Int) - 1 := hcnt.trans (by omega)
            refine WL.perm (H' := (b15, cl [.int .i64 (chunks l.length), .int .u64 0] 38) :: (ds6 ++ (d5 ++ ((b13, cl (infoL X) 34) :: (b32, cl [.slice a l.length cp] 23) :: H)))) ((List.Perm.append_left ds6 List.perm_middle).trans List.perm_middle) ?_
            refine WL.p (.none rfl) rfl (OpP.neqI rfl rfl) ?_
            refine WL.nil ?_
            refine EQ.sub ((Sub.cons (i := 0) rfl (Sub.cons (i := 1) rfl (Sub.cons (i := 3) rfl (Sub.cons (i := 14) rfl (Sub.cons (i := 15) rfl (Sub.cons (i := 17) rfl (Sub.cons (i := 20) rfl (Sub.cons (i := 198) rfl (Sub.nil _)))))))))) ?_
            refine EQ.code ?_
            refine WC.condF rfl ?_
            refine WC.skip ?_
            refine EQ.code ?_
            refine WC.seq ?_
            refine WC.region ?_
            refine WL.p (.none rfl) rfl (OpP.move rfl) ?_
            refine WL.p (.none rfl) rfl (OpP.move rfl) ?_
            refine WL.callD rfl (.none rfl) rfl k_43 rfl (CxD.perm (List.perm_append_comm_assoc [_] ds6 _) (CxD.to (Map2_c hs6 (fFind_one hid2)) (by rw [hsz2]) rfl)) ?_
            refine WL.p (.none rfl) rfl (OpP.move rfl) ?_
            refine WL.p (.none rfl) rfl (OpP.extract rfl rfl) ?_
            refine WL.p (.none rfl) rfl (OpP.extract rfl rfl) ?_
            first | (refine WL.s (.none rfl) rfl (OpS.storeAll rfl rfl ty_38 (by repeat (first | assumption | exact at0 | exact set_hit (by first | assumption | exact set_hit (by assumption)) | apply ats)) (by rfl) (by rfl) (by rfl) (by rfl)) ?_) | (refine WL.s (.none rfl) rfl (OpS.store rfl rfl ty_38 (by repeat (first | assumption | exact at0 | exact set_hit (by first | assumption | exact set_hit (by assumption)) | apply ats)) (by rfl) (by rfl) (by rfl) (by rfl)) ?_)
            refine WL.p (.none rfl) rfl (OpP.assign rfl) ?_
            refine WL.nil ?_
            refine EQ.sub ((Sub.cons (i := 0) rfl (Sub.cons (i := 1) rfl (Sub.cons (i := 3) rfl (Sub.cons (i := 14) rfl (Sub.cons (i := 15) rfl (Sub.cons (i := 17) rfl (Sub.cons (i := 20) rfl (Sub.cons (i := 23) rfl (Sub.nil _)))))))))) ?_
            refine EQ.code ?_
            refine WC.seq ?_
            refine WC.region ?_
            refine WL.p (.none rfl) rfl (OpP.move rfl) ?_
            refine WL.p (.none rfl) rfl (OpP.move rfl) ?_
            refine WL.call rfl (.none rfl) rfl k_41 rfl (CxX.pre (List.perm_append_comm_assoc [_] ds6 _) (Whole2_c hs6 (fFind_one hid2))) ?_
            rintro _ _ ⟨wa2, wn2, wc2, d7, rfl, rfl, _, _⟩
            rw [show F2.wholeE = 10 from not_all (i := iN) (by rw [hsz2]; omega) (by rw [hsnd2 iN (by omega)]; simp)]
            refine WL.p (.none rfl) rfl (OpP.move rfl) ?_
            refine WL.p (.none rfl) rfl (OpP.extract rfl rfl) ?_
            refine WL.p (.none rfl) rfl (OpP.extract rfl rfl) ?_
            refine WL.p (.none rfl) rfl (OpP.assign rfl) ?_
            refine WL.p (.none rfl) rfl (OpP.assign rfl) ?_
            refine WL.nil ?_
            refine EQ.sub ((Sub.cons (i := 0) rfl (Sub.cons (i := 1) rfl (Sub.cons (i := 3) rfl (Sub.cons (i := 14) rfl (Sub.cons (i := 15) rfl (Sub.cons (i := 17) rfl (Sub.cons (i := 20) rfl (Sub.cons (i := 23) rfl (Sub.cons (i := 25) rfl (Sub.nil _))))))))))) ?_
            refine EQ.code ?_
            refine WC.seq ?_
            refine WC.seq ?_
            refine WC.region ?_
            refine WL.p (.none rfl) rfl (OpP.move rfl) ?_
            refine WL.p (.none rfl) rfl (OpP.neqI rfl rfl) ?_
            refine WL.p (.none rfl) rfl (OpP.move rfl) ?_
            refine WL.p (.yes rfl rfl rfl) rfl (OpP.loadB rfl ty_38 (by repeat (first | assumption | exact List.mem_cons_self | exact List.mem_of_getElem? (by assumption) | exact set_mem (by first | assumption | exact set_hit (by assumption)) | apply List.mem_cons_of_mem | apply List.mem_append_right)) (by rfl)) ?_
            refine WL.p (.yes rfl rfl rfl) rfl (OpP.move rfl) ?_
            refine WL.callD rfl (.yes rfl rfl rfl) rfl k_44 rfl (CxD.to (Has_c (by omega) (by have := mask_lt F2; omega) (by omega) (by omega)) (show _ = Value.bool false by rw [hhas]; simp) rfl) ?_
            refine WL.p (.none rfl) rfl (OpP.por rfl rfl rfl) ?_
            refine WL.p (.none rfl) rfl (OpP.move rfl) ?_
            refine WL.g (.bool rfl rfl rfl) rfl (fun hg => OpP.loadB rfl ty_38 (by repeat (first | assumption | exact List.mem_cons_self | exact List.mem_of_getElem? (by assumption) | exact set_mem (by first | assumption | exact set_hit (by assumption)) | apply List.mem_cons_of_mem | apply List.mem_append_right)) (by rfl)) ?_
            refine WL.gcall rfl (.bool rfl rfl rfl) rfl k_39 (fun hg => kops1 (gk hg rfl)) (fun hg => CxD.to (Count_c (by omega) (by have := mask_lt F2; omega)) (show _ = Value.int .i64 (chunks l.length - 1) by rw [hcnt]) rfl) ?_
            refine WL.g (.bool rfl rfl rfl) rfl (fun hg => OpP.move rfl) ?_
            first | (refine WL.g (.bool rfl rfl rfl) rfl (fun hg => OpP.sub64 (gk hg rfl) rfl (by (try simp at hg); omega)) ?_) | (refine WL.g (.bool rfl rfl rfl) rfl (fun hg => OpP.sub (gk hg rfl) rfl) ?_)
            refine WL.g (.bool rfl rfl rfl) rfl (fun hg => OpP.neqI (gk hg rfl) (gk hg rfl)) ?_
            refine WL.p (.none rfl) rfl (OpP.por rfl rfl rfl) ?_
            refine WL.p (.none rfl) rfl (OpP.move rfl) ?_
            refine WL.g (.bool rfl rfl rfl) rfl (fun hg => OpP.move rfl) ?_
            refine WL.g (.bool rfl rfl rfl) rfl (fun hg => OpP.neqI (gk hg rfl) rfl) ?_
            refine WL.p (.none rfl) rfl (OpP.por rfl rfl rfl) ?_
            refine WL.nil ?_
            refine EQ.sub ((Sub.cons (i := 0) rfl (Sub.cons (i := 1) rfl (Sub.cons (i := 3) rfl (Sub.cons (i := 14) rfl (Sub.cons (i := 20) rfl (Sub.cons (i := 228) rfl (Sub.nil _)))))))) ?_
            refine EQ.code ?_
            refine WC.cond rfl (fun hc13 => ?_) (fun hc13 => ?_)
            · -- cond 13 t
              (try simp only [decide_eq_true_eq, decide_eq_false_iff_not, Bool.not_eq_true', Bool.not_eq_false', Bool.or_eq_true, Bool.and_eq_true, Bool.or_eq_false_iff, Bool.and_eq_false_imp, Option.isNone_some, Bool.false_eq_true, false_or, true_and] at hc13)
              exfalso; simp at hc13
            · -- cond 13 f
              (try simp only [decide_eq_true_eq, decide_eq_false_iff_not, Bool.not_eq_true', Bool.not_eq_false', Bool.or_eq_true, Bool.and_eq_true, Bool.or_eq_false_iff, Bool.and_eq_false_imp, Option.isNone_some, Bool.false_eq_true, false_or, true_and] at hc13)
              refine WC.skip ?_
              refine EQ.code ?_
              refine WC.seq ?_
              refine WC.region ?_
              refine WL.p (.none rfl) rfl (OpP.move rfl) ?_
              refine WL.p (.none rfl) rfl (OpP.move rfl) ?_
              refine WL.p (.none rfl) rfl (OpP.move rfl) ?_
              refine WL.p (.none rfl) rfl (OpP.move rfl) ?_
              refine WL.p (.none rfl) rfl (OpP.move rfl) ?_
              first | (refine WL.p (.none rfl) rfl (OpP.mul64 rfl rfl (by omega)) ?_) | (refine WL.p (.none rfl) rfl (OpP.mul rfl rfl) ?_)
              refine WL.p (.none rfl) rfl (OpP.move rfl) ?_
              first | (refine WL.p (.none rfl) rfl (OpP.mul64 rfl rfl (by omega)) ?_) | (refine WL.p (.none rfl) rfl (OpP.mul rfl rfl) ?_)
              refine WL.p (.none rfl) rfl (OpP.move rfl) ?_
              refine WL.p (.none rfl) rfl (OpP.lenSl rfl Try.underlying23) ?_
              refine WL.p (.none rfl) rfl (OpP.move rfl) ?_
              refine WL.callD rfl (.none rfl) rfl k_35 rfl (Length_any) ?_
              first | (refine WL.p (.none rfl) rfl (OpP.add64 rfl rfl (by omega)) ?_) | (refine WL.p (.none rfl) rfl (OpP.add rfl rfl) ?_)
              refine WL.p (.none rfl) rfl (OpP.slice rfl sl_23 (l := _) (⟨_, rfl⟩) (rfl) (⟨_, rfl⟩) (by omega) (by omega) (by omega) (by omega)) ?_
              refine WL.call rfl (.none rfl) rfl k_40 rfl (CxX.pre (List.perm_append_comm_assoc d7 ds6 _) (Write_ok (i := (iN : Int)) (F := F2) (l := chunkB l ((iN : Int))) hs6 (fFind_one hid2) (by unfold wOk; rw [hsz2]; exact ⟨by omega, by omega, by have := lengthAt_bd (n := (l.length : Int)) (i := (iN : Int)) (by omega) (by omega); omega⟩) (by rw [chunkB_len (by omega) (by omega)]; omega) (chunkB_isB hB _) (Sl.via (((hsl _).cutB (64 * ((iN : Int))) _ (by intro hq; omega)).takeB _)))) ?_
              rintro _ _ ⟨rfl, ds8, rfl, hs8⟩
              have hs8 : SR [F2.put (iN : Int) (chunkB l (iN : Int))] g ds8 := by rwa [show fSet [F2] (F2.put (iN : Int) (chunkB l (iN : Int))) = [F2.put (iN : Int) (chunkB l (iN : Int))] from fSet_one rfl] at hs8
              refine WL.p (.none rfl) rfl (OpP.assign rfl) ?_
              refine WL.nil ?_
              refine EQ.sub ((Sub.cons (i := 0) rfl (Sub.cons (i := 1) rfl (Sub.cons (i := 14) rfl (Sub.cons (i := 20) rfl (Sub.cons (i := 26) rfl (Sub.nil _))))))) ?_
              refine EQ.code ?_
              refine WC.seq ?_
              refine WC.region ?_
              refine WL.p (.none rfl) rfl (OpP.move rfl) ?_
              refine WL.p (.none rfl) rfl (OpP.move rfl) ?_
              refine WL.call rfl (.none rfl) rfl k_41 rfl (Whole2_c hs8 (fFind_one hid2)) ?_
              rintro _ _ ⟨wa3, wn3, wc3, d9, rfl, rfl, hw3, _⟩
              have hg3 : Good (F2.put (iN : Int) (chunkB l (iN : Int))) l := by rw [hF2]; exact hgood.mend hch
              obtain ⟨e3, e4⟩ := hg3.whole (by omega) (by show F2.sum = _; rw [hF2, (dmg_keeps F _ _ _).2.2]; exact hsum) (fun q hq => by rw [put_snd]; split; rfl; rename_i hne; rw [hsnd2 q hq]; simp; omega)
              obtain ⟨h5, h6⟩ := hw3 e3
              rw [e4] at h5 h6
              subst h5
              rw [e3]
              refine WL.p (.none rfl) rfl (OpP.move rfl) ?_
              refine WL.p (.none rfl) rfl (OpP.extract rfl rfl) ?_
              refine WL.p (.none rfl) rfl (OpP.extract rfl rfl) ?_
              refine WL.p (.none rfl) rfl (OpP.assign rfl) ?_
              refine WL.p (.none rfl) rfl (OpP.assign rfl) ?_
              refine WL.nil ?_
              refine EQ.sub ((Sub.cons (i := 1) rfl (Sub.cons (i := 20) rfl (Sub.cons (i := 26) rfl (Sub.cons (i := 27) rfl (Sub.nil _)))))) ?_
              refine EQ.code ?_
              refine WC.seq ?_
              refine WC.region ?_
              refine WL.callD rfl (.none rfl) rfl k_30 rfl (alive25_c) ?_
              refine WL.p (.none rfl) rfl (OpP.move rfl) ?_
              refine WL.p (.yes rfl rfl rfl) rfl (OpP.move rfl) ?_
              refine WL.p (.yes rfl rfl rfl) rfl (OpP.eqlI rfl rfl) ?_
              refine WL.p (.none rfl) rfl (OpP.pand rfl rfl rfl) ?_
              refine WL.p (.none rfl) rfl (OpP.move rfl) ?_
              refine WL.p (.yes rfl rfl rfl) rfl (OpP.move rfl) ?_
              refine WL.p (.yes rfl rfl rfl) rfl (OpP.eqlI rfl rfl) ?_
              refine WL.p (.none rfl) rfl (OpP.pand rfl rfl rfl) ?_
              refine WL.p (.none rfl) rfl (OpP.move rfl) ?_
              refine WL.p (.yes rfl rfl rfl) rfl (OpP.move rfl) ?_
              refine WL.p (.yes rfl rfl rfl) rfl (OpP.strOf (l := l) rfl Try.underlying23 Try.underlying9 Try.underlying5 (h6 W0 _) rfl) ?_
              refine WL.p (.yes rfl rfl rfl) rfl (OpP.move rfl) ?_
              refine WL.p (.yes rfl rfl rfl) rfl (OpP.strOf (l := l) rfl Try.underlying23 Try.underlying9 Try.underlying5 (hsl _) rfl) ?_
              refine WL.p (.yes rfl rfl rfl) rfl (OpP.eqlS rfl rfl) ?_
              refine WL.p (.none rfl) rfl (OpP.pand rfl rfl rfl) ?_
              refine WL.p (.none rfl) rfl (OpP.assign rfl) ?_
              refine WL.nil ?_
              refine EQ.sub ((Sub.cons (i := 12) rfl (Sub.nil _))) ?_
              refine EQ.code ?_
              refine WC.ret ?_
              refine EQ.finD (H' := H) (res1 rfl (.tmp rfl)) (by intro _ h; first | exact h | exact h.sublist (by repeat (first | exact List.Sublist.refl _ | exact List.sublist_append_right _ _ | apply List.Sublist.cons | refine List.Sublist.trans ?_ (List.sublist_append_right _ _)))) ?_
              exact ⟨by simp, rfl⟩

end Go.Proofs.Ytmeimjpjelmchaa
