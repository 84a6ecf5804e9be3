/- Sw: walks of functions of the program, each over the rules of Sx. No conditions but those in the theorems' heads. -/
import Derived.Test.YtmeimjpjelmchaaSt
import Derived.Test.YtmeimjpjelmchaaProg
set_option linter.unusedVariables false
set_option linter.unusedSimpArgs false
namespace Go.Proofs.Ytmeimjpjelmchaa
open Go.RowKit Go.Sx
namespace Sw
theorem bld_97 : bldS Try.prog 97 = some ([(0, 1)], [.map none]) := by kernel_rfl
theorem fld_101_0 : fldI Try.prog 101 0 = some (0, true, 35) := by kernel_rfl
theorem fld_101_1 : fldI Try.prog 101 1 = some (35, false, 1) := by kernel_rfl
theorem fld_110_0 : fldI Try.prog 110 0 = some (0, false, 1) := by kernel_rfl
theorem fld_110_1 : fldI Try.prog 110 1 = some (1, false, 1) := by kernel_rfl
theorem fld_34_2 : fldI Try.prog 34 2 = some (2, false, 1) := by kernel_rfl
theorem fld_97_0 : fldI Try.prog 97 0 = some (0, false, 1) := by kernel_rfl
theorem k_34 : Cal Try.prog 34 := ⟨_, _, Try.func34, by kernel_rfl, rfl⟩
theorem k_45 : Cal Try.prog 45 := ⟨_, _, Try.func45, by kernel_rfl, rfl⟩
theorem k_46 : Cal Try.prog 46 := ⟨_, _, Try.func46, by kernel_rfl, rfl⟩
theorem k_58 : Cal Try.prog 58 := ⟨_, _, Try.func58, by kernel_rfl, rfl⟩
theorem k_63 : Cal Try.prog 63 := ⟨_, _, Try.func63, by kernel_rfl, rfl⟩
theorem k_64 : Cal Try.prog 64 := ⟨_, _, Try.func64, by kernel_rfl, rfl⟩
theorem map_95 : mapI Try.prog 95 = some (22, .u64, (.pointer none)) := by kernel_rfl
theorem map_99 : mapI Try.prog 99 = some (3, .i64, .agg ⟨[.slice none 0 0, .int .u32 0]⟩) := by kernel_rfl
theorem ty_107 : tyI Try.prog 107 = some (false, 1) := by kernel_rfl
theorem ty_110 : tyI Try.prog 110 = some (true, 2) := by kernel_rfl
theorem ty_23 : tyI Try.prog 23 = some (false, 1) := by kernel_rfl
theorem ty_3 : tyI Try.prog 3 = some (false, 1) := by kernel_rfl
theorem ty_38 : tyI Try.prog 38 = some (true, 2) := by kernel_rfl
theorem ty_95 : tyI Try.prog 95 = some (false, 1) := by kernel_rfl
theorem ty_99 : tyI Try.prog 99 = some (false, 1) := by kernel_rfl
theorem z_110 : zI Try.prog 110 = some [.slice none 0 0, .int .u32 0] := by kernel_rfl
theorem z_38 : zI Try.prog 38 = some [.int .i64 0, .int .u64 0] := by kernel_rfl
end Sw
open Sw

theorem CxD.perm {P : Program} {W0 : World} {f : FuncId} {args : Array Value} {H H1 : Hp} {v : Value} (hp : H.Perm H1) (h : CxD P W0 f args H1 v H1) : CxD P W0 f args H v H := fun w hS =>
  (h w (hS.perm hp)).mono fun _ _ ⟨v', H', he, ⟨e1, e2⟩, hS'⟩ => by subst e1 e2; exact ⟨_, _, he, ⟨rfl, rfl⟩, hS'.perm hp.symm⟩
/-- A file that can be seen. -/
def See (W0 : World) (H : Hp) (F : FileM) (fb : Nat) : Prop := ∃ cb ces cc ds, (fb, fobj F cb) ∈ H ∧ (cb, mobj .i64 ces cc) ∈ H ∧ (∀ w, St W0 w H → St W0 w ds) ∧ ChR F.ch ces ds
theorem See.cons {W0 : World} {H : Hp} {F : FileM} {fb : Nat} (h : See W0 H F fb) (p : Nat × Obj) : See W0 (p :: H) F fb := by
  obtain ⟨cb, ces, cc, ds, h1, h2, h3, h4⟩ := h
  exact ⟨cb, ces, cc, ds, List.mem_cons_of_mem _ h1, List.mem_cons_of_mem _ h2, fun w hS => h3 w hS.drop, h4⟩
theorem See.app {W0 : World} {H : Hp} {F : FileM} {fb : Nat} (h : See W0 H F fb) (d : Hp) : See W0 (d ++ H) F fb := by
  obtain ⟨cb, ces, cc, ds, h1, h2, h3, h4⟩ := h
  exact ⟨cb, ces, cc, ds, List.mem_append_right _ h1, List.mem_append_right _ h2, fun w hS => h3 w (hS.sublist (List.sublist_append_right _ _)), h4⟩
theorem See.of {W0 : World} {H : Hp} {F : FileM} {fb : Nat} {sg : Hp} (h : FR F fb sg) (hs : sg.Sublist H) : See W0 H F fb := by
  obtain ⟨cb, ces, cc, ds, rfl, _, h4⟩ := h
  exact ⟨cb, ces, cc, ds, hs.subset (by simp), hs.subset (by simp), fun w hS => hS.sublist ((((List.Sublist.refl _).cons _).cons _).trans hs), h4⟩

set_option maxRecDepth 100000 in
theorem sound_some {W0 : World} {H : Hp} {F : FileM} {fb : Nat} {j : Int} {h0 : Ch} (hs : See W0 H F fb) (hl : F.look j = some h0) : CxD Try.prog W0 64 #[.pointer (some ⟨fb, 0, none⟩), .int .i64 j] H (.bool (decide (((crcOf h0.b : Nat) : Int) = (h0.s : Int)))) H := by
  obtain ⟨cb, ces, cc, ds, hm1, hm2, hds, hch⟩ := hs
  obtain ⟨a, c, hlk, hl64, hb, hsl⟩ := chr_see hch j h0 hl
  refine enter Try.func64 rfl Try.ntmps64 rfl ?_
  refine WC.seq ?_
  refine WC.region ?_
  refine WL.p (.none rfl) rfl (OpP.assign rfl) ?_
  refine WL.nil ?_
  refine EQ.sub ((Sub.cons (i := 0) rfl (Sub.cons (i := 1) rfl (Sub.cons (i := 4) rfl (Sub.nil _))))) ?_
  refine EQ.code ?_
  refine WC.seq ?_
  refine WC.region ?_
  refine WL.p (.none rfl) rfl (OpP.move rfl) ?_
  refine WL.p (.none rfl) rfl (OpP.nilCheck rfl) ?_
  refine WL.p (.none rfl) rfl (OpP.fieldAddr rfl fld_101_1) ?_
  refine WL.p (.none rfl) rfl (OpP.load rfl ty_99 (Rd.own (by repeat (first | assumption | exact List.mem_cons_self | exact List.mem_of_getElem? (by assumption) | exact set_mem (by first | assumption | exact set_hit (by assumption)) | apply List.mem_cons_of_mem | apply List.mem_append_right)) (by rfl))) ?_
  refine WL.p (.none rfl) rfl (OpP.move rfl) ?_
  refine WL.p (.none rfl) rfl (OpP.look2S rfl rfl map_99 hm2 hlk) ?_
  refine WL.p (.none rfl) rfl (OpP.move rfl) ?_
  refine WL.p (.none rfl) rfl (OpP.extract rfl rfl) ?_
  refine WL.p (.none rfl) rfl (OpP.extract rfl rfl) ?_
  refine WL.allocX z_110 rfl (fun b5 => ?_)
  first | (refine WL.s (.none rfl) rfl (OpS.storeAll rfl rfl ty_110 (by repeat (first | assumption | exact at0 | exact set_hit (by first | assumption | exact set_hit (by assumption)) | apply ats)) (by rfl) (by rfl) (by rfl) (by rfl)) ?_) | (refine WL.s (.none rfl) rfl (OpS.store rfl rfl ty_110 (by repeat (first | assumption | exact at0 | exact set_hit (by first | assumption | exact set_hit (by assumption)) | apply ats)) (by rfl) (by rfl) (by rfl) (by rfl)) ?_)
  refine WL.p (.none rfl) rfl (OpP.assign rfl) ?_
  refine WL.nil ?_
  refine EQ.sub ((Sub.cons (i := 4) rfl (Sub.cons (i := 5) rfl (Sub.cons (i := 6) rfl (Sub.nil _))))) ?_
  refine EQ.code ?_
  refine WC.seq ?_
  refine WC.draw (by kernel_rfl) (by kernel_rfl) ?_
  refine WQ.p (.none rfl) rfl (OpP.move rfl) ?_
  refine WQ.p (.none rfl) rfl (OpP.move rfl) ?_
  refine WQ.p (.yes rfl rfl rfl) rfl (OpP.fieldAddr rfl fld_110_0) ?_
  refine WQ.p (.yes rfl rfl rfl) rfl (OpP.load rfl ty_23 (Rd.own (by repeat (first | assumption | exact List.mem_cons_self | exact List.mem_of_getElem? (by assumption) | exact set_mem (by first | assumption | exact set_hit (by assumption)) | apply List.mem_cons_of_mem | apply List.mem_append_right)) (by rfl))) ?_
  refine WQ.callD rfl (.yes rfl rfl rfl) rfl k_63 rfl (crcOf_c rfl (by omega) hb ((hsl W0 H hds).cons)) ?_
  refine WQ.p (.yes rfl rfl rfl) rfl (OpP.fieldAddr rfl fld_110_1) ?_
  refine WQ.p (.yes rfl rfl rfl) rfl (OpP.load rfl ty_107 (Rd.own (by repeat (first | assumption | exact List.mem_cons_self | exact List.mem_of_getElem? (by assumption) | exact set_mem (by first | assumption | exact set_hit (by assumption)) | apply List.mem_cons_of_mem | apply List.mem_append_right)) (by rfl))) ?_
  refine WQ.p (.yes rfl rfl rfl) rfl (OpP.eqlI rfl rfl) ?_
  refine WQ.p (.none rfl) rfl (OpP.pand rfl rfl rfl) ?_
  refine WQ.p (.none rfl) rfl (OpP.assign rfl) ?_
  refine WQ.done ?_
  refine EQ.sub ((Sub.cons (i := 4) rfl (Sub.nil _))) ?_
  refine EQ.code ?_
  refine WC.ret ?_
  refine EQ.finD (H' := H) (res1 rfl (.tmp rfl)) (by intro _ h; first | exact h | exact h.drop | exact h.drop.drop | exact h.drop.drop.drop | exact h.drop.drop.drop.drop | exact h.drop.drop.drop.drop.drop | exact h.drop.drop.drop.drop.drop.drop | exact h.drop_mid) ?_
  exact ⟨by simp, rfl⟩

set_option maxRecDepth 100000 in
theorem sound_none {W0 : World} {H : Hp} {F : FileM} {fb : Nat} {j : Int} (hs : See W0 H F fb) (hl : F.look j = none) : CxD Try.prog W0 64 #[.pointer (some ⟨fb, 0, none⟩), .int .i64 j] H (.bool false) H := by
  obtain ⟨cb, ces, cc, ds, hm1, hm2, hds, hch⟩ := hs
  have hlk := chr_none hch j hl
  refine enter Try.func64 rfl Try.ntmps64 rfl ?_
  refine WC.seq ?_
  refine WC.region ?_
  refine WL.p (.none rfl) rfl (OpP.assign rfl) ?_
  refine WL.nil ?_
  refine EQ.sub ((Sub.cons (i := 0) rfl (Sub.cons (i := 1) rfl (Sub.cons (i := 4) rfl (Sub.nil _))))) ?_
  refine EQ.code ?_
  refine WC.seq ?_
  refine WC.region ?_
  refine WL.p (.none rfl) rfl (OpP.move rfl) ?_
  refine WL.p (.none rfl) rfl (OpP.nilCheck rfl) ?_
  refine WL.p (.none rfl) rfl (OpP.fieldAddr rfl fld_101_1) ?_
  refine WL.p (.none rfl) rfl (OpP.load rfl ty_99 (Rd.own (by repeat (first | assumption | exact List.mem_cons_self | exact List.mem_of_getElem? (by assumption) | exact set_mem (by first | assumption | exact set_hit (by assumption)) | apply List.mem_cons_of_mem | apply List.mem_append_right)) (by rfl))) ?_
  refine WL.p (.none rfl) rfl (OpP.move rfl) ?_
  refine WL.p (.none rfl) rfl (OpP.look2N rfl rfl map_99 hm2 hlk) ?_
  refine WL.p (.none rfl) rfl (OpP.move rfl) ?_
  refine WL.p (.none rfl) rfl (OpP.extract rfl rfl) ?_
  refine WL.p (.none rfl) rfl (OpP.extract rfl rfl) ?_
  refine WL.allocX z_110 rfl (fun b5 => ?_)
  first | (refine WL.s (.none rfl) rfl (OpS.storeAll rfl rfl ty_110 (by repeat (first | assumption | exact at0 | exact set_hit (by first | assumption | exact set_hit (by assumption)) | apply ats)) (by rfl) (by rfl) (by rfl) (by rfl)) ?_) | (refine WL.s (.none rfl) rfl (OpS.store rfl rfl ty_110 (by repeat (first | assumption | exact at0 | exact set_hit (by first | assumption | exact set_hit (by assumption)) | apply ats)) (by rfl) (by rfl) (by rfl) (by rfl)) ?_)
  refine WL.p (.none rfl) rfl (OpP.assign rfl) ?_
  refine WL.nil ?_
  refine EQ.sub ((Sub.cons (i := 4) rfl (Sub.cons (i := 5) rfl (Sub.cons (i := 6) rfl (Sub.nil _))))) ?_
  refine EQ.code ?_
  refine WC.seq ?_
  refine WC.draw (by kernel_rfl) (by kernel_rfl) ?_
  refine WQ.p (.none rfl) rfl (OpP.move rfl) ?_
  refine WQ.p (.none rfl) rfl (OpP.move rfl) ?_
  first | (refine WQ.skip (.no rfl rfl rfl) rfl ?_) | (refine WQ.skip (.un rfl rfl rfl) rfl ?_)
  first | (refine WQ.skip (.no rfl rfl rfl) rfl ?_) | (refine WQ.skip (.un rfl rfl rfl) rfl ?_)
  first | (refine WQ.skip (.no rfl rfl rfl) rfl ?_) | (refine WQ.skip (.un rfl rfl rfl) rfl ?_)
  first | (refine WQ.skip (.no rfl rfl rfl) rfl ?_) | (refine WQ.skip (.un rfl rfl rfl) rfl ?_)
  first | (refine WQ.skip (.no rfl rfl rfl) rfl ?_) | (refine WQ.skip (.un rfl rfl rfl) rfl ?_)
  first | (refine WQ.skip (.no rfl rfl rfl) rfl ?_) | (refine WQ.skip (.un rfl rfl rfl) rfl ?_)
  first | (refine WQ.p (.none rfl) rfl (OpP.pickT rfl rfl) ?_) | (refine WQ.p (.none rfl) rfl (OpP.pickF rfl rfl) ?_) | (refine WQ.p (.none rfl) rfl (OpP.pand rfl rfl rfl) ?_)
  refine WQ.p (.none rfl) rfl (OpP.assign rfl) ?_
  refine WQ.done ?_
  refine EQ.sub ((Sub.cons (i := 4) rfl (Sub.nil _))) ?_
  refine EQ.code ?_
  refine WC.ret ?_
  refine EQ.finD (H' := H) (res1 rfl (.tmp rfl)) (by intro _ h; first | exact h | exact h.drop | exact h.drop.drop | exact h.drop.drop.drop | exact h.drop.drop.drop.drop | exact h.drop.drop.drop.drop.drop | exact h.drop.drop.drop.drop.drop.drop | exact h.drop_mid) ?_
  exact ⟨rfl, rfl⟩

theorem sound_c {W0 : World} {H : Hp} {F : FileM} {fb : Nat} {j : Int} (hs : See W0 H F fb) : CxD Try.prog W0 64 #[.pointer (some ⟨fb, 0, none⟩), .int .i64 j] H (.bool (F.snd j)) H := by
  unfold FileM.snd
  cases hl : F.look j with
  | none => exact sound_none hs hl
  | some h0 => exact CxD.to (sound_some hs hl) (by simp only [Int.ofNat_inj]) rfl
/-- The bits of what is there below k. -/
def maskN (p : Nat → Bool) : Nat → Nat
  | 0 => 0
  | k + 1 => maskN p k + if p k then 2 ^ k else 0
theorem maskN_lt (p : Nat → Bool) : ∀ k, maskN p k < 2 ^ k
  | 0 => by simp [maskN]
  | k + 1 => by
    have := maskN_lt p k
    simp only [maskN, Nat.pow_succ]
    split <;> omega
theorem maskN_bit (p : Nat → Bool) : ∀ k i, i < k → (maskN p k).testBit i = p i
  | 0, i, h => by omega
  | k + 1, i, h => by
    simp only [maskN]
    have hlt := maskN_lt p k
    have hadd : maskN p k + (if p k then 2 ^ k else 0) = 2 ^ k * (if p k then 1 else 0) + maskN p k := by split <;> simp [Nat.add_comm]
    rw [hadd, Nat.testBit_two_pow_mul_add _ hlt]
    by_cases e : i = k
    · subst e; cases hp : p i <;> simp
    · rw [if_pos (by omega)]; exact maskN_bit p k i (by omega)
theorem maskN_right (p : Nat → Bool) {n : Int} {k : Nat} (h0 : 0 ≤ n) (h : n ≤ 64) (hk : (k : Int) ≤ n) : mRight n ((maskN p k : Nat) : Int) = true := by
  unfold mRight
  have h1 := maskN_lt p k
  have h2 : 2 ^ k ≤ 2 ^ n.toNat := Nat.pow_le_pow_right (by omega) (by omega)
  have hc : ((2 ^ n.toNat : Nat) : Int) = (2 : Int) ^ n.toNat := by push_cast; rfl
  simp only [h0, h, decide_true, Bool.true_and, decide_eq_true_eq]
  omega
theorem maskN_lt64 (p : Nat → Bool) {k : Nat} (hk : k ≤ 64) : maskN p k < 18446744073709551616 := by
  have h1 := maskN_lt p k
  have h2 : 2 ^ k ≤ 2 ^ 64 := Nat.pow_le_pow_right (by omega) hk
  have h3 : (2 : Nat) ^ 64 = 18446744073709551616 := by decide
  omega
theorem maskN_no (p : Nat → Bool) (k : Nat) : mBit ((maskN p k : Nat) : Int) (k : Int) = false := by
  rw [mBit_nat]; exact Nat.testBit_lt_two_pow (maskN_lt p k)
theorem WithM_c {W0 : World} {H : Hp} {p : Nat → Bool} {n : Int} {k : Nat} (h0 : 0 ≤ n) (h : n ≤ 64) (hk : (k : Int) < n) (hp : p k = true) :
    CxD Try.prog W0 46 #[mv n ((maskN p k : Nat) : Int), .int .i64 (k : Int)] H (.tuple #[mv n ((maskN p (k + 1) : Nat) : Int), .int .i64 0]) H :=
  CxD.to (With_c (by omega) (by have := maskN_lt64 p (k := k) (by omega); omega) (maskN_right p h0 h (by omega)) (by omega) hk) (by
    rw [maskN_no]
    have e : ((maskN p (k + 1) : Nat) : Int) = ((maskN p k : Nat) : Int) + 2 ^ k := by simp only [maskN, hp, if_true]; push_cast; rfl
    rw [e, Int.toNat_natCast]; rfl) rfl
def FileM.mask (F : FileM) : Nat := maskN (fun i => F.snd (i : Int)) (chunks F.size).toNat

set_option maxRecDepth 100000 in
theorem bits_c {W0 : World} {H : Hp} {F : FileM} {fb : Nat} (hs : See W0 H F fb) : CxD Try.prog W0 59 #[.pointer (some ⟨fb, 0, none⟩)] H (.tuple #[mv (chunks F.size) ((F.mask : Nat) : Int), .int .i64 0]) H := by
  have hch2 := chunks_bd F.size
  obtain ⟨cb, ces, cc, ds, hm1, hm2, hds, hch⟩ := id hs
  refine enter Try.func59 rfl Try.ntmps59 rfl ?_
  refine WC.seq ?_
  refine WC.region ?_
  refine WL.allocX z_38 rfl (fun b2 => ?_)
  refine WL.p (.none rfl) rfl (OpP.assign rfl) ?_
  refine WL.nil ?_
  refine EQ.sub ((Sub.cons (i := 0) rfl (Sub.cons (i := 2) rfl (Sub.cons (i := 3) rfl (Sub.nil _))))) ?_
  refine EQ.code ?_
  refine WC.seq ?_
  refine WC.region ?_
  refine WL.p (.none rfl) rfl (OpP.move rfl) ?_
  refine WL.p (.none rfl) rfl (OpP.nilCheck rfl) ?_
  refine WL.p (.none rfl) rfl (OpP.fieldAddr rfl fld_101_0) ?_
  refine WL.p (.none rfl) rfl (OpP.fieldAddr rfl fld_34_2) ?_
  refine WL.p (.none rfl) rfl (OpP.load rfl ty_3 (Rd.own (by repeat (first | assumption | exact List.mem_cons_self | exact List.mem_of_getElem? (by assumption) | exact set_mem (by first | assumption | exact set_hit (by assumption)) | apply List.mem_cons_of_mem | apply List.mem_append_right)) (by rfl))) ?_
  refine WL.callD rfl (.none rfl) rfl k_34 rfl (Chunks_c) ?_
  refine WL.callD rfl (.none rfl) rfl k_45 rfl (NewIn_c hch2) ?_
  refine WL.p (.none rfl) rfl (OpP.move rfl) ?_
  refine WL.p (.none rfl) rfl (OpP.extract rfl rfl) ?_
  refine WL.p (.none rfl) rfl (OpP.extract rfl rfl) ?_
  refine WL.allocX z_38 rfl (fun b4 => ?_)
  first | (refine WL.s (.none rfl) rfl (OpS.storeAll rfl rfl ty_38 (by repeat (first | assumption | exact at0 | exact set_hit (by first | assumption | exact set_hit (by assumption)) | apply ats)) (by rfl) (by rfl) (by rfl) (by rfl)) ?_) | (refine WL.s (.none rfl) rfl (OpS.store rfl rfl ty_38 (by repeat (first | assumption | exact at0 | exact set_hit (by first | assumption | exact set_hit (by assumption)) | apply ats)) (by rfl) (by rfl) (by rfl) (by rfl)) ?_)
  refine WL.p (.none rfl) rfl (OpP.assign rfl) ?_
  refine WL.nil ?_
  refine EQ.sub ((Sub.cons (i := 0) rfl (Sub.cons (i := 2) rfl (Sub.cons (i := 3) rfl (Sub.cons (i := 4) rfl (Sub.cons (i := 5) rfl (Sub.nil _))))))) ?_
  refine EQ.code ?_
  refine WC.seq ?_
  refine WC.seq ?_
  refine WC.region ?_
  refine WL.p (.none rfl) rfl (OpP.move rfl) ?_
  refine WL.p (.none rfl) rfl (OpP.nilCheck rfl) ?_
  refine WL.p (.none rfl) rfl (OpP.fieldAddr rfl fld_101_0) ?_
  refine WL.p (.none rfl) rfl (OpP.fieldAddr rfl fld_34_2) ?_
  refine WL.p (.none rfl) rfl (OpP.load rfl ty_3 (Rd.own (by repeat (first | assumption | exact List.mem_cons_self | exact List.mem_of_getElem? (by assumption) | exact set_mem (by first | assumption | exact set_hit (by assumption)) | apply List.mem_cons_of_mem | apply List.mem_append_right)) (by rfl))) ?_
  refine WL.callD rfl (.none rfl) rfl k_34 rfl (Chunks_c) ?_
  refine WL.p (.none rfl) rfl (OpP.move rfl) ?_
  refine WL.nil ?_
  refine EQ.sub ((Sub.cons (i := 0) rfl (Sub.cons (i := 2) rfl (Sub.cons (i := 3) rfl (Sub.cons (i := 4) rfl (Sub.cons (i := 5) rfl (Sub.cons (i := 22) rfl (Sub.cons (i := 23) rfl (Sub.nil _))))))))) ?_
  refine EQ.code ?_
  refine WC.block ?_
  refine WC.loop (σ := Nat) (fun k => [(0, .pointer (some ⟨fb, 0, none⟩)), (2, .pointer (some ⟨b2, 0, none⟩)), (4, .pointer (some ⟨b4, 0, none⟩)), (5, .int .i64 0), (22, .int .i64 (chunks F.size)), (23, .int .i64 (k : Int))]) (fun k => (b4, cl [.int .i64 (chunks F.size), .int .u64 ((maskN (fun i => F.snd (i : Int)) k : Nat) : Int)] 38) :: (b2, cl [.int .i64 0, .int .u64 0] 38) :: H) (fun k => (k : Int) ≤ chunks F.size) (fun k => (chunks F.size).toNat - k) 0 hch2.1 ((Sub.cons rfl (Sub.cons rfl (Sub.cons rfl (Sub.cons rfl (Sub.cons rfl (Sub.cons rfl (Sub.nil _)))))))) (fun _ h => h) (fun k hinv => ?_)
  refine WC.seq ?_
  refine WC.region ?_
  refine WL.p (.none rfl) rfl (OpP.lss rfl rfl) ?_
  refine WL.nil ?_
  refine EQ.sub ((Sub.cons (i := 0) rfl (Sub.cons (i := 2) rfl (Sub.cons (i := 4) rfl (Sub.cons (i := 5) rfl (Sub.cons (i := 22) rfl (Sub.cons (i := 23) rfl (Sub.cons (i := 24) rfl (Sub.nil _))))))))) ?_
  refine EQ.code ?_
  refine WC.seq ?_
  refine WC.cond rfl (fun hc0 => ?_) (fun hc0 => ?_)
  · -- cond 0 t
    (try simp only [decide_eq_true_eq, decide_eq_false_iff_not, Bool.not_eq_true', Bool.not_eq_false', Bool.or_eq_true, Bool.and_eq_true, Bool.or_eq_false_iff, Bool.and_eq_false_imp, Option.isNone_some, Bool.false_eq_true, false_or, true_and] at hc0)
    refine WC.skip ?_
    refine EQ.code ?_
    refine WC.seq ?_
    refine WC.block ?_
    refine WC.seq ?_
    refine WC.region ?_
    refine WL.p (.none rfl) rfl (OpP.move rfl) ?_
    refine WL.p (.none rfl) rfl (OpP.assign rfl) ?_
    refine WL.nil ?_
    refine EQ.sub ((Sub.cons (i := 0) rfl (Sub.cons (i := 2) rfl (Sub.cons (i := 4) rfl (Sub.cons (i := 5) rfl (Sub.cons (i := 6) rfl (Sub.cons (i := 22) rfl (Sub.cons (i := 23) rfl (Sub.nil _))))))))) ?_
    refine EQ.code ?_
    refine WC.seq ?_
    refine WC.region ?_
    refine WL.p (.none rfl) rfl (OpP.move rfl) ?_
    refine WL.p (.none rfl) rfl (OpP.eqlI rfl rfl) ?_
    refine WL.p (.none rfl) rfl (OpP.move rfl) ?_
    refine WL.g (.bool rfl rfl rfl) rfl (fun hg => OpP.move rfl) ?_
    refine WL.g (.bool rfl rfl rfl) rfl (fun hg => OpP.move rfl) ?_
    refine WL.gcall rfl (.bool rfl rfl rfl) rfl k_64 (fun hg => kops2 (gk hg rfl) (gk hg rfl)) (fun hg => sound_c ((hs.cons _).cons _)) ?_
    refine WL.p (.none rfl) rfl (OpP.pand rfl rfl rfl) ?_
    refine WL.nil ?_
    refine EQ.sub ((Sub.cons (i := 0) rfl (Sub.cons (i := 2) rfl (Sub.cons (i := 4) rfl (Sub.cons (i := 5) rfl (Sub.cons (i := 6) rfl (Sub.cons (i := 22) rfl (Sub.cons (i := 23) rfl (Sub.cons (i := 32) rfl (Sub.nil _)))))))))) ?_
    refine EQ.code ?_
    refine WC.cond rfl (fun hc1 => ?_) (fun hc1 => ?_)
    · -- cond 1 t
      (try simp only [decide_eq_true_eq, decide_eq_false_iff_not, Bool.not_eq_true', Bool.not_eq_false', Bool.or_eq_true, Bool.and_eq_true, Bool.or_eq_false_iff, Bool.and_eq_false_imp, Option.isNone_some, Bool.false_eq_true, false_or, true_and] at hc1)
      refine WC.region ?_
      refine WL.p (.none rfl) rfl (OpP.loadB rfl ty_38 (by repeat (first | assumption | exact List.mem_cons_self | exact List.mem_of_getElem? (by assumption) | exact set_mem (by first | assumption | exact set_hit (by assumption)) | apply List.mem_cons_of_mem | apply List.mem_append_right)) (by rfl)) ?_
      refine WL.p (.none rfl) rfl (OpP.move rfl) ?_
      refine WL.callD rfl (.none rfl) rfl k_46 rfl (WithM_c (p := fun i => F.snd (i : Int)) hch2.1 hch2.2 (by omega) hc1) ?_
      refine WL.p (.none rfl) rfl (OpP.move rfl) ?_
      refine WL.p (.none rfl) rfl (OpP.extract rfl rfl) ?_
      refine WL.p (.none rfl) rfl (OpP.extract rfl rfl) ?_
      first | (refine WL.s (.none rfl) rfl (OpS.storeAll rfl rfl ty_38 (by repeat (first | assumption | exact at0 | exact set_hit (by first | assumption | exact set_hit (by assumption)) | apply ats)) (by rfl) (by rfl) (by rfl) (by rfl)) ?_) | (refine WL.s (.none rfl) rfl (OpS.store rfl rfl ty_38 (by repeat (first | assumption | exact at0 | exact set_hit (by first | assumption | exact set_hit (by assumption)) | apply ats)) (by rfl) (by rfl) (by rfl) (by rfl)) ?_)
      refine WL.p (.none rfl) rfl (OpP.assign rfl) ?_
      refine WL.nil ?_
      refine EQ.sub ((Sub.cons (i := 0) rfl (Sub.cons (i := 2) rfl (Sub.cons (i := 4) rfl (Sub.cons (i := 5) rfl (Sub.cons (i := 22) rfl (Sub.cons (i := 23) rfl (Sub.nil _)))))))) ?_
      refine EQ.blockN ?_
      refine EQ.code ?_
      refine WC.region ?_
      first | (refine WL.p (.none rfl) rfl (OpP.add64 rfl rfl (by omega)) ?_) | (refine WL.p (.none rfl) rfl (OpP.add rfl rfl) ?_)
      refine WL.p (.none rfl) rfl (OpP.move rfl) ?_
      refine WL.nil ?_
      refine EQ.sub ((Sub.cons (i := 0) rfl (Sub.cons (i := 2) rfl (Sub.cons (i := 4) rfl (Sub.cons (i := 5) rfl (Sub.cons (i := 22) rfl (Sub.cons (i := 23) rfl (Sub.nil _)))))))) ?_
      refine EQ.again (k + 1) ?_ ?_ ?_ ?_
      · omega
      · omega
      · exact ((Sub.cons rfl (Sub.cons rfl (Sub.cons rfl (Sub.cons rfl (Sub.cons rfl (Sub.cons rfl (Sub.nil _))))))))
      · intro _ h; first | exact h | exact h.drop | exact h.drop_mid | exact h.drop_mid.drop_mid
    · -- cond 1 f
      (try simp only [decide_eq_true_eq, decide_eq_false_iff_not, Bool.not_eq_true', Bool.not_eq_false', Bool.or_eq_true, Bool.and_eq_true, Bool.or_eq_false_iff, Bool.and_eq_false_imp, Option.isNone_some, Bool.false_eq_true, false_or, true_and] at hc1)
      refine WC.skip ?_
      refine EQ.blockN ?_
      refine EQ.code ?_
      refine WC.region ?_
      first | (refine WL.p (.none rfl) rfl (OpP.add64 rfl rfl (by omega)) ?_) | (refine WL.p (.none rfl) rfl (OpP.add rfl rfl) ?_)
      refine WL.p (.none rfl) rfl (OpP.move rfl) ?_
      refine WL.nil ?_
      refine EQ.sub ((Sub.cons (i := 0) rfl (Sub.cons (i := 2) rfl (Sub.cons (i := 4) rfl (Sub.cons (i := 5) rfl (Sub.cons (i := 22) rfl (Sub.cons (i := 23) rfl (Sub.nil _)))))))) ?_
      have hsn : F.snd (k : Int) = false := by cases hq : F.snd (k : Int) with
        | false => rfl
        | true => exact absurd hq (by simpa using hc1)
      refine EQ.again (k + 1) ?_ ?_ ?_ ?_
      · omega
      · omega
      · exact ((Sub.cons rfl (Sub.cons rfl (Sub.cons rfl (Sub.cons rfl (Sub.cons rfl (Sub.cons rfl (Sub.nil _))))))))
      · intro w h; rw [show maskN (fun i => F.snd (i : Int)) (k + 1) = maskN (fun i => F.snd (i : Int)) k by simp only [maskN, hsn]; simp]; exact h
  · -- cond 0 f
    (try simp only [decide_eq_true_eq, decide_eq_false_iff_not, Bool.not_eq_true', Bool.not_eq_false', Bool.or_eq_true, Bool.and_eq_true, Bool.or_eq_false_iff, Bool.and_eq_false_imp, Option.isNone_some, Bool.false_eq_true, false_or, true_and] at hc0)
    refine WC.exit ?_
    refine EQ.thenE ?_
    refine EQ.thenE ?_
    refine EQ.blockHit ?_
    refine EQ.code ?_
    refine WC.seq ?_
    refine WC.region ?_
    refine WL.p (.none rfl) rfl (OpP.loadB rfl ty_38 (by repeat (first | assumption | exact List.mem_cons_self | exact List.mem_of_getElem? (by assumption) | exact set_mem (by first | assumption | exact set_hit (by assumption)) | apply List.mem_cons_of_mem | apply List.mem_append_right)) (by rfl)) ?_
    refine WL.p (.none rfl) rfl (OpP.move rfl) ?_
    first | (refine WL.s (.none rfl) rfl (OpS.storeAll rfl rfl ty_38 (by repeat (first | assumption | exact at0 | exact set_hit (by first | assumption | exact set_hit (by assumption)) | apply ats)) (by rfl) (by rfl) (by rfl) (by rfl)) ?_) | (refine WL.s (.none rfl) rfl (OpS.store rfl rfl ty_38 (by repeat (first | assumption | exact at0 | exact set_hit (by first | assumption | exact set_hit (by assumption)) | apply ats)) (by rfl) (by rfl) (by rfl) (by rfl)) ?_)
    refine WL.p (.none rfl) rfl (OpP.assign rfl) ?_
    refine WL.nil ?_
    refine EQ.sub ((Sub.cons (i := 2) rfl (Sub.cons (i := 3) rfl (Sub.nil _)))) ?_
    refine EQ.code ?_
    refine WC.ret ?_
    refine EQ.finD (H' := H) (res2 rfl (.cellB rfl ty_38 (by repeat (first | assumption | exact List.mem_cons_self | exact List.mem_of_getElem? (by assumption) | exact set_mem (by first | assumption | exact set_hit (by assumption)) | apply List.mem_cons_of_mem | apply List.mem_append_right)) (by rfl)) (.tmp rfl)) (by intro _ h; first | exact h | exact h.drop | exact h.drop.drop | exact h.drop.drop.drop | exact h.drop.drop.drop.drop | exact h.drop.drop.drop.drop.drop | exact h.drop.drop.drop.drop.drop.drop | exact h.drop_mid) ?_
    have hk : k = (chunks F.size).toNat := by omega
    exact ⟨by unfold FileM.mask; rw [← hk]; rfl, rfl⟩

set_option maxRecDepth 100000 in
theorem sNew_c {W0 : World} {H : Hp} : CxX Try.prog W0 37 #[] H (fun v H' => ∃ g ds, v = .pointer (some ⟨g, 0, none⟩) ∧ H' = ds ++ H ∧ SR [] g ds) := by
  refine enter Try.func37 rfl Try.ntmps37 rfl ?_
  refine WC.seq ?_
  refine WC.region ?_
  refine WL.p (.none rfl) rfl (OpP.assign rfl) ?_
  refine WL.nil ?_
  refine EQ.sub ((Sub.cons (i := 0) rfl (Sub.nil _))) ?_
  refine EQ.code ?_
  refine WC.seq ?_
  refine WC.region ?_
  refine WL.makeMap .u64 rfl (fun b1 => ?_)
  refine WL.p (.none rfl) rfl (OpP.buildS bld_97 (kI rfl kI0) (by rfl)) ?_
  refine WL.box rfl rfl rfl (fun b3 => ?_)
  refine WL.p (.none rfl) rfl (OpP.assign rfl) ?_
  refine WL.nil ?_
  refine EQ.sub ((Sub.cons (i := 0) rfl (Sub.nil _))) ?_
  refine EQ.code ?_
  refine WC.ret ?_
  refine EQ.fin (res1 rfl (.tmp rfl)) ?_
  exact ⟨b3, [(b3, sobj b1), (b1, mobj .u64 [] 0)], rfl, rfl, b1, [], 0, [], rfl, Mok.nil 0, rfl⟩

set_option maxRecDepth 100000 in
theorem made_c {W0 : World} {H : Hp} {g mb : Nat} (hg : (g, sobj mb) ∈ H) : CxD Try.prog W0 58 #[.pointer (some ⟨g, 0, none⟩)] H (.bool true) H := by
  refine enter Try.func58 rfl Try.ntmps58 rfl ?_
  refine WC.seq ?_
  refine WC.region ?_
  refine WL.p (.none rfl) rfl (OpP.assign rfl) ?_
  refine WL.nil ?_
  refine EQ.sub ((Sub.cons (i := 0) rfl (Sub.cons (i := 2) rfl (Sub.nil _)))) ?_
  refine EQ.code ?_
  refine WC.seq ?_
  refine WC.region ?_
  refine WL.p (.none rfl) rfl (OpP.move rfl) ?_
  refine WL.p (.none rfl) rfl (OpP.neqNil rfl rfl Try.underlying69) ?_
  refine WL.p (.none rfl) rfl (OpP.move rfl) ?_
  refine WL.g (.bool rfl rfl rfl) rfl (fun hg => OpP.move rfl) ?_
  refine WL.g (.bool rfl rfl rfl) rfl (fun hg => OpP.nilCheck (gk hg rfl)) ?_
  refine WL.g (.bool rfl rfl rfl) rfl (fun hg => OpP.fieldAddr (gk hg rfl) fld_97_0) ?_
  refine WL.g (.bool rfl rfl rfl) rfl (fun hg => OpP.load (gk hg rfl) ty_95 (Rd.own (by repeat (first | assumption | exact List.mem_cons_self | exact List.mem_of_getElem? (by assumption) | exact set_mem (by first | assumption | exact set_hit (by assumption)) | apply List.mem_cons_of_mem | apply List.mem_append_right)) (by rfl))) ?_
  refine WL.g (.bool rfl rfl rfl) rfl (fun hg => OpP.neqMap (gk hg rfl) rfl Try.underlying95) ?_
  refine WL.p (.none rfl) rfl (OpP.pand rfl rfl rfl) ?_
  refine WL.p (.none rfl) rfl (OpP.assign rfl) ?_
  refine WL.nil ?_
  refine EQ.sub ((Sub.cons (i := 2) rfl (Sub.nil _))) ?_
  refine EQ.code ?_
  refine WC.ret ?_
  refine EQ.fin (res1 rfl (.tmp rfl)) ?_
  exact ⟨rfl, rfl⟩

set_option maxRecDepth 100000 in
theorem made_nil {W0 : World} {H : Hp} : CxD Try.prog W0 58 #[.pointer none] H (.bool false) H := by
  refine enter Try.func58 rfl Try.ntmps58 rfl ?_
  refine WC.seq ?_
  refine WC.region ?_
  refine WL.p (.none rfl) rfl (OpP.assign rfl) ?_
  refine WL.nil ?_
  refine EQ.sub ((Sub.cons (i := 0) rfl (Sub.cons (i := 2) rfl (Sub.nil _)))) ?_
  refine EQ.code ?_
  refine WC.seq ?_
  refine WC.region ?_
  refine WL.p (.none rfl) rfl (OpP.move rfl) ?_
  refine WL.p (.none rfl) rfl (OpP.neqNil rfl rfl Try.underlying69) ?_
  refine WL.p (.none rfl) rfl (OpP.move rfl) ?_
  first | (refine WL.skip (.no rfl rfl rfl) rfl ?_) | (refine WL.skip (.un rfl rfl rfl) rfl ?_)
  first | (refine WL.skip (.no rfl rfl rfl) rfl ?_) | (refine WL.skip (.un rfl rfl rfl) rfl ?_)
  first | (refine WL.skip (.no rfl rfl rfl) rfl ?_) | (refine WL.skip (.un rfl rfl rfl) rfl ?_)
  first | (refine WL.skip (.no rfl rfl rfl) rfl ?_) | (refine WL.skip (.un rfl rfl rfl) rfl ?_)
  first | (refine WL.skip (.no rfl rfl rfl) rfl ?_) | (refine WL.skip (.un rfl rfl rfl) rfl ?_)
  first | (refine WL.p (.none rfl) rfl (OpP.pickT rfl rfl) ?_) | (refine WL.p (.none rfl) rfl (OpP.pickF rfl rfl) ?_) | (refine WL.p (.none rfl) rfl (OpP.pand rfl rfl rfl) ?_)
  refine WL.p (.none rfl) rfl (OpP.assign rfl) ?_
  refine WL.nil ?_
  refine EQ.sub ((Sub.cons (i := 2) rfl (Sub.nil _))) ?_
  refine EQ.code ?_
  refine WC.ret ?_
  refine EQ.fin (res1 rfl (.tmp rfl)) ?_
  exact ⟨rfl, rfl⟩

set_option maxRecDepth 100000 in
theorem made_zero {W0 : World} {H : Hp} {g : Nat} (hg : (g, cl [.map none] 97) ∈ H) : CxD Try.prog W0 58 #[.pointer (some ⟨g, 0, none⟩)] H (.bool false) H := by
  refine enter Try.func58 rfl Try.ntmps58 rfl ?_
  refine WC.seq ?_
  refine WC.region ?_
  refine WL.p (.none rfl) rfl (OpP.assign rfl) ?_
  refine WL.nil ?_
  refine EQ.sub ((Sub.cons (i := 0) rfl (Sub.cons (i := 2) rfl (Sub.nil _)))) ?_
  refine EQ.code ?_
  refine WC.seq ?_
  refine WC.region ?_
  refine WL.p (.none rfl) rfl (OpP.move rfl) ?_
  refine WL.p (.none rfl) rfl (OpP.neqNil rfl rfl Try.underlying69) ?_
  refine WL.p (.none rfl) rfl (OpP.move rfl) ?_
  refine WL.g (.bool rfl rfl rfl) rfl (fun hg => OpP.move rfl) ?_
  refine WL.g (.bool rfl rfl rfl) rfl (fun hg => OpP.nilCheck (gk hg rfl)) ?_
  refine WL.g (.bool rfl rfl rfl) rfl (fun hg => OpP.fieldAddr (gk hg rfl) fld_97_0) ?_
  refine WL.g (.bool rfl rfl rfl) rfl (fun hg => OpP.load (gk hg rfl) ty_95 (Rd.own (by repeat (first | assumption | exact List.mem_cons_self | exact List.mem_of_getElem? (by assumption) | exact set_mem (by first | assumption | exact set_hit (by assumption)) | apply List.mem_cons_of_mem | apply List.mem_append_right)) (by rfl))) ?_
  refine WL.g (.bool rfl rfl rfl) rfl (fun hg => OpP.neqMap (gk hg rfl) rfl Try.underlying95) ?_
  refine WL.p (.none rfl) rfl (OpP.pand rfl rfl rfl) ?_
  refine WL.p (.none rfl) rfl (OpP.assign rfl) ?_
  refine WL.nil ?_
  refine EQ.sub ((Sub.cons (i := 2) rfl (Sub.nil _))) ?_
  refine EQ.code ?_
  refine WC.ret ?_
  refine EQ.fin (res1 rfl (.tmp rfl)) ?_
  exact ⟨rfl, rfl⟩

set_option maxRecDepth 100000 in
theorem find_some {W0 : World} {H : Hp} {g mb c : Nat} {es : List Ent} {id : Int} (hg : (g, sobj mb) ∈ H) (hm : (mb, mobj .u64 es c) ∈ H) {fb : Nat} (hl : mlook es id = some (.pointer (some ⟨fb, 0, none⟩))) : CxD Try.prog W0 62 #[.pointer (some ⟨g, 0, none⟩), .int .u64 id] H (.tuple #[.pointer (some ⟨fb, 0, none⟩), .int .i64 0]) H := by
  refine enter Try.func62 rfl Try.ntmps62 rfl ?_
  refine WC.seq ?_
  refine WC.region ?_
  refine WL.p (.none rfl) rfl (OpP.assign rfl) ?_
  refine WL.p (.none rfl) rfl (OpP.assign rfl) ?_
  refine WL.nil ?_
  refine EQ.sub ((Sub.cons (i := 0) rfl (Sub.cons (i := 1) rfl (Sub.cons (i := 4) rfl (Sub.cons (i := 5) rfl (Sub.nil _)))))) ?_
  refine EQ.code ?_
  refine WC.seq ?_
  refine WC.seq ?_
  refine WC.region ?_
  refine WL.p (.none rfl) rfl (OpP.move rfl) ?_
  refine WL.callD rfl (.none rfl) rfl k_58 rfl (made_c hg) ?_
  refine WL.p (.none rfl) rfl (OpP.not rfl) ?_
  refine WL.nil ?_
  refine EQ.sub ((Sub.cons (i := 0) rfl (Sub.cons (i := 1) rfl (Sub.cons (i := 4) rfl (Sub.cons (i := 5) rfl (Sub.cons (i := 9) rfl (Sub.nil _))))))) ?_
  refine EQ.code ?_
  refine WC.condF rfl ?_
  refine WC.skip ?_
  refine EQ.code ?_
  refine WC.seq ?_
  refine WC.region ?_
  refine WL.p (.none rfl) rfl (OpP.move rfl) ?_
  refine WL.p (.none rfl) rfl (OpP.nilCheck rfl) ?_
  refine WL.p (.none rfl) rfl (OpP.fieldAddr rfl fld_97_0) ?_
  refine WL.p (.none rfl) rfl (OpP.load rfl ty_95 (Rd.own (by repeat (first | assumption | exact List.mem_cons_self | exact List.mem_of_getElem? (by assumption) | exact set_mem (by first | assumption | exact set_hit (by assumption)) | apply List.mem_cons_of_mem | apply List.mem_append_right)) (by rfl))) ?_
  refine WL.p (.none rfl) rfl (OpP.move rfl) ?_
  refine WL.p (.none rfl) rfl (OpP.lookS rfl rfl map_95 hm hl) ?_
  refine WL.p (.none rfl) rfl (OpP.assign rfl) ?_
  refine WL.nil ?_
  refine EQ.sub ((Sub.cons (i := 4) rfl (Sub.cons (i := 5) rfl (Sub.cons (i := 6) rfl (Sub.nil _))))) ?_
  refine EQ.code ?_
  refine WC.seq ?_
  refine WC.seq ?_
  refine WC.region ?_
  refine WL.p (.none rfl) rfl (OpP.move rfl) ?_
  refine WL.p (.none rfl) rfl (OpP.eqlNil rfl rfl Try.underlying98) ?_
  refine WL.nil ?_
  refine EQ.sub ((Sub.cons (i := 4) rfl (Sub.cons (i := 5) rfl (Sub.cons (i := 6) rfl (Sub.cons (i := 17) rfl (Sub.nil _)))))) ?_
  refine EQ.code ?_
  refine WC.condF rfl ?_
  refine WC.skip ?_
  refine EQ.code ?_
  refine WC.seq ?_
  refine WC.region ?_
  refine WL.p (.none rfl) rfl (OpP.move rfl) ?_
  refine WL.p (.none rfl) rfl (OpP.assign rfl) ?_
  refine WL.p (.none rfl) rfl (OpP.assign rfl) ?_
  refine WL.nil ?_
  refine EQ.sub ((Sub.cons (i := 4) rfl (Sub.cons (i := 5) rfl (Sub.nil _)))) ?_
  refine EQ.code ?_
  refine WC.ret ?_
  refine EQ.fin (res2 rfl (.tmp rfl) (.tmp rfl)) ?_
  exact ⟨rfl, rfl⟩

set_option maxRecDepth 100000 in
theorem find_none {W0 : World} {H : Hp} {g mb c : Nat} {es : List Ent} {id : Int} (hg : (g, sobj mb) ∈ H) (hm : (mb, mobj .u64 es c) ∈ H) (hl : mlook es id = none) : CxD Try.prog W0 62 #[.pointer (some ⟨g, 0, none⟩), .int .u64 id] H (.tuple #[.pointer none, .int .i64 4]) H := by
  refine enter Try.func62 rfl Try.ntmps62 rfl ?_
  refine WC.seq ?_
  refine WC.region ?_
  refine WL.p (.none rfl) rfl (OpP.assign rfl) ?_
  refine WL.p (.none rfl) rfl (OpP.assign rfl) ?_
  refine WL.nil ?_
  refine EQ.sub ((Sub.cons (i := 0) rfl (Sub.cons (i := 1) rfl (Sub.cons (i := 4) rfl (Sub.cons (i := 5) rfl (Sub.nil _)))))) ?_
  refine EQ.code ?_
  refine WC.seq ?_
  refine WC.seq ?_
  refine WC.region ?_
  refine WL.p (.none rfl) rfl (OpP.move rfl) ?_
  refine WL.callD rfl (.none rfl) rfl k_58 rfl (made_c hg) ?_
  refine WL.p (.none rfl) rfl (OpP.not rfl) ?_
  refine WL.nil ?_
  refine EQ.sub ((Sub.cons (i := 0) rfl (Sub.cons (i := 1) rfl (Sub.cons (i := 4) rfl (Sub.cons (i := 5) rfl (Sub.cons (i := 9) rfl (Sub.nil _))))))) ?_
  refine EQ.code ?_
  refine WC.condF rfl ?_
  refine WC.skip ?_
  refine EQ.code ?_
  refine WC.seq ?_
  refine WC.region ?_
  refine WL.p (.none rfl) rfl (OpP.move rfl) ?_
  refine WL.p (.none rfl) rfl (OpP.nilCheck rfl) ?_
  refine WL.p (.none rfl) rfl (OpP.fieldAddr rfl fld_97_0) ?_
  refine WL.p (.none rfl) rfl (OpP.load rfl ty_95 (Rd.own (by repeat (first | assumption | exact List.mem_cons_self | exact List.mem_of_getElem? (by assumption) | exact set_mem (by first | assumption | exact set_hit (by assumption)) | apply List.mem_cons_of_mem | apply List.mem_append_right)) (by rfl))) ?_
  refine WL.p (.none rfl) rfl (OpP.move rfl) ?_
  refine WL.p (.none rfl) rfl (OpP.lookN rfl rfl map_95 hm hl) ?_
  refine WL.p (.none rfl) rfl (OpP.assign rfl) ?_
  refine WL.nil ?_
  refine EQ.sub ((Sub.cons (i := 4) rfl (Sub.cons (i := 5) rfl (Sub.cons (i := 6) rfl (Sub.nil _))))) ?_
  refine EQ.code ?_
  refine WC.seq ?_
  refine WC.seq ?_
  refine WC.region ?_
  refine WL.p (.none rfl) rfl (OpP.move rfl) ?_
  refine WL.p (.none rfl) rfl (OpP.eqlNil rfl rfl Try.underlying98) ?_
  refine WL.nil ?_
  refine EQ.sub ((Sub.cons (i := 4) rfl (Sub.cons (i := 5) rfl (Sub.cons (i := 6) rfl (Sub.cons (i := 17) rfl (Sub.nil _)))))) ?_
  refine EQ.code ?_
  refine WC.condT rfl ?_
  refine WC.seq ?_
  refine WC.region ?_
  refine WL.p (.none rfl) rfl (OpP.assign rfl) ?_
  refine WL.p (.none rfl) rfl (OpP.assign rfl) ?_
  refine WL.nil ?_
  refine EQ.sub ((Sub.cons (i := 4) rfl (Sub.cons (i := 5) rfl (Sub.cons (i := 6) rfl (Sub.nil _))))) ?_
  refine EQ.code ?_
  refine WC.ret ?_
  refine EQ.thenR ?_
  refine EQ.fin (res2 rfl (.tmp rfl) (.tmp rfl)) ?_
  exact ⟨rfl, rfl⟩

set_option maxRecDepth 100000 in
theorem find_nil {W0 : World} {H : Hp} {id : Int} : CxD Try.prog W0 62 #[.pointer none, .int .u64 id] H (.tuple #[.pointer none, .int .i64 6]) H := by
  refine enter Try.func62 rfl Try.ntmps62 rfl ?_
  refine WC.seq ?_
  refine WC.region ?_
  refine WL.p (.none rfl) rfl (OpP.assign rfl) ?_
  refine WL.p (.none rfl) rfl (OpP.assign rfl) ?_
  refine WL.nil ?_
  refine EQ.sub ((Sub.cons (i := 0) rfl (Sub.cons (i := 1) rfl (Sub.cons (i := 4) rfl (Sub.cons (i := 5) rfl (Sub.nil _)))))) ?_
  refine EQ.code ?_
  refine WC.seq ?_
  refine WC.seq ?_
  refine WC.region ?_
  refine WL.p (.none rfl) rfl (OpP.move rfl) ?_
  refine WL.callD rfl (.none rfl) rfl k_58 rfl (made_nil) ?_
  refine WL.p (.none rfl) rfl (OpP.not rfl) ?_
  refine WL.nil ?_
  refine EQ.sub ((Sub.cons (i := 0) rfl (Sub.cons (i := 1) rfl (Sub.cons (i := 4) rfl (Sub.cons (i := 5) rfl (Sub.cons (i := 9) rfl (Sub.nil _))))))) ?_
  refine EQ.code ?_
  refine WC.condT rfl ?_
  refine WC.seq ?_
  refine WC.region ?_
  refine WL.p (.none rfl) rfl (OpP.assign rfl) ?_
  refine WL.p (.none rfl) rfl (OpP.assign rfl) ?_
  refine WL.nil ?_
  refine EQ.sub ((Sub.cons (i := 0) rfl (Sub.cons (i := 1) rfl (Sub.cons (i := 4) rfl (Sub.cons (i := 5) rfl (Sub.nil _)))))) ?_
  refine EQ.code ?_
  refine WC.ret ?_
  refine EQ.thenR ?_
  refine EQ.fin (res2 rfl (.tmp rfl) (.tmp rfl)) ?_
  exact ⟨rfl, rfl⟩

set_option maxRecDepth 100000 in
theorem find_zero {W0 : World} {H : Hp} {g : Nat} {id : Int} (hg : (g, cl [.map none] 97) ∈ H) : CxD Try.prog W0 62 #[.pointer (some ⟨g, 0, none⟩), .int .u64 id] H (.tuple #[.pointer none, .int .i64 6]) H := by
  refine enter Try.func62 rfl Try.ntmps62 rfl ?_
  refine WC.seq ?_
  refine WC.region ?_
  refine WL.p (.none rfl) rfl (OpP.assign rfl) ?_
  refine WL.p (.none rfl) rfl (OpP.assign rfl) ?_
  refine WL.nil ?_
  refine EQ.sub ((Sub.cons (i := 0) rfl (Sub.cons (i := 1) rfl (Sub.cons (i := 4) rfl (Sub.cons (i := 5) rfl (Sub.nil _)))))) ?_
  refine EQ.code ?_
  refine WC.seq ?_
  refine WC.seq ?_
  refine WC.region ?_
  refine WL.p (.none rfl) rfl (OpP.move rfl) ?_
  refine WL.callD rfl (.none rfl) rfl k_58 rfl (made_zero hg) ?_
  refine WL.p (.none rfl) rfl (OpP.not rfl) ?_
  refine WL.nil ?_
  refine EQ.sub ((Sub.cons (i := 0) rfl (Sub.cons (i := 1) rfl (Sub.cons (i := 4) rfl (Sub.cons (i := 5) rfl (Sub.cons (i := 9) rfl (Sub.nil _))))))) ?_
  refine EQ.code ?_
  refine WC.condT rfl ?_
  refine WC.seq ?_
  refine WC.region ?_
  refine WL.p (.none rfl) rfl (OpP.assign rfl) ?_
  refine WL.p (.none rfl) rfl (OpP.assign rfl) ?_
  refine WL.nil ?_
  refine EQ.sub ((Sub.cons (i := 0) rfl (Sub.cons (i := 1) rfl (Sub.cons (i := 4) rfl (Sub.cons (i := 5) rfl (Sub.nil _)))))) ?_
  refine EQ.code ?_
  refine WC.ret ?_
  refine EQ.thenR ?_
  refine EQ.fin (res2 rfl (.tmp rfl) (.tmp rfl)) ?_
  exact ⟨rfl, rfl⟩

end Go.Proofs.Ytmeimjpjelmchaa
