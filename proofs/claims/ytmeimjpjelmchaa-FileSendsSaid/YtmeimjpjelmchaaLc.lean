/- Lc: walks of functions of the program, each over the rules of Sx. No conditions but those in the theorems' heads. -/
import Derived.Test.YtmeimjpjelmchaaAlv
import Derived.Test.YtmeimjpjelmchaaProg
set_option linter.unusedVariables false
set_option linter.unusedSimpArgs false
namespace Go.Proofs.Ytmeimjpjelmchaa
open Go.RowKit Go.Sx
namespace Lc
theorem k_12 : Cal Try.prog 12 := ⟨_, _, Try.func12, by kernel_rfl, rfl⟩
theorem k_17 : Cal Try.prog 17 := ⟨_, _, Try.func17, by kernel_rfl, rfl⟩
theorem k_18 : Cal Try.prog 18 := ⟨_, _, Try.func18, by kernel_rfl, rfl⟩
theorem k_20 : Cal Try.prog 20 := ⟨_, _, Try.func20, by kernel_rfl, rfl⟩
theorem k_21 : Cal Try.prog 21 := ⟨_, _, Try.func21, by kernel_rfl, rfl⟩
theorem k_23 : Cal Try.prog 23 := ⟨_, _, Try.func23, by kernel_rfl, rfl⟩
theorem k_25 : Cal Try.prog 25 := ⟨_, _, Try.func25, by kernel_rfl, rfl⟩
theorem k_29 : Cal Try.prog 29 := ⟨_, _, Try.func29, by kernel_rfl, rfl⟩
theorem k_8 : Cal Try.prog 8 := ⟨_, _, Try.func8, by kernel_rfl, rfl⟩
theorem k_9 : Cal Try.prog 9 := ⟨_, _, Try.func9, by kernel_rfl, rfl⟩
theorem ty_38 : tyI Try.prog 38 = some (true, 2) := by kernel_rfl
end Lc
open Lc

def Snd.know (x : Snd) (n b : Int) : Snd := if x.ask n b = 0 then { x with bits := Go.bits .or .u64 x.bits b } else x
def Snd.cancel (x : Snd) : Snd := if x.made = true ∧ x.state = 0 then { x with gone := true } else x
theorem KnowH_c {W0 : World} {R : Hp} {g : Nat} {x : Snd} {n b : Int} (h1 : 0 ≤ x.bits) (h2 : x.bits < 18446744073709551616) (hb : 0 ≤ b) (hb2 : b < 18446744073709551616) (hr : mRight x.n x.bits = true) :
    CxD Try.prog W0 18 #[.pointer (some ⟨g, 0, none⟩), mv n b] ((g, x.obj) :: R) (.int .i64 (x.ask n b)) ((g, (x.know n b).obj) :: R) := by
  have e := Know_c (W0 := W0) (H := (g, x.obj) :: R) (g := g) (i := 0) (x := x) (n := n) (b := b) at0 h1 h2 hb hb2 hr
  unfold Snd.know
  split <;> rename_i h
  · rw [if_pos h] at e; exact e
  · rw [if_neg h] at e; exact e
theorem CancelH_c {W0 : World} {R : Hp} {g : Nat} {x : Snd} (h1 : 0 ≤ x.bits) (h2 : x.bits < 18446744073709551616) (hm : x.made = true) :
    CxD Try.prog W0 21 #[.pointer (some ⟨g, 0, none⟩)] ((g, x.obj) :: R) (.int .i64 (if x.state = 0 then 0 else 7)) ((g, x.cancel.obj) :: R) := by
  have e := Cancel_c (W0 := W0) (H := (g, x.obj) :: R) (g := g) (i := 0) (x := x) at0 h1 h2
  rw [if_pos hm] at e
  unfold Snd.cancel
  by_cases h : x.made = true ∧ x.state = 0
  · rw [if_pos h] at e; rw [if_pos h]; exact e
  · rw [if_neg h] at e; rw [if_neg h]; exact e
/-- A sender that was taken back. -/
structure Gone (x : Snd) : Prop where
  made : x.made = true
  gone : x.gone = true
  lo : 0 ≤ x.bits
  hi : x.bits < 18446744073709551616
  right : mRight x.n x.bits = true
theorem Gone.state {x : Snd} (h : Gone x) : x.state = 1 := by simp [Snd.state, h.made, h.gone]
theorem Gone.next {x : Snd} (h : Gone x) : x.next = -1 := by
  unfold Snd.next
  rw [if_neg (by rw [h.state]; simp)]
theorem Gone.ask {x : Snd} (h : Gone x) (n b : Int) : x.ask n b = if mRight n b ∧ n = x.n then 41 else 1 := by simp [Snd.ask, h.made, h.gone]
theorem StateGone_c {W0 : World} {H : Hp} {g i : Nat} {x : Snd} (h : Gone x) (hi : H[i]? = some (g, x.obj)) : CxD Try.prog W0 25 #[.pointer (some ⟨g, 0, none⟩)] H (.int .i64 1) H := by
  have e := State_c (W0 := W0) hi h.lo h.hi
  rw [h.state] at e
  exact e
theorem LeftGone_c {W0 : World} {H : Hp} {g i : Nat} {x : Snd} (h : Gone x) (hi : H[i]? = some (g, x.obj)) : CxD Try.prog W0 23 #[.pointer (some ⟨g, 0, none⟩)] H (.int .i64 0) H := by
  have e := Left_c (W0 := W0) hi h.lo h.hi ⟨(mRight_spec h.right).1, (mRight_spec h.right).2.1⟩
  rw [show x.left = 0 from by simp [Snd.left, h.gone]] at e
  exact e
theorem CancelGone_c {W0 : World} {H : Hp} {g i : Nat} {x : Snd} (h : Gone x) (hi : H[i]? = some (g, x.obj)) : CxD Try.prog W0 21 #[.pointer (some ⟨g, 0, none⟩)] H (.int .i64 7) H := by
  have e := Cancel_c (W0 := W0) hi h.lo h.hi
  rw [if_pos h.made, if_neg (by rw [h.state]; omega), if_neg (by rw [h.state]; omega)] at e
  exact e
theorem NextGone_c {W0 : World} {H : Hp} {g i : Nat} {x : Snd} (h : Gone x) (hi : H[i]? = some (g, x.obj)) : CxD Try.prog W0 17 #[.pointer (some ⟨g, 0, none⟩)] H (.tuple #[.int .i64 0, .slice none 0 0, .bool false]) H :=
  NextG_c hi h.lo h.hi h.right (by rw [h.next]; omega)
theorem CostsGone_c {W0 : World} {H : Hp} {g i : Nat} {x : Snd} {k : Int} (h : Gone x) (hi : H[i]? = some (g, x.obj)) : CxD Try.prog W0 29 #[.pointer (some ⟨g, 0, none⟩), .int .i64 k] H (.slice none 0 0) H :=
  CostsG_c hi h.lo h.hi h.right (by rw [h.next]; omega)
theorem PeekGone_c {W0 : World} {H : Hp} {g i : Nat} {x : Snd} (h : Gone x) (hi : H[i]? = some (g, x.obj)) : CxD Try.prog W0 12 #[.pointer (some ⟨g, 0, none⟩)] H (.tuple #[.int .i64 0, .bool false]) H := by
  have e := Peek_c (W0 := W0) hi h.lo h.hi h.right
  rw [h.next, if_pos (by omega), show decide ((0 : Int) ≤ -1) = false from by decide] at e
  exact e
theorem KnowGone_c {W0 : World} {H : Hp} {g i : Nat} {x : Snd} {n b : Int} (h : Gone x) (hi : H[i]? = some (g, x.obj)) (hb : 0 ≤ b) (hb2 : b < 18446744073709551616) : CxD Try.prog W0 18 #[.pointer (some ⟨g, 0, none⟩), mv n b] H (.int .i64 (if mRight n b ∧ n = x.n then 41 else 1)) H := by
  have e := Know_c (W0 := W0) (n := n) (b := b) hi h.lo h.hi hb hb2 h.right
  rw [if_neg (show ¬ x.ask n b = 0 by rw [h.ask]; split <;> omega), h.ask] at e
  exact e
theorem AnewGone_c {W0 : World} {H : Hp} {g i : Nat} {x : Snd} {n b : Int} (h : Gone x) (hi : H[i]? = some (g, x.obj)) (hb : 0 ≤ b) (hb2 : b < 18446744073709551616) : CxD Try.prog W0 20 #[.pointer (some ⟨g, 0, none⟩), mv n b] H (.int .i64 (if mRight n b ∧ n = x.n then 41 else 1)) H := by
  have e := Anew_c (W0 := W0) (n := n) (b := b) hi hb hb2
  rw [if_neg (show ¬ x.ask n b = 0 by rw [h.ask]; split <;> omega), h.ask] at e
  exact e
/-- A sender at work. -/
structure Live (x : Snd) : Prop where
  made : x.made = true
  gone : x.gone = false
  lo : 0 ≤ x.bits
  hi : x.bits < 18446744073709551616
  right : mRight x.n x.bits = true
theorem right_zero {n : Int} (h : 0 ≤ n) (h2 : n ≤ 64) : mRight n 0 = true := by
  have hp : (0 : Int) < 2 ^ n.toNat := Int.pow_pos (by omega)
  simp [mRight, h, h2, hp]
theorem new_live (id : Int) (nm : ByteArray) (m : Nat) (F : Nat → Int) (ba : Option Addr) (bc : Nat) : Live (newSnd id nm m F ba bc) :=
  ⟨rfl, rfl, Int.le_refl 0, (by decide : (0 : Int) < 18446744073709551616), right_zero (chunks_bd m).1 (chunks_bd m).2⟩
theorem or_zero {b : Int} (hb : 0 ≤ b) (hb2 : b < 18446744073709551616) : Go.bits .or .u64 0 b = b := by
  rw [u64_or 0 b (by omega) (by omega) hb hb2]
  simp
  omega
theorem know_new {x : Snd} (h : Live x) (h0 : x.bits = 0) {n b : Int} (hb : 0 ≤ b) (hb2 : b < 18446744073709551616) : Live (x.know n b) ∧ (x.know n b).n = x.n ∧ (x.ask n b ≠ 0 → (x.know n b).bits = 0) := by
  unfold Snd.know
  split
  · rename_i hz
    have hz2 := ask_zero hz
    have e : Go.bits .or .u64 x.bits b = b := by rw [h0]; exact or_zero hb hb2
    rw [e]
    exact ⟨⟨h.made, h.gone, hb, hb2, by have := hz2.1; rw [hz2.2.1] at this; exact this⟩, rfl, fun h => absurd hz h⟩
  · exact ⟨h, rfl, fun _ => h0⟩
theorem Live.left {x : Snd} (h : Live x) : x.left = 0 ↔ x.full = true := by
  unfold Snd.left Snd.full
  rw [h.gone, h.right]
  have := full_iff h.right h.lo
  simp
  omega
theorem Live.state {x : Snd} (h : Live x) : x.state = if x.full then 2 else 0 := by simp [Snd.state, h.made, h.gone]
theorem Live.ask {x : Snd} (h : Live x) (n b : Int) : x.ask n b = if mRight n b ∧ n = x.n then 0 else 1 := by simp [Snd.ask, h.made, h.gone]
theorem full_zero {x : Snd} (h : x.bits = 0) (hf : x.full = true) (h0 : 0 ≤ x.n) : x.n = 0 := by
  unfold Snd.full at hf
  rw [h] at hf
  simp only [Bool.and_eq_true, decide_eq_true_eq] at hf
  have h3 := hf.2
  unfold mAll at h3
  have h1 : (2 : Int) ^ x.n.toNat = 1 := by omega
  have h2 : (2 : Nat) ^ x.n.toNat = 1 := by
    have hc : ((2 ^ x.n.toNat : Nat) : Int) = (2 : Int) ^ x.n.toNat := by push_cast; rfl
    omega
  cases hk : x.n.toNat with
  | zero => omega
  | succ k => rw [hk, Nat.pow_succ] at h2; have := Nat.two_pow_pos k; omega
theorem Live.cancel {x : Snd} (h : Live x) (hf : x.full = false) : Gone x.cancel ∧ x.cancel.n = x.n := by
  unfold Snd.cancel
  rw [if_pos ⟨h.made, by rw [h.state, hf]; rfl⟩]
  exact ⟨⟨h.made, rfl, h.lo, h.hi, h.right⟩, rfl⟩
theorem Live.cancel2 {x : Snd} (h : Live x) (hf : x.full = true) : x.cancel = x := by
  unfold Snd.cancel
  rw [if_neg (by rw [h.state, hf]; simp)]

set_option maxRecDepth 100000 in
theorem FileCancels_c {W0 : World} {H : Hp} {a : Option Addr} {m cp : Nat} {l : List Int} {n b : Int} (hl : l.length = m) (hc : m ≤ cp) (hm63 : m ≤ 9223372036854775807) (hsl : Sl W0 H a (iv .u8 l)) (hb : 0 ≤ b) (hb2 : b < 18446744073709551616) :
    CxD Try.prog W0 4 #[.slice a m cp, mv n b] H (.bool true) H := by
  refine enter Try.func4 rfl Try.ntmps4 rfl ?_
  refine WC.seq ?_
  refine WC.region ?_
  refine WL.box rfl rfl rfl (fun b3 => ?_)
  refine WL.p (.none rfl) rfl (OpP.assign rfl) ?_
  refine WL.nil ?_
  refine EQ.sub ((Sub.cons (i := 0) rfl (Sub.cons (i := 3) rfl (Sub.cons (i := 4) rfl (Sub.nil _))))) ?_
  refine EQ.code ?_
  refine WC.seq ?_
  refine WC.seq ?_
  refine WC.region ?_
  refine WL.p (.none rfl) rfl (OpP.move rfl) ?_
  refine WL.p (.none rfl) rfl (OpP.lenSl rfl Try.underlying23) ?_
  refine WL.p (.none rfl) rfl (OpP.gtr rfl rfl) ?_
  refine WL.nil ?_
  refine EQ.sub ((Sub.cons (i := 0) rfl (Sub.cons (i := 3) rfl (Sub.cons (i := 4) rfl (Sub.cons (i := 19) rfl (Sub.nil _)))))) ?_
  refine EQ.code ?_
  refine WC.cond rfl (fun hc0 => ?_) (fun hc0 => ?_)
  · -- cond 0 t
    (try simp only [decide_eq_true_eq, decide_eq_false_iff_not, Bool.not_eq_true', Bool.not_eq_false', Bool.or_eq_true, Bool.and_eq_true, Bool.or_eq_false_iff, Bool.and_eq_false_imp, Option.isNone_some, Bool.false_eq_true, false_or, true_and] at hc0)
    refine WC.seq ?_
    refine WC.region ?_
    refine WL.callD rfl (.none rfl) rfl k_8 rfl (alive_c) ?_
    refine WL.p (.none rfl) rfl (OpP.assign rfl) ?_
    refine WL.nil ?_
    refine EQ.sub ((Sub.cons (i := 0) rfl (Sub.cons (i := 3) rfl (Sub.cons (i := 4) rfl (Sub.nil _))))) ?_
    refine EQ.code ?_
    refine WC.ret ?_
    refine EQ.thenR ?_
    refine EQ.finD (H' := H) (res1 rfl (.tmp rfl)) (by intro _ h; first | exact h.drop | exact h.drop.sublist ((List.sublist_cons_self _ _).trans (List.sublist_append_right _ _))) ?_
    exact ⟨rfl, rfl⟩
  · -- cond 0 f
    (try simp only [decide_eq_true_eq, decide_eq_false_iff_not, Bool.not_eq_true', Bool.not_eq_false', Bool.or_eq_true, Bool.and_eq_true, Bool.or_eq_false_iff, Bool.and_eq_false_imp, Option.isNone_some, Bool.false_eq_true, false_or, true_and] at hc0)
    refine WC.skip ?_
    refine EQ.code ?_
    refine WC.seq ?_
    refine WC.region ?_
    refine WL.p (.none rfl) rfl (OpP.move rfl) ?_
    refine WL.call rfl (.none rfl) rfl k_9 rfl (FNew_c (H := (b3, cl [.int .i64 n, .int .u64 b] 38) :: H) hl (by omega) hc hsl.cons) ?_
    rintro _ _ hnew
    rw [if_pos (by show (decide (0 ≤ (m : Int)) && decide ((m : Int) ≤ 4096)) = true; simp; omega)] at hnew
    obtain ⟨g, ds, ba, bc, rfl, rfl, hown⟩ := hnew
    have h0 := new_live 1 ⟨#[102]⟩ m (sumF l) ba bc
    have hn0 : (newSnd 1 ⟨#[102]⟩ m (sumF l) ba bc).n = chunks m := rfl
    have hz0 : (newSnd 1 ⟨#[102]⟩ m (sumF l) ba bc).bits = 0 := rfl
    generalize newSnd 1 ⟨#[102]⟩ m (sumF l) ba bc = x0 at *
    obtain ⟨h1, hn1, hz1⟩ := know_new h0 hz0 (n := n) hb hb2
    have hask := h0.ask n b
    refine WL.p (.none rfl) rfl (OpP.move rfl) ?_
    refine WL.p (.none rfl) rfl (OpP.extract rfl rfl) ?_
    refine WL.p (.none rfl) rfl (OpP.extract rfl rfl) ?_
    refine WL.p (.none rfl) rfl (OpP.assign rfl) ?_
    refine WL.p (.none rfl) rfl (OpP.assign rfl) ?_
    refine WL.nil ?_
    refine EQ.sub ((Sub.cons (i := 0) rfl (Sub.cons (i := 3) rfl (Sub.cons (i := 4) rfl (Sub.cons (i := 5) rfl (Sub.cons (i := 6) rfl (Sub.nil _))))))) ?_
    refine EQ.code ?_
    refine WC.seq ?_
    refine WC.seq ?_
    refine WC.region ?_
    refine WL.p (.none rfl) rfl (OpP.move rfl) ?_
    refine WL.p (.none rfl) rfl (OpP.neqI rfl rfl) ?_
    refine WL.p (.none rfl) rfl (OpP.move rfl) ?_
    refine WL.g (.bool rfl rfl rfl) rfl (fun hg => OpP.move rfl) ?_
    refine WL.g (.bool rfl rfl rfl) rfl (fun hg => OpP.eqlNil (gk hg rfl) rfl Try.underlying26) ?_
    refine WL.p (.none rfl) rfl (OpP.por rfl rfl rfl) ?_
    refine WL.nil ?_
    refine EQ.sub ((Sub.cons (i := 0) rfl (Sub.cons (i := 3) rfl (Sub.cons (i := 4) rfl (Sub.cons (i := 5) rfl (Sub.cons (i := 31) rfl (Sub.nil _))))))) ?_
    refine EQ.code ?_
    refine WC.condF rfl ?_
    refine WC.skip ?_
    refine EQ.code ?_
    refine WC.seq ?_
    refine WC.region ?_
    refine WL.p (.none rfl) rfl (OpP.move rfl) ?_
    refine WL.p (.none rfl) rfl (OpP.loadB rfl ty_38 (by repeat (first | assumption | exact List.mem_cons_self | exact List.mem_of_getElem? (by assumption) | exact set_mem (by first | assumption | exact set_hit (by assumption)) | apply List.mem_cons_of_mem | apply List.mem_append_right)) (by rfl)) ?_
    refine WL.callD rfl (.none rfl) rfl k_18 rfl (KnowH_c h0.lo h0.hi hb hb2 h0.right) ?_
    refine WL.p (.none rfl) rfl (OpP.assign rfl) ?_
    refine WL.nil ?_
    refine EQ.sub ((Sub.cons (i := 0) rfl (Sub.cons (i := 3) rfl (Sub.cons (i := 4) rfl (Sub.cons (i := 5) rfl (Sub.cons (i := 7) rfl (Sub.nil _))))))) ?_
    refine EQ.code ?_
    refine WC.seq ?_
    refine WC.region ?_
    refine WL.p (.none rfl) rfl (OpP.move rfl) ?_
    refine WL.callD rfl (.none rfl) rfl k_23 rfl (Left_c at0 h1.lo h1.hi ⟨(mRight_spec h1.right).1, (mRight_spec h1.right).2.1⟩) ?_
    refine WL.p (.none rfl) rfl (OpP.eqlI rfl rfl) ?_
    refine WL.p (.none rfl) rfl (OpP.assign rfl) ?_
    refine WL.nil ?_
    refine EQ.sub ((Sub.cons (i := 0) rfl (Sub.cons (i := 3) rfl (Sub.cons (i := 4) rfl (Sub.cons (i := 5) rfl (Sub.cons (i := 7) rfl (Sub.cons (i := 8) rfl (Sub.nil _)))))))) ?_
    refine EQ.code ?_
    refine WC.seq ?_
    refine WC.region ?_
    refine WL.p (.none rfl) rfl (OpP.move rfl) ?_
    refine WL.callD rfl (.none rfl) rfl k_21 rfl (CancelH_c h1.lo h1.hi h1.made) ?_
    refine WL.p (.none rfl) rfl (OpP.assign rfl) ?_
    refine WL.nil ?_
    refine EQ.sub ((Sub.cons (i := 0) rfl (Sub.cons (i := 3) rfl (Sub.cons (i := 4) rfl (Sub.cons (i := 5) rfl (Sub.cons (i := 7) rfl (Sub.cons (i := 8) rfl (Sub.cons (i := 9) rfl (Sub.nil _))))))))) ?_
    refine EQ.code ?_
    refine WC.seq ?_
    refine WC.seq ?_
    refine WC.region ?_
    refine WL.p (.none rfl) rfl (OpP.move rfl) ?_
    refine WL.nil ?_
    refine EQ.sub ((Sub.cons (i := 0) rfl (Sub.cons (i := 3) rfl (Sub.cons (i := 4) rfl (Sub.cons (i := 5) rfl (Sub.cons (i := 7) rfl (Sub.cons (i := 9) rfl (Sub.cons (i := 40) rfl (Sub.nil _))))))))) ?_
    refine EQ.code ?_
    refine WC.cond rfl (fun hc2 => ?_) (fun hc2 => ?_)
    · -- cond 2 t
      (try simp only [decide_eq_true_eq, decide_eq_false_iff_not, Bool.not_eq_true', Bool.not_eq_false', Bool.or_eq_true, Bool.and_eq_true, Bool.or_eq_false_iff, Bool.and_eq_false_imp, Option.isNone_some, Bool.false_eq_true, false_or, true_and] at hc2)
      have hfull := h1.left.1 hc2
      refine WC.seq ?_
      refine WC.region ?_
      refine WL.callD rfl (.none rfl) rfl k_8 rfl (alive_c) ?_
      refine WL.p (.none rfl) rfl (OpP.move rfl) ?_
      refine WL.g (.bool rfl rfl rfl) rfl (fun hg => OpP.move rfl) ?_
      refine WL.g (.bool rfl rfl rfl) rfl (fun hg => OpP.eqlI (gk hg rfl) rfl) ?_
      refine WL.p (.none rfl) rfl (OpP.pand rfl rfl rfl) ?_
      refine WL.p (.none rfl) rfl (OpP.move rfl) ?_
      refine WL.g (.bool rfl rfl rfl) rfl (fun hg => OpP.move rfl) ?_
      refine WL.gcall rfl (.bool rfl rfl rfl) rfl k_25 (fun hg => kops1 (gk hg rfl)) (fun hg => State_c at0 (x := (x0.know n b).cancel) (by rw [h1.cancel2 hfull]; exact h1.lo) (by rw [h1.cancel2 hfull]; exact h1.hi)) ?_
      refine WL.g (.bool rfl rfl rfl) rfl (fun hg => OpP.eqlI (gk hg rfl) rfl) ?_
      refine WL.p (.none rfl) rfl (OpP.pand rfl rfl rfl) ?_
      refine WL.p (.none rfl) rfl (OpP.move rfl) ?_
      refine WL.g (.bool rfl rfl rfl) rfl (fun hg => OpP.move rfl) ?_
      refine WL.g (.bool rfl rfl rfl) rfl (fun hg => OpP.eqlI (gk hg rfl) rfl) ?_
      refine WL.g (.bool rfl rfl rfl) rfl (fun hg => OpP.move (gk hg rfl)) ?_
      refine WL.g (.gv rfl rfl rfl) rfl (fun hg => OpP.move rfl) ?_
      refine WL.g (.gv rfl rfl rfl) rfl (fun hg => OpP.lenSl (gk hg rfl) Try.underlying23) ?_
      refine WL.g (.gv rfl rfl rfl) rfl (fun hg => OpP.eqlI (gk hg rfl) rfl) ?_
      refine WL.g (.bool rfl rfl rfl) rfl (fun hg => OpP.por (gk hg rfl) rfl (gk2 hg rfl)) ?_
      refine WL.p (.none rfl) rfl (OpP.pand rfl rfl rfl) ?_
      refine WL.p (.none rfl) rfl (OpP.assign rfl) ?_
      refine WL.nil ?_
      refine EQ.sub ((Sub.cons (i := 3) rfl (Sub.cons (i := 4) rfl (Sub.cons (i := 5) rfl (Sub.cons (i := 7) rfl (Sub.cons (i := 9) rfl (Sub.nil _))))))) ?_
      refine EQ.code ?_
      refine WC.ret ?_
      refine EQ.thenR ?_
      refine EQ.finD (H' := H) (res1 rfl (.tmp rfl)) (by intro _ h; first | exact h.drop | exact h.drop.sublist ((List.sublist_cons_self _ _).trans (List.sublist_append_right _ _))) ?_
      refine ⟨?_, rfl⟩
      have hs1 := h1.state
      rw [hfull] at hs1
      have hs2 : (x0.know n b).cancel.state = 2 := by rw [h1.cancel2 hfull]; exact hs1
      have hz : x0.ask n b = 0 ∨ m = 0 := by
        by_cases hq : x0.ask n b = 0
        · exact .inl hq
        · right
          have := full_zero (hz1 hq) hfull (mRight_spec h1.right).1
          rw [hn1, hn0] at this
          unfold chunks at this
          split at this <;> omega
      refine congrArg Value.bool ?_
      rw [hs1, hs2]
      rcases hz with h | h <;> simp [h]
    · -- cond 2 f
      (try simp only [decide_eq_true_eq, decide_eq_false_iff_not, Bool.not_eq_true', Bool.not_eq_false', Bool.or_eq_true, Bool.and_eq_true, Bool.or_eq_false_iff, Bool.and_eq_false_imp, Option.isNone_some, Bool.false_eq_true, false_or, true_and] at hc2)
      have hfull : (x0.know n b).full = false := by cases hq : (x0.know n b).full with
        | false => rfl
        | true => exact absurd (h1.left.2 hq) hc2
      obtain ⟨h2, hn2⟩ := h1.cancel hfull
      refine WC.skip ?_
      refine EQ.code ?_
      refine WC.seq ?_
      refine WC.region ?_
      refine WL.p (.none rfl) rfl (OpP.move rfl) ?_
      refine WL.callD rfl (.none rfl) rfl k_17 rfl (NextGone_c h2 at0) ?_
      refine WL.p (.none rfl) rfl (OpP.move rfl) ?_
      refine WL.p (.none rfl) rfl (OpP.extract rfl rfl) ?_
      refine WL.p (.none rfl) rfl (OpP.extract rfl rfl) ?_
      refine WL.p (.none rfl) rfl (OpP.extract rfl rfl) ?_
      refine WL.p (.none rfl) rfl (OpP.assign rfl) ?_
      refine WL.p (.none rfl) rfl (OpP.assign rfl) ?_
      refine WL.p (.none rfl) rfl (OpP.assign rfl) ?_
      refine WL.nil ?_
      refine EQ.sub ((Sub.cons (i := 3) rfl (Sub.cons (i := 4) rfl (Sub.cons (i := 5) rfl (Sub.cons (i := 7) rfl (Sub.cons (i := 9) rfl (Sub.cons (i := 12) rfl (Sub.nil _)))))))) ?_
      refine EQ.code ?_
      refine WC.seq ?_
      refine WC.region ?_
      refine WL.p (.none rfl) rfl (OpP.move rfl) ?_
      refine WL.callD rfl (.none rfl) rfl k_12 rfl (PeekGone_c h2 at0) ?_
      refine WL.p (.none rfl) rfl (OpP.move rfl) ?_
      refine WL.p (.none rfl) rfl (OpP.extract rfl rfl) ?_
      refine WL.p (.none rfl) rfl (OpP.extract rfl rfl) ?_
      refine WL.p (.none rfl) rfl (OpP.assign rfl) ?_
      refine WL.p (.none rfl) rfl (OpP.assign rfl) ?_
      refine WL.nil ?_
      refine EQ.sub ((Sub.cons (i := 3) rfl (Sub.cons (i := 4) rfl (Sub.cons (i := 5) rfl (Sub.cons (i := 7) rfl (Sub.cons (i := 9) rfl (Sub.cons (i := 12) rfl (Sub.cons (i := 13) rfl (Sub.cons (i := 14) rfl (Sub.nil _)))))))))) ?_
      refine EQ.code ?_
      refine WC.seq ?_
      refine WC.region ?_
      refine WL.p (.none rfl) rfl (OpP.move rfl) ?_
      refine WL.p (.none rfl) rfl (OpP.loadB rfl ty_38 (by repeat (first | assumption | exact List.mem_cons_self | exact List.mem_of_getElem? (by assumption) | exact set_mem (by first | assumption | exact set_hit (by assumption)) | apply List.mem_cons_of_mem | apply List.mem_append_right)) (by rfl)) ?_
      refine WL.callD rfl (.none rfl) rfl k_18 rfl (KnowGone_c h2 at0 hb hb2) ?_
      refine WL.p (.none rfl) rfl (OpP.assign rfl) ?_
      refine WL.nil ?_
      refine EQ.sub ((Sub.cons (i := 3) rfl (Sub.cons (i := 4) rfl (Sub.cons (i := 5) rfl (Sub.cons (i := 7) rfl (Sub.cons (i := 9) rfl (Sub.cons (i := 12) rfl (Sub.cons (i := 13) rfl (Sub.cons (i := 14) rfl (Sub.cons (i := 15) rfl (Sub.nil _))))))))))) ?_
      refine EQ.code ?_
      refine WC.seq ?_
      refine WC.region ?_
      refine WL.p (.none rfl) rfl (OpP.move rfl) ?_
      refine WL.p (.none rfl) rfl (OpP.loadB rfl ty_38 (by repeat (first | assumption | exact List.mem_cons_self | exact List.mem_of_getElem? (by assumption) | exact set_mem (by first | assumption | exact set_hit (by assumption)) | apply List.mem_cons_of_mem | apply List.mem_append_right)) (by rfl)) ?_
      refine WL.callD rfl (.none rfl) rfl k_20 rfl (AnewGone_c h2 at0 hb hb2) ?_
      refine WL.p (.none rfl) rfl (OpP.assign rfl) ?_
      refine WL.nil ?_
      refine EQ.sub ((Sub.cons (i := 4) rfl (Sub.cons (i := 5) rfl (Sub.cons (i := 7) rfl (Sub.cons (i := 9) rfl (Sub.cons (i := 12) rfl (Sub.cons (i := 13) rfl (Sub.cons (i := 14) rfl (Sub.cons (i := 15) rfl (Sub.cons (i := 16) rfl (Sub.nil _))))))))))) ?_
      refine EQ.code ?_
      refine WC.seq ?_
      refine WC.region ?_
      refine WL.callD rfl (.none rfl) rfl k_8 rfl (alive_c) ?_
      refine WL.p (.none rfl) rfl (OpP.move rfl) ?_
      refine WL.g (.bool rfl rfl rfl) rfl (fun hg => OpP.move rfl) ?_
      refine WL.g (.bool rfl rfl rfl) rfl (fun hg => OpP.eqlI (gk hg rfl) rfl) ?_
      refine WL.p (.none rfl) rfl (OpP.pand rfl rfl rfl) ?_
      refine WL.p (.none rfl) rfl (OpP.move rfl) ?_
      refine WL.g (.bool rfl rfl rfl) rfl (fun hg => OpP.move rfl) ?_
      refine WL.gcall rfl (.bool rfl rfl rfl) rfl k_25 (fun hg => kops1 (gk hg rfl)) (fun hg => StateGone_c h2 at0) ?_
      refine WL.g (.bool rfl rfl rfl) rfl (fun hg => OpP.eqlI (gk hg rfl) rfl) ?_
      refine WL.p (.none rfl) rfl (OpP.pand rfl rfl rfl) ?_
      refine WL.p (.none rfl) rfl (OpP.move rfl) ?_
      refine WL.g (.bool rfl rfl rfl) rfl (fun hg => OpP.move rfl) ?_
      refine WL.g (.bool rfl rfl rfl) rfl (fun hg => OpP.not (gk hg rfl)) ?_
      refine WL.p (.none rfl) rfl (OpP.pand rfl rfl rfl) ?_
      refine WL.p (.none rfl) rfl (OpP.move rfl) ?_
      refine WL.g (.bool rfl rfl rfl) rfl (fun hg => OpP.move rfl) ?_
      refine WL.g (.bool rfl rfl rfl) rfl (fun hg => OpP.not (gk hg rfl)) ?_
      refine WL.p (.none rfl) rfl (OpP.pand rfl rfl rfl) ?_
      refine WL.p (.none rfl) rfl (OpP.move rfl) ?_
      refine WL.g (.bool rfl rfl rfl) rfl (fun hg => OpP.move rfl) ?_
      refine WL.g (.bool rfl rfl rfl) rfl (fun hg => OpP.eqlI (gk hg rfl) rfl) ?_
      refine WL.p (.none rfl) rfl (OpP.pand rfl rfl rfl) ?_
      refine WL.p (.none rfl) rfl (OpP.move rfl) ?_
      refine WL.g (.bool rfl rfl rfl) rfl (fun hg => OpP.move rfl) ?_
      refine WL.gcall rfl (.bool rfl rfl rfl) rfl k_29 (fun hg => kops2 (gk hg rfl) rfl) (fun hg => CostsGone_c h2 at0) ?_
      refine WL.g (.bool rfl rfl rfl) rfl (fun hg => OpP.lenSl (gk hg rfl) Try.underlying60) ?_
      refine WL.g (.bool rfl rfl rfl) rfl (fun hg => OpP.eqlI (gk hg rfl) rfl) ?_
      refine WL.p (.none rfl) rfl (OpP.pand rfl rfl rfl) ?_
      refine WL.p (.none rfl) rfl (OpP.move rfl) ?_
      refine WL.g (.bool rfl rfl rfl) rfl (fun hg => OpP.move rfl) ?_
      refine WL.gcall rfl (.bool rfl rfl rfl) rfl k_23 (fun hg => kops1 (gk hg rfl)) (fun hg => LeftGone_c h2 at0) ?_
      refine WL.g (.bool rfl rfl rfl) rfl (fun hg => OpP.eqlI (gk hg rfl) rfl) ?_
      refine WL.p (.none rfl) rfl (OpP.pand rfl rfl rfl) ?_
      refine WL.p (.none rfl) rfl (OpP.move rfl) ?_
      refine WL.g (.bool rfl rfl rfl) rfl (fun hg => OpP.move rfl) ?_
      refine WL.g (.bool rfl rfl rfl) rfl (fun hg => OpP.eqlI (gk hg rfl) rfl) ?_
      refine WL.g (.bool rfl rfl rfl) rfl (fun hg => OpP.move (gk hg rfl)) ?_
      refine WL.g (.gv rfl rfl rfl) rfl (fun hg => OpP.move rfl) ?_
      refine WL.g (.gv rfl rfl rfl) rfl (fun hg => OpP.eqlI (gk hg rfl) rfl) ?_
      refine WL.g (.bool rfl rfl rfl) rfl (fun hg => OpP.pand (gk hg rfl) (gk2 hg rfl) rfl) ?_
      refine WL.g (.bool rfl rfl rfl) rfl (fun hg => OpP.move (gk hg rfl)) ?_
      refine WL.g (.gv rfl rfl rfl) rfl (fun hg => OpP.move rfl) ?_
      refine WL.g (.gv rfl rfl rfl) rfl (fun hg => OpP.eqlI (gk hg rfl) rfl) ?_
      refine WL.g (.bool rfl rfl rfl) rfl (fun hg => OpP.pand (gk hg rfl) (gk2 hg rfl) rfl) ?_
      refine WL.g (.bool rfl rfl rfl) rfl (fun hg => OpP.move (gk hg rfl)) ?_
      refine WL.g (.gv rfl rfl rfl) rfl (fun hg => OpP.move rfl) ?_
      refine WL.g (.gv rfl rfl rfl) rfl (fun hg => OpP.eqlI (gk hg rfl) rfl) ?_
      refine WL.g (.gv rfl rfl rfl) rfl (fun hg => OpP.move (gk hg rfl)) ?_
      refine WL.g (.gv rfl rfl rfl) rfl (fun hg => OpP.move rfl) ?_
      refine WL.g (.gv rfl rfl rfl) rfl (fun hg => OpP.eqlI (gk hg rfl) rfl) ?_
      refine WL.g (.gv rfl rfl rfl) rfl (fun hg => OpP.pand (gk hg rfl) (gk2 hg rfl) rfl) ?_
      refine WL.g (.gv rfl rfl rfl) rfl (fun hg => OpP.move (gk hg rfl)) ?_
      refine WL.g (.gv rfl rfl rfl) rfl (fun hg => OpP.move rfl) ?_
      refine WL.g (.gv rfl rfl rfl) rfl (fun hg => OpP.eqlI (gk hg rfl) rfl) ?_
      refine WL.g (.gv rfl rfl rfl) rfl (fun hg => OpP.pand (gk hg rfl) (gk2 hg rfl) rfl) ?_
      refine WL.g (.bool rfl rfl rfl) rfl (fun hg => OpP.por (gk hg rfl) rfl (gk2 hg rfl)) ?_
      refine WL.p (.none rfl) rfl (OpP.pand rfl rfl rfl) ?_
      refine WL.p (.none rfl) rfl (OpP.move rfl) ?_
      refine WL.g (.bool rfl rfl rfl) rfl (fun hg => OpP.move rfl) ?_
      refine WL.gcall rfl (.bool rfl rfl rfl) rfl k_21 (fun hg => kops1 (gk hg rfl)) (fun hg => CancelGone_c h2 at0) ?_
      refine WL.g (.bool rfl rfl rfl) rfl (fun hg => OpP.eqlI (gk hg rfl) rfl) ?_
      refine WL.p (.none rfl) rfl (OpP.pand rfl rfl rfl) ?_
      refine WL.p (.none rfl) rfl (OpP.assign rfl) ?_
      refine WL.nil ?_
      refine EQ.sub ((Sub.cons (i := 4) rfl (Sub.nil _))) ?_
      refine EQ.code ?_
      refine WC.ret ?_
      refine EQ.finD (H' := H) (res1 rfl (.tmp rfl)) (by intro _ h; first | exact h.drop | exact h.drop.sublist ((List.sublist_cons_self _ _).trans (List.sublist_append_right _ _))) ?_
      refine ⟨?_, rfl⟩
      have hs1 := h1.state
      rw [hfull] at hs1
      refine congrArg Value.bool ?_
      rw [hn2, hn1, hask, hs1]
      by_cases hq : mRight n b = true ∧ n = x0.n
      · simp [hq]
      · rw [if_neg hq, if_neg hq]
        rfl

end Go.Proofs.Ytmeimjpjelmchaa
