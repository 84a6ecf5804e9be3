/- Lv: walks of functions of the program, each over the rules of Sx. No conditions but those in the theorems' heads. -/
import Derived.Test.YtmeimjpjelmchaaCst
import Derived.Test.YtmeimjpjelmchaaSxStr
import Derived.Test.YtmeimjpjelmchaaProg
set_option linter.unusedVariables false
set_option linter.unusedSimpArgs false
namespace Go.Proofs.Ytmeimjpjelmchaa
open Go.RowKit Go.Sx
namespace Lv
theorem fld_57_0 : fldI Try.prog 57 0 = some (0, false, 1) := by kernel_rfl
theorem k_49 : Cal Try.prog 49 := ⟨_, _, Try.func49, by kernel_rfl, rfl⟩
theorem k_50 : Cal Try.prog 50 := ⟨_, _, Try.func50, by kernel_rfl, rfl⟩
theorem ty_38 : tyI Try.prog 38 = some (true, 2) := by kernel_rfl
theorem ty_4 : tyI Try.prog 4 = some (false, 1) := by kernel_rfl
end Lv
open Lv

set_option maxRecDepth 100000 in
theorem next_nil {W0 : World} {H : Hp} : CxD Try.prog W0 49 #[.pointer none] H (.int .i64 (-1)) H := by
  refine enter Try.func49 rfl Try.ntmps49 rfl ?_
  refine WC.seq ?_
  refine WC.region ?_
  refine WL.p (.none rfl) rfl (OpP.assign rfl) ?_
  refine WL.nil ?_
  refine EQ.sub ((Sub.cons (i := 0) rfl (Sub.cons (i := 2) rfl (Sub.nil _)))) ?_
  refine EQ.code ?_
  refine WC.scope ?_
  refine WC.seq ?_
  refine WC.seq ?_
  refine WC.region ?_
  refine WL.p (.none rfl) rfl (OpP.move rfl) ?_
  refine WL.p (.none rfl) rfl (OpP.eqlNil rfl rfl Try.underlying26) ?_
  refine WL.p (.none rfl) rfl (OpP.move rfl) ?_
  first | (refine WL.skip (.no rfl rfl rfl) rfl ?_) | (refine WL.skip (.un rfl rfl rfl) rfl ?_)
  first | (refine WL.skip (.no rfl rfl rfl) rfl ?_) | (refine WL.skip (.un rfl rfl rfl) rfl ?_)
  first | (refine WL.skip (.no rfl rfl rfl) rfl ?_) | (refine WL.skip (.un rfl rfl rfl) rfl ?_)
  first | (refine WL.skip (.no rfl rfl rfl) rfl ?_) | (refine WL.skip (.un rfl rfl rfl) rfl ?_)
  first | (refine WL.skip (.no rfl rfl rfl) rfl ?_) | (refine WL.skip (.un rfl rfl rfl) rfl ?_)
  first | (refine WL.p (.none rfl) rfl (OpP.pickT rfl rfl) ?_) | (refine WL.p (.none rfl) rfl (OpP.pickF rfl rfl) ?_) | (refine WL.p (.none rfl) rfl (OpP.por rfl rfl rfl) ?_)
  refine WL.p (.none rfl) rfl (OpP.move rfl) ?_
  first | (refine WL.skip (.no rfl rfl rfl) rfl ?_) | (refine WL.skip (.un rfl rfl rfl) rfl ?_)
  first | (refine WL.skip (.no rfl rfl rfl) rfl ?_) | (refine WL.skip (.un rfl rfl rfl) rfl ?_)
  first | (refine WL.skip (.no rfl rfl rfl) rfl ?_) | (refine WL.skip (.un rfl rfl rfl) rfl ?_)
  first | (refine WL.p (.none rfl) rfl (OpP.pickT rfl rfl) ?_) | (refine WL.p (.none rfl) rfl (OpP.pickF rfl rfl) ?_) | (refine WL.p (.none rfl) rfl (OpP.por rfl rfl rfl) ?_)
  refine WL.nil ?_
  refine EQ.sub ((Sub.cons (i := 0) rfl (Sub.cons (i := 2) rfl (Sub.cons (i := 20) rfl (Sub.nil _))))) ?_
  refine EQ.code ?_
  refine WC.condT rfl ?_
  refine WC.seq ?_
  refine WC.region ?_
  refine WL.p (.none rfl) rfl (OpP.assign rfl) ?_
  refine WL.nil ?_
  refine EQ.sub ((Sub.cons (i := 0) rfl (Sub.cons (i := 2) rfl (Sub.nil _)))) ?_
  refine EQ.code ?_
  refine WC.ret ?_
  refine EQ.thenR ?_
  refine EQ.scopeR ?_
  refine EQ.fin (res1 rfl (.tmp rfl)) ?_
  exact ⟨rfl, rfl⟩

set_option maxRecDepth 100000 in
theorem Next_nil {W0 : World} {H : Hp} : CxD Try.prog W0 17 #[.pointer none] H (.tuple #[.int .i64 0, .slice none 0 0, .bool false]) H := by
  refine enter Try.func17 rfl Try.ntmps17 rfl ?_
  refine WC.seq ?_
  refine WC.region ?_
  refine WL.p (.none rfl) rfl (OpP.assign rfl) ?_
  refine WL.p (.none rfl) rfl (OpP.assign rfl) ?_
  refine WL.p (.none rfl) rfl (OpP.assign rfl) ?_
  refine WL.nil ?_
  refine EQ.sub ((Sub.cons (i := 0) rfl (Sub.cons (i := 2) rfl (Sub.cons (i := 3) rfl (Sub.cons (i := 4) rfl (Sub.nil _)))))) ?_
  refine EQ.code ?_
  refine WC.seq ?_
  refine WC.region ?_
  refine WL.p (.none rfl) rfl (OpP.move rfl) ?_
  refine WL.callD rfl (.none rfl) rfl k_49 rfl (next_nil) ?_
  refine WL.p (.none rfl) rfl (OpP.assign rfl) ?_
  refine WL.nil ?_
  refine EQ.sub ((Sub.cons (i := 0) rfl (Sub.cons (i := 2) rfl (Sub.cons (i := 3) rfl (Sub.cons (i := 4) rfl (Sub.cons (i := 5) rfl (Sub.nil _))))))) ?_
  refine EQ.code ?_
  refine WC.seq ?_
  refine WC.seq ?_
  refine WC.region ?_
  refine WL.p (.none rfl) rfl (OpP.move rfl) ?_
  refine WL.p (.none rfl) rfl (OpP.lss rfl rfl) ?_
  refine WL.nil ?_
  refine EQ.sub ((Sub.cons (i := 0) rfl (Sub.cons (i := 2) rfl (Sub.cons (i := 3) rfl (Sub.cons (i := 4) rfl (Sub.cons (i := 5) rfl (Sub.cons (i := 11) rfl (Sub.nil _)))))))) ?_
  refine EQ.code ?_
  refine WC.condT rfl ?_
  refine WC.seq ?_
  refine WC.region ?_
  refine WL.p (.none rfl) rfl (OpP.assign rfl) ?_
  refine WL.p (.none rfl) rfl (OpP.assign rfl) ?_
  refine WL.p (.none rfl) rfl (OpP.assign rfl) ?_
  refine WL.nil ?_
  refine EQ.sub ((Sub.cons (i := 0) rfl (Sub.cons (i := 2) rfl (Sub.cons (i := 3) rfl (Sub.cons (i := 4) rfl (Sub.cons (i := 5) rfl (Sub.nil _))))))) ?_
  refine EQ.code ?_
  refine WC.ret ?_
  refine EQ.thenR ?_
  refine EQ.fin (res3 rfl (.tmp rfl) (.tmp rfl) (.tmp rfl)) ?_
  exact ⟨rfl, rfl⟩

set_option maxRecDepth 100000 in
theorem Know_nil {W0 : World} {H : Hp} {n b : Int} : CxD Try.prog W0 18 #[.pointer none, mv n b] H (.int .i64 6) H := by
  refine enter Try.func18 rfl Try.ntmps18 rfl ?_
  refine WC.seq ?_
  refine WC.region ?_
  refine WL.box rfl rfl rfl (fun b3 => ?_)
  refine WL.p (.none rfl) rfl (OpP.assign rfl) ?_
  refine WL.nil ?_
  refine EQ.sub ((Sub.cons (i := 0) rfl (Sub.cons (i := 3) rfl (Sub.cons (i := 4) rfl (Sub.nil _))))) ?_
  refine EQ.code ?_
  refine WC.seq ?_
  refine WC.seq ?_
  refine WC.region ?_
  refine WL.p (.none rfl) rfl (OpP.move rfl) ?_
  refine WL.p (.none rfl) rfl (OpP.loadB rfl ty_38 (by repeat (first | assumption | exact List.mem_cons_self | exact List.mem_of_getElem? (by assumption) | exact set_mem (by first | assumption | exact set_hit (by assumption)) | apply List.mem_cons_of_mem | apply List.mem_append_right)) (by rfl)) ?_
  refine WL.callD rfl (.none rfl) rfl k_50 rfl (ask_nil) ?_
  refine WL.p (.none rfl) rfl (OpP.assign rfl) ?_
  refine WL.nil ?_
  refine EQ.sub ((Sub.cons (i := 0) rfl (Sub.cons (i := 3) rfl (Sub.cons (i := 4) rfl (Sub.cons (i := 5) rfl (Sub.nil _)))))) ?_
  refine EQ.code ?_
  refine WC.seq ?_
  refine WC.region ?_
  refine WL.p (.none rfl) rfl (OpP.move rfl) ?_
  refine WL.p (.none rfl) rfl (OpP.neqI rfl rfl) ?_
  refine WL.nil ?_
  refine EQ.sub ((Sub.cons (i := 0) rfl (Sub.cons (i := 3) rfl (Sub.cons (i := 4) rfl (Sub.cons (i := 5) rfl (Sub.cons (i := 12) rfl (Sub.nil _))))))) ?_
  refine EQ.code ?_
  refine WC.condT rfl ?_
  refine WC.seq ?_
  refine WC.region ?_
  refine WL.p (.none rfl) rfl (OpP.move rfl) ?_
  refine WL.p (.none rfl) rfl (OpP.assign rfl) ?_
  refine WL.nil ?_
  refine EQ.sub ((Sub.cons (i := 0) rfl (Sub.cons (i := 3) rfl (Sub.cons (i := 4) rfl (Sub.nil _))))) ?_
  refine EQ.code ?_
  refine WC.ret ?_
  refine EQ.thenR ?_
  refine EQ.finD (H' := H) (res1 rfl (.tmp rfl)) (by intro _ h; first | exact h | exact h.drop | exact h.drop.drop | exact h.drop.drop.drop | exact h.drop.drop.drop.drop | exact h.drop.drop.drop.drop.drop | exact h.drop.drop.drop.drop.drop.drop | exact h.drop_mid) ?_
  exact ⟨rfl, rfl⟩

theorem flat34 : flatT Try.prog 3 34 = some (.i .u64 :: .s :: .i .i64 :: List.replicate 32 (.i .u8)) := by kernel_rfl
theorem next_rng {x : Snd} (hr : mRight x.n x.bits = true) (hb : 0 ≤ x.bits) (hx : 0 ≤ x.next) : x.next < x.n := next_lt x (mRight_spec hr).1 (fun h1 h2 => miss_ne hr hb h1 h2) hx
theorem CxD.to {P : Program} {W0 : World} {f : FuncId} {args : Array Value} {H H' H2 : Hp} {v v2 : Value} (h : CxD P W0 f args H v H') (e1 : v = v2) (e2 : H' = H2) : CxD P W0 f args H v2 H2 := by subst e1 e2; exact h
theorem CxX.to {P : Program} {W0 : World} {f : FuncId} {args : Array Value} {H : Hp} {R R2 : Value → Hp → Prop} (h : CxX P W0 f args H R) (e : ∀ v H', R v H' → R2 v H') : CxX P W0 f args H R2 := fun w hS =>
  (h w hS).mono fun _ _ ⟨v, H', he, hR, hS'⟩ => ⟨v, H', he, e v H' hR, hS'⟩
/-- Peek, in the words of the other sender. -/
theorem Peek2_c {W0 : World} {H : Hp} {g i : Nat} {x : Snd} {y : Rsn} (hi : H[i]? = some (g, x.obj)) (h : Rel x y) : CxD Try.prog W0 12 #[.pointer (some ⟨g, 0, none⟩)] H (.tuple #[.int .i64 (if y.next < 0 then 0 else lengthAt y.cn y.next), .bool (decide (0 ≤ y.next))]) H :=
  CxD.to (Peek_c hi h.lo h.hi h.right) (by rw [h.next, h.size]) rfl
theorem rNextF_c {W0 : World} {H : Hp} {g i j : Nat} {x : Rsn} (hi : H[i]? = some (g, x.obj)) (hj : H[j]? = some (x.hb, x.hob)) (hlen : x.has.length ≤ 64) : CxD Try.prog W0 13 #[.pointer (some ⟨g, 0, none⟩), .bool false] H (.int .i64 x.next) H :=
  CxD.to (rNext_c (b := false) hi hj hlen) rfl (by rw [if_neg (by simp)])
def Rsn.told (x : Rsn) : Rsn := if 0 ≤ x.next then { x with pos := x.next + 1 } else x
theorem rNext2_c {W0 : World} {H : Hp} {g i j : Nat} {x : Rsn} (hi : H[i]? = some (g, x.obj)) (hj : H[j]? = some (x.hb, x.hob)) (hlen : x.has.length ≤ 64) : CxD Try.prog W0 13 #[.pointer (some ⟨g, 0, none⟩), .bool true] H (.int .i64 x.next) (H.set i (g, x.told.obj)) :=
  CxD.to (rNext_c (b := true) hi hj hlen) rfl (by
    unfold Rsn.told
    by_cases h : 0 ≤ x.next
    · rw [if_pos ⟨rfl, h⟩, if_pos h]
    · rw [if_neg (fun hh => h hh.2), if_neg h, set_self hi])
/-- What is had of a map that was told. -/
def wOf (n : Int) (b : Nat) : List Bool := if 0 ≤ n ∧ n ≤ 64 then bitsL b n.toNat else []
def rtOf (n : Int) (b : Nat) : Bool := if 0 ≤ n ∧ n ≤ 64 then decide (b / 2 ^ n.toNat = 0) else false
theorem rOf2_c {W0 : World} {H : Hp} {n : Int} {b : Nat} (hb : b < 18446744073709551616) : CxX Try.prog W0 16 #[.int .i64 n, .int .u64 (b : Int)] H (fun v H' => ∃ a c ds, v = .tuple #[.slice a (wOf n b).length c, .bool (rtOf n b)] ∧ H' = ds ++ H ∧ ∀ W R, Sl W (ds ++ R) a (bv (wOf n b))) :=
  CxX.to (rOf_c hb) (fun v H' h => by
    unfold wOf rtOf
    split at h
    · rename_i hn
      obtain ⟨sl, ds, rfl, rfl, hown⟩ := h
      obtain ⟨a, c, rfl, _, _, hs⟩ := hown.val
      rw [if_pos hn, if_pos hn]
      exact ⟨a, c, ds, by rw [bitsL_length], rfl, hs⟩
    · rename_i hn
      rw [if_neg hn, if_neg hn]
      obtain ⟨rfl, rfl⟩ := h
      exact ⟨none, 0, [], rfl, rfl, fun W R => Sl.nil _⟩)
theorem wOf_le (n : Int) (b : Nat) : (wOf n b).length ≤ 64 := by
  unfold wOf
  split
  · rw [bitsL_length]; omega
  · simp
theorem rt_iff {n k : Int} {b : Nat} (hk : 0 ≤ k) (hk2 : k ≤ 64) : (rtOf n b = true ∧ ((wOf n b).length : Int) = k) ↔ (mRight n (b : Int) = true ∧ n = k) := by
  unfold rtOf wOf
  by_cases h : 0 ≤ n ∧ n ≤ 64
  · rw [if_pos h, if_pos h, right_nat h.1 h.2, bitsL_length]
    constructor
    · rintro ⟨h1, h2⟩; exact ⟨h1, by omega⟩
    · rintro ⟨h1, h2⟩; exact ⟨h1, by omega⟩
  · rw [if_neg h, if_neg h]
    constructor
    · rintro ⟨h1, _⟩; cases h1
    · rintro ⟨h1, _⟩; exact absurd ⟨(mRight_spec h1).1, (mRight_spec h1).2.1⟩ h
def Snd.told (x : Snd) : Snd := if x.next < 0 then x else { x with pos := x.next + 1 }
theorem Rel.told {x : Snd} {y : Rsn} (h : Rel x y) : Rel x.told y.told := by
  unfold Snd.told Rsn.told
  rw [h.next]
  by_cases hn : y.next < 0
  · rw [if_pos hn, if_neg (by omega)]; exact h
  · rw [if_neg hn, if_pos (by omega)]; exact h.at _
/-- Next, in the words of the other sender. -/
theorem Next2_c {W0 : World} {H : Hp} {g i : Nat} {x : Snd} {y : Rsn} (hi : H[i]? = some (g, x.obj)) (h : Rel x y) {bd : List Int} (hbl : bd.length = x.bl) (hsz : x.size = x.bl) (hbc : x.bl ≤ x.bc) (hbc2 : x.bc ≤ 9223372036854775807) (hbody : ∀ o, Sl W0 (H.set i (g, o)) x.ba (iv .u8 bd)) :
    CxX Try.prog W0 17 #[.pointer (some ⟨g, 0, none⟩)] H (fun v H' => ∃ ds pa pn pc, v = .tuple #[.int .i64 (if y.next < 0 then 0 else y.next), .slice pa pn pc, .bool (decide (0 ≤ y.next))] ∧ H' = ds ++ H.set i (g, x.told.obj) ∧ (0 ≤ y.next → pn = (lengthAt y.cn y.next).toNat ∧ ∀ W R, Sl W (ds ++ R) pa (iv .u8 ((bd.drop (y.next * 64).toNat).take (lengthAt y.cn y.next).toNat)))) :=
  CxX.to (Next_c hi h.lo h.hi h.right hbl hsz (by rw [h.n]) hbc hbc2 hbody) (fun v H' hR => by
    unfold Snd.told
    rw [h.next] at hR ⊢
    rw [← h.size]
    by_cases hn : y.next < 0
    · rw [if_pos hn] at hR
      obtain ⟨rfl, rfl⟩ := hR
      refine ⟨[], none, 0, 0, ?_, ?_, fun hh => by omega⟩
      · rw [if_pos hn, show decide (0 ≤ y.next) = false from decide_eq_false (by omega)]
      · rw [if_pos hn, set_self hi]; rfl
    · rw [if_neg hn] at hR
      obtain ⟨ds, pa, pc, rfl, rfl, hown⟩ := hR
      refine ⟨ds, pa, _, pc, ?_, ?_, fun _ => ⟨rfl, ?_⟩⟩
      · rw [if_neg hn, show decide (0 ≤ y.next) = true from decide_eq_true (by omega)]
      · rw [if_neg hn]
      · obtain ⟨a', c', he, _, _, hs⟩ := hown.val
        cases he
        exact hs)
/-- Know, Anew, Cancel with a state behind each. -/
theorem Know2_c {W0 : World} {H : Hp} {g i : Nat} {x : Snd} {n b : Int} (hi : H[i]? = some (g, x.obj)) (h1 : 0 ≤ x.bits) (h2 : x.bits < 18446744073709551616) (hb : 0 ≤ b) (hb2 : b < 18446744073709551616) (hr : mRight x.n x.bits = true) :
    CxD Try.prog W0 18 #[.pointer (some ⟨g, 0, none⟩), mv n b] H (.int .i64 (x.ask n b)) (H.set i (g, (x.know n b).obj)) :=
  CxD.to (Know_c hi h1 h2 hb hb2 hr) rfl (by
    unfold Snd.know
    split
    · rfl
    · rw [set_self hi])
def Snd.anew (x : Snd) (n b : Int) : Snd := if x.ask n b = 0 then { x with n := n, bits := b, pos := 0 } else x
theorem Anew2_c {W0 : World} {H : Hp} {g i : Nat} {x : Snd} {n b : Int} (hi : H[i]? = some (g, x.obj)) (hb : 0 ≤ b) (hb2 : b < 18446744073709551616) :
    CxD Try.prog W0 20 #[.pointer (some ⟨g, 0, none⟩), mv n b] H (.int .i64 (x.ask n b)) (H.set i (g, (x.anew n b).obj)) :=
  CxD.to (Anew_c hi hb hb2) rfl (by
    unfold Snd.anew
    split
    · rfl
    · rw [set_self hi])
theorem Cancel2_c {W0 : World} {H : Hp} {g i : Nat} {x : Snd} (hi : H[i]? = some (g, x.obj)) (h1 : 0 ≤ x.bits) (h2 : x.bits < 18446744073709551616) (hm : x.made = true) :
    CxD Try.prog W0 21 #[.pointer (some ⟨g, 0, none⟩)] H (.int .i64 (if x.state = 0 then 0 else 7)) (H.set i (g, x.cancel.obj)) :=
  CxD.to (Cancel_c hi h1 h2) (by rw [if_pos hm]) (by
    unfold Snd.cancel
    split
    · rfl
    · rw [set_self hi])
def Rsn.know (x : Rsn) (w : List Bool) (rt an : Bool) : Rsn := if rt = true ∧ w.length = x.has.length ∧ x.gone = false then x.after w an else x
def Rsn.cancel (x : Rsn) : Rsn := if x.state = 0 then { x with gone := true } else x
theorem rKnow2_c {W0 : World} {H : Hp} {g i j : Nat} {x : Rsn} (hi : H[i]? = some (g, x.obj)) (hj : H[j]? = some (x.hb, x.hob)) (hij : j ≠ i) (hlen : x.has.length ≤ 64) {a : Option Addr} {c : Nat} {w : List Bool} {rt an : Bool} (hwl : w.length ≤ 64) (hw : ∀ o, Sl W0 (H.set j (x.hb, o)) a (bv w)) :
    CxD Try.prog W0 19 #[.pointer (some ⟨g, 0, none⟩), .slice a w.length c, .bool rt, .bool an] H (.int .i64 (if rt = true ∧ w.length = x.has.length then (if x.gone then 41 else 0) else 1)) ((H.set j (x.hb, (x.know w rt an).hob)).set i (g, (x.know w rt an).obj)) :=
  CxD.to (rKnow_c hi hj hij hlen hwl hw) rfl (by
    unfold Rsn.know
    split
    · rfl
    · rw [set_self hj, set_self hi])
theorem rCancel2_c {W0 : World} {H : Hp} {g i j : Nat} {x : Rsn} (hi : H[i]? = some (g, x.obj)) (hj : H[j]? = some (x.hb, x.hob)) (hlen : x.has.length ≤ 64) : CxD Try.prog W0 22 #[.pointer (some ⟨g, 0, none⟩)] H (.int .i64 (if x.state = 0 then 0 else 7)) (H.set i (g, x.cancel.obj)) :=
  CxD.to (rCancel_c hi hj hlen) rfl (by
    unfold Rsn.cancel
    split
    · rfl
    · rw [set_self hi])
theorem Rel.ask {x : Snd} {y : Rsn} (h : Rel x y) (n : Int) (b : Nat) : x.ask n (b : Int) = if rtOf n b = true ∧ (wOf n b).length = y.has.length then (if y.gone then 41 else 0) else 1 := by
  rw [ask_ok h.made, h.gone]
  have hl := h.len
  have h64 := h.len64
  have := rt_iff (n := n) (k := x.n) (b := b) (by omega) (by omega)
  by_cases hc : mRight n (b : Int) = true ∧ n = x.n
  · have h2 := this.2 hc
    have h3 : rtOf n b = true ∧ (wOf n b).length = y.has.length := ⟨h2.1, by omega⟩
    rw [if_pos hc, if_pos h3]
  · rw [if_neg hc, if_neg (fun hh => hc (this.1 ⟨hh.1, by omega⟩))]
theorem Rel.ask0 {x : Snd} {y : Rsn} (h : Rel x y) (n : Int) (b : Nat) : x.ask n (b : Int) = 0 ↔ (rtOf n b = true ∧ (wOf n b).length = y.has.length ∧ y.gone = false) := by
  rw [h.ask]
  by_cases hc : rtOf n b = true ∧ (wOf n b).length = y.has.length
  · rw [if_pos hc]
    cases y.gone <;> simp [hc]
  · rw [if_neg hc]
    constructor
    · intro h; omega
    · rintro ⟨h1, h2, _⟩; exact absurd ⟨h1, h2⟩ hc
theorem wOf_eq {n : Int} {b : Nat} (h : mRight n (b : Int) = true) : wOf n b = bitsL b n.toNat := by
  unfold wOf; rw [if_pos ⟨(mRight_spec h).1, (mRight_spec h).2.1⟩]
theorem Rel.knew {x : Snd} {y : Rsn} (h : Rel x y) (n : Int) {b : Nat} (hb : b < 18446744073709551616) : Rel (x.know n (b : Int)) (y.know (wOf n b) (rtOf n b) false) := by
  unfold Snd.know Rsn.know
  by_cases hz : x.ask n (b : Int) = 0
  · rw [if_pos hz, if_pos ((h.ask0 n b).1 hz)]
    obtain ⟨h1, h2, _, _⟩ := ask_zero hz
    rw [wOf_eq h1, h2, h.nat]
    rw [h2] at h1
    exact h.know hb h1
  · rw [if_neg hz, if_neg (fun hh => hz ((h.ask0 n b).2 hh))]; exact h
theorem Rel.anewed {x : Snd} {y : Rsn} (h : Rel x y) (n : Int) {b : Nat} (hb : b < 18446744073709551616) : Rel (x.anew n (b : Int)) (y.know (wOf n b) (rtOf n b) true) := by
  unfold Snd.anew Rsn.know
  by_cases hz : x.ask n (b : Int) = 0
  · rw [if_pos hz, if_pos ((h.ask0 n b).1 hz)]
    obtain ⟨h1, h2, _, _⟩ := ask_zero hz
    rw [wOf_eq h1, h2, h.nat]
    rw [h2] at h1
    exact h.anew hb h1
  · rw [if_neg hz, if_neg (fun hh => hz ((h.ask0 n b).2 hh))]; exact h
theorem Rel.cancelled {x : Snd} {y : Rsn} (h : Rel x y) : Rel x.cancel y.cancel := by
  unfold Snd.cancel Rsn.cancel
  rw [h.state]
  by_cases hz : y.state = 0
  · rw [if_pos ⟨h.made, hz⟩, if_pos hz]; exact h.cancel
  · rw [if_neg (fun hh => hz hh.2), if_neg hz]; exact h
/-- What does not turn. -/
structure Keeps (x x' : Snd) (y y' : Rsn) : Prop where
  id : x'.id = x.id
  name : x'.name = x.name
  size : x'.size = x.size
  sum : x'.sum = x.sum
  ba : x'.ba = x.ba
  bl : x'.bl = x.bl
  bc : x'.bc = x.bc
  ca : y'.ca = y.ca
  cn : y'.cn = y.cn
  cc : y'.cc = y.cc
  hb : y'.hb = y.hb
theorem Keeps.told (x : Snd) (y : Rsn) : Keeps x x.told y y.told := by
  unfold Snd.told Rsn.told
  constructor <;> split <;> rfl
theorem Keeps.know (x : Snd) (y : Rsn) (n b : Int) (w : List Bool) (rt an : Bool) : Keeps x (x.know n b) y (y.know w rt an) := by
  unfold Snd.know Rsn.know
  constructor <;> split <;> rfl
theorem Keeps.anew (x : Snd) (y : Rsn) (n b : Int) (w : List Bool) (rt an : Bool) : Keeps x (x.anew n b) y (y.know w rt an) := by
  unfold Snd.anew Rsn.know
  constructor <;> split <;> rfl
theorem Keeps.cancel (x : Snd) (y : Rsn) : Keeps x x.cancel y y.cancel := by
  unfold Snd.cancel Rsn.cancel
  constructor <;> split <;> rfl
theorem Keeps.refl (x : Snd) (y : Rsn) : Keeps x x y y := ⟨rfl, rfl, rfl, rfl, rfl, rfl, rfl, rfl, rfl, rfl, rfl⟩
theorem Keeps.trans {x x' x2 : Snd} {y y' y2 : Rsn} (h : Keeps x x' y y') (k : Keeps x' x2 y' y2) : Keeps x x2 y y2 :=
  ⟨k.id.trans h.id, k.name.trans h.name, k.size.trans h.size, k.sum.trans h.sum, k.ba.trans h.ba, k.bl.trans h.bl, k.bc.trans h.bc, k.ca.trans h.ca, k.cn.trans h.cn, k.cc.trans h.cc, k.hb.trans h.hb⟩

end Go.Proofs.Ytmeimjpjelmchaa
