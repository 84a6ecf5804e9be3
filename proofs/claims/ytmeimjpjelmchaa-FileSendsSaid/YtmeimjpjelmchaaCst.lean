/- Cst: walks of functions of the program, each over the rules of Sx. No conditions but those in the theorems' heads. -/
import Derived.Test.YtmeimjpjelmchaaRel
import Derived.Test.YtmeimjpjelmchaaProg
set_option linter.unusedVariables false
set_option linter.unusedSimpArgs false
namespace Go.Proofs.Ytmeimjpjelmchaa
open Go.RowKit Go.Sx
namespace Cst
theorem bld_85 : bldS Try.prog 85 = some ([(0, 1), (1, 1), (2, 1), (3, 1)], [.slice none 0 0, .slice none 0 0, .int .i64 0, .bool false]) := by kernel_rfl
theorem el_60 : elI Try.prog 60 = some (none, 3, false, 1) := by kernel_rfl
theorem fld_85_0 : fldI Try.prog 85 0 = some (0, false, 1) := by kernel_rfl
theorem fld_85_1 : fldI Try.prog 85 1 = some (1, false, 1) := by kernel_rfl
theorem fld_85_2 : fldI Try.prog 85 2 = some (2, false, 1) := by kernel_rfl
theorem fld_85_3 : fldI Try.prog 85 3 = some (3, false, 1) := by kernel_rfl
theorem k_13 : Cal Try.prog 13 := ⟨_, _, Try.func13, by kernel_rfl, rfl⟩
theorem k_14 : Cal Try.prog 14 := ⟨_, _, Try.func14, by kernel_rfl, rfl⟩
theorem k_24 : Cal Try.prog 24 := ⟨_, _, Try.func24, by kernel_rfl, rfl⟩
theorem k_29 : Cal Try.prog 29 := ⟨_, _, Try.func29, by kernel_rfl, rfl⟩
theorem ty_23 : tyI Try.prog 23 = some (false, 1) := by kernel_rfl
theorem ty_3 : tyI Try.prog 3 = some (false, 1) := by kernel_rfl
theorem ty_4 : tyI Try.prog 4 = some (false, 1) := by kernel_rfl
theorem ty_46 : tyI Try.prog 46 = some (false, 1) := by kernel_rfl
end Cst
open Cst

/-- What Costs tells. -/
def costM (x : Snd) (q : Int) : List Int := if x.next < 0 then [] else (costL x).take (max 0 (min q ((costL x).length : Int))).toNat
theorem CostsM_c {W0 : World} {H : Hp} {g i : Nat} {x : Snd} {q : Int} (hi : H[i]? = some (g, x.obj)) (hb : 0 ≤ x.bits) (hb2 : x.bits < 18446744073709551616) (hr : mRight x.n x.bits = true) :
    CxX Try.prog W0 29 #[.pointer (some ⟨g, 0, none⟩), .int .i64 q] H (fun v H' => ∃ ds, H' = ds ++ H ∧ OwnS 3 1 v (costM x q).length (iv .i64 (costM x q)) ds) := by
  unfold costM
  by_cases h : x.next < 0
  · rw [if_pos h]
    intro w hS
    refine (CostsG_c (k := q) hi hb hb2 hr h w hS).mono ?_
    rintro e w' ⟨v, H', he, ⟨rfl, rfl⟩, hS'⟩
    exact ⟨_, H', he, ⟨[], rfl, OwnS.nil _ _⟩, hS'⟩
  · rw [if_neg h]
    intro w hS
    refine (Costs_c (q := q) hi hb hb2 hr (by omega) w hS).mono ?_
    rintro e w' ⟨v, H', he, ⟨ds, rfl, hown⟩, hS'⟩
    refine ⟨v, _, he, ⟨ds, rfl, ?_⟩, hS'⟩
    rw [List.length_take]
    rwa [show min (max 0 (min q ((costL x).length : Int))).toNat (costL x).length = (max 0 (min q ((costL x).length : Int))).toNat by omega]
/-- The number of lengths that Costs tells. -/
theorem Rel.costs_len {x : Snd} {y : Rsn} (h : Rel x y) {q : Int} (hq : 0 ≤ q) : ((costM x q).length : Int) = min y.left q := by
  have hl := h.left
  unfold costM
  by_cases hn : x.next < 0
  · rw [if_pos hn]
    have hs : x.state ≠ 0 := fun hs => by
      have hne := miss_ne h.right h.lo h.made hs
      unfold Snd.next at hn
      rw [if_pos ⟨h.made, hs⟩] at hn
      obtain ⟨a, _, ha⟩ := nextOf_mem hne x.pos
      omega
    have : x.left = 0 := by
      have h2 := h.state
      rw [hl]
      unfold Rsn.state at h2
      by_cases hg : y.gone = true
      · simp [Rsn.left, hg]
      · rw [if_neg hg] at h2
        by_cases h0 : y.left = 0
        · exact h0
        · rw [if_neg h0] at h2; exact absurd h2 hs
    rw [← hl, this]
    simp; omega
  · rw [if_neg hn]
    have hc : (costL x).length = (missL x.n x.bits).length := by rw [cost_rot, List.length_map, rot_length]
    have hst : x.gone = false := by
      cases hg : x.gone with
      | false => rfl
      | true =>
        exfalso
        apply hn
        unfold Snd.next
        rw [if_neg (by rintro ⟨_, h2⟩; unfold Snd.state at h2; rw [h.made, hg] at h2; simp at h2)]
        decide
    have hl2 : y.left = ((costL x).length : Int) := by
      rw [← hl, hc]
      unfold Snd.left
      rw [hst, h.right]
      have := missL_len h.right h.lo
      simp; omega
    rw [List.length_take]
    omega
/-- The place of the other sender behind k chunks that were told. -/
def posAt (x : Snd) (k : Nat) : Int := match k with
  | 0 => x.pos
  | k + 1 => (((rot (missL x.n x.bits) x.next).getD k 0 : Nat) : Int) + 1
theorem Rel.step {x : Snd} {y : Rsn} (h : Rel x y) {q : Int} {k : Nat} (hk : k < (costM x q).length) :
    ({ y with pos := posAt x k } : Rsn).next = (((rot (missL x.n x.bits) x.next).getD k 0 : Nat) : Int) ∧ 0 ≤ ({ y with pos := posAt x k } : Rsn).next ∧ ({ y with pos := posAt x k } : Rsn).next < chunks y.cn ∧
    (costM x q).getD k 0 = lengthAt y.cn ({ y with pos := posAt x k } : Rsn).next := by
  have hn : ¬ x.next < 0 := fun hn => by unfold costM at hk; rw [if_pos hn] at hk; simp at hk
  have hs : x.state = 0 := by
    by_cases hs : x.state = 0
    · exact hs
    · exfalso; apply hn; unfold Snd.next; rw [if_neg (fun hh => hs hh.2)]; decide
  have hne := miss_ne h.right h.lo h.made hs
  have hpos : 0 < (missL x.n x.bits).length := List.length_pos_iff.2 hne
  have hsort := missL_sorted x.n x.bits
  have hc : (costL x).length = (missL x.n x.bits).length := by rw [cost_rot, List.length_map, rot_length]
  have hkl : k < (missL x.n x.bits).length := by
    unfold costM at hk
    rw [if_neg hn, List.length_take] at hk
    omega
  have hx : x.next = nextOf (missL x.n x.bits) x.pos := by unfold Snd.next; rw [if_pos ⟨h.made, hs⟩]
  have hr := h.at (posAt x k)
  have e1 : ({ y with pos := posAt x k } : Rsn).next = (((rot (missL x.n x.bits) x.next).getD k 0 : Nat) : Int) := by
    rw [← hr.next]
    have hx2 : ({ x with pos := posAt x k } : Snd).next = nextOf (missL x.n x.bits) (posAt x k) := by unfold Snd.next; rw [if_pos ⟨h.made, hs⟩]
    rw [hx2]
    clear hx2
    cases k with
    | zero => show nextOf _ x.pos = _; rw [← hx]; rw [hx, rot_first hsort hne]
    | succ k => exact rot_step hsort _ hkl
  have hm : (rot (missL x.n x.bits) x.next).getD k 0 ∈ missL x.n x.bits := by
    have hk2 : k < (rot (missL x.n x.bits) x.next).length := by rw [rot_length]; exact hkl
    have : (rot (missL x.n x.bits) x.next).getD k 0 ∈ rot (missL x.n x.bits) x.next := by
      rw [List.getD_eq_getElem?_getD, List.getElem?_eq_getElem hk2]; exact List.getElem_mem hk2
    generalize (rot (missL x.n x.bits) x.next).getD k 0 = z at *
    unfold rot at this
    rcases List.mem_append.1 this with h1 | h1 <;> exact (List.mem_filter.1 h1).1
  have hlt := missL_lt hm
  have hn2 := h.n
  have hsz := h.size
  refine ⟨e1, by rw [e1]; omega, by rw [e1, ← hsz, ← hn2]; omega, ?_⟩
  rw [e1, ← hsz]
  unfold costM at hk ⊢
  rw [if_neg hn] at hk ⊢
  have hk3 : k < (costL x).length := by omega
  rw [List.length_take] at hk
  simp only [List.getD_eq_getElem?_getD, List.getElem?_take]
  rw [if_pos (by omega)]
  rw [cost_rot]
  simp [List.getElem?_map, show k < (rot (missL x.n x.bits) x.next).length by rw [rot_length]; exact hkl]

theorem rNextT_c {W0 : World} {H : Hp} {g i j : Nat} {x : Rsn} (hi : H[i]? = some (g, x.obj)) (hj : H[j]? = some (x.hb, x.hob)) (hlen : x.has.length ≤ 64) (h0 : 0 ≤ x.next) :
    CxD Try.prog W0 13 #[.pointer (some ⟨g, 0, none⟩), .bool true] H (.int .i64 x.next) (H.set i (g, { x with pos := x.next + 1 }.obj)) := by
  have e := rNext_c (W0 := W0) (b := true) hi hj hlen
  rw [if_pos ⟨rfl, h0⟩] at e
  exact e
theorem atApp {α : Type} {p : α} {l : List α} {i : Nat} (h : l[i]? = some p) (ds : List α) : (ds ++ l)[ds.length + i]? = some p := by
  rw [List.getElem?_append_right (by omega)]; simpa using h

set_option maxRecDepth 100000 in
theorem costs_law {W0 : World} {H : Hp} {g i g2 i2 j2 : Nat} {x : Snd} {y : Rsn} (hrel : Rel x y) (hi : H[i]? = some (g, x.obj)) (hi2 : H[i2]? = some (g2, y.obj)) (hj2 : H[j2]? = some (y.hb, y.hob)) (hcc : y.cn ≤ y.cc) (hcc2 : y.cc ≤ 9223372036854775807) {q : Int} (hq : 0 ≤ q) (hq2 : q < 9223372036854775807) :
    CxD Try.prog W0 15 #[.pointer (some ⟨g, 0, none⟩), .pointer (some ⟨g2, 0, none⟩), .int .i64 q] H (.bool true) H := by
  have hcl := hrel.costs_len hq
  have h64 := hrel.len64
  have hmb := missB_le y.has y.has.length
  have hlb : 0 ≤ y.left ∧ y.left ≤ 64 := by unfold Rsn.left; split <;> omega
  refine enter Try.func15 rfl Try.ntmps15 rfl ?_
  refine WC.seq ?_
  refine WC.region ?_
  refine WL.p (.none rfl) rfl (OpP.assign rfl) ?_
  refine WL.nil ?_
  refine EQ.sub ((Sub.cons (i := 0) rfl (Sub.cons (i := 1) rfl (Sub.cons (i := 2) rfl (Sub.cons (i := 6) rfl (Sub.nil _)))))) ?_
  refine EQ.code ?_
  refine WC.seq ?_
  refine WC.region ?_
  refine WL.p (.none rfl) rfl (OpP.move rfl) ?_
  refine WL.p (.none rfl) rfl (OpP.move rfl) ?_
  refine WL.call rfl (.none rfl) rfl k_29 rfl (CostsM_c (q := q) hi hrel.lo hrel.hi hrel.right) ?_
  rintro _ _ ⟨ds, rfl, hown⟩
  obtain ⟨a, c, rfl, hlc, hlc2, hs⟩ := hown.val
  refine WL.p (.none rfl) rfl (OpP.assign rfl) ?_
  refine WL.nil ?_
  refine EQ.sub ((Sub.cons (i := 1) rfl (Sub.cons (i := 2) rfl (Sub.cons (i := 6) rfl (Sub.cons (i := 7) rfl (Sub.nil _)))))) ?_
  refine EQ.code ?_
  refine WC.seq ?_
  refine WC.drawT 17 (by kernel_rfl) (by kernel_rfl) ?_
  refine WQ.p (.none rfl) rfl (OpP.move rfl) ?_
  refine WQ.p (.none rfl) rfl (OpP.nilCheck rfl) ?_
  refine WQ.p (.none rfl) rfl (OpP.fieldAddr rfl fld_85_0) ?_
  refine WQ.p (.none rfl) rfl (OpP.load rfl ty_23 (Rd.own (by repeat (first | assumption | exact List.mem_cons_self | exact List.mem_of_getElem? (by assumption) | exact set_mem (by first | assumption | exact set_hit (by assumption)) | apply List.mem_cons_of_mem | apply List.mem_append_right)) (by rfl))) ?_
  refine WQ.p (.none rfl) rfl (OpP.move rfl) ?_
  refine WQ.p (.none rfl) rfl (OpP.nilCheck rfl) ?_
  refine WQ.p (.none rfl) rfl (OpP.fieldAddr rfl fld_85_1) ?_
  refine WQ.p (.none rfl) rfl (OpP.load rfl ty_46 (Rd.own (by repeat (first | assumption | exact List.mem_cons_self | exact List.mem_of_getElem? (by assumption) | exact set_mem (by first | assumption | exact set_hit (by assumption)) | apply List.mem_cons_of_mem | apply List.mem_append_right)) (by rfl))) ?_
  refine WQ.p (.none rfl) rfl (OpP.move rfl) ?_
  refine WQ.p (.none rfl) rfl (OpP.nilCheck rfl) ?_
  refine WQ.p (.none rfl) rfl (OpP.fieldAddr rfl fld_85_2) ?_
  refine WQ.p (.none rfl) rfl (OpP.load rfl ty_3 (Rd.own (by repeat (first | assumption | exact List.mem_cons_self | exact List.mem_of_getElem? (by assumption) | exact set_mem (by first | assumption | exact set_hit (by assumption)) | apply List.mem_cons_of_mem | apply List.mem_append_right)) (by rfl))) ?_
  refine WQ.p (.none rfl) rfl (OpP.move rfl) ?_
  refine WQ.p (.none rfl) rfl (OpP.nilCheck rfl) ?_
  refine WQ.p (.none rfl) rfl (OpP.fieldAddr rfl fld_85_3) ?_
  refine WQ.p (.none rfl) rfl (OpP.load rfl ty_4 (Rd.own (by repeat (first | assumption | exact List.mem_cons_self | exact List.mem_of_getElem? (by assumption) | exact set_mem (by first | assumption | exact set_hit (by assumption)) | apply List.mem_cons_of_mem | apply List.mem_append_right)) (by rfl))) ?_
  refine WQ.p (.none rfl) rfl (OpP.buildS bld_85 (kI rfl (kI rfl (kI rfl (kI rfl kI0)))) (by rfl)) ?_
  refine WQ.tail ?_
  refine WL.box rfl rfl rfl (fun b32 => ?_)
  refine WL.p (.none rfl) rfl (OpP.assign rfl) ?_
  refine WL.nil ?_
  refine EQ.sub ((Sub.cons (i := 1) rfl (Sub.cons (i := 2) rfl (Sub.cons (i := 6) rfl (Sub.cons (i := 7) rfl (Sub.cons (i := 8) rfl (Sub.nil _))))))) ?_
  refine EQ.code ?_
  refine WC.seq ?_
  refine WC.region ?_
  refine WL.p (.none rfl) rfl (OpP.move rfl) ?_
  refine WL.callD rfl (.none rfl) rfl k_24 rfl (rLeft_c (ats (atApp hi2 ds)) (ats (atApp hj2 ds)) h64) ?_
  refine WL.p (.none rfl) rfl (OpP.assign rfl) ?_
  refine WL.nil ?_
  refine EQ.sub ((Sub.cons (i := 2) rfl (Sub.cons (i := 6) rfl (Sub.cons (i := 7) rfl (Sub.cons (i := 8) rfl (Sub.cons (i := 9) rfl (Sub.nil _))))))) ?_
  refine EQ.code ?_
  refine WC.seq ?_
  refine WC.seq ?_
  refine WC.region ?_
  refine WL.p (.none rfl) rfl (OpP.move rfl) ?_
  refine WL.p (.none rfl) rfl (OpP.move rfl) ?_
  refine WL.p (.none rfl) rfl (OpP.gtr rfl rfl) ?_
  refine WL.nil ?_
  refine EQ.sub ((Sub.cons (i := 2) rfl (Sub.cons (i := 6) rfl (Sub.cons (i := 7) rfl (Sub.cons (i := 8) rfl (Sub.cons (i := 9) rfl (Sub.cons (i := 37) rfl (Sub.nil _)))))))) ?_
  refine EQ.code ?_
  refine WC.cond rfl (fun hc0 => ?_) (fun hc0 => ?_)
  · -- cond 0 t
    (try simp only [decide_eq_true_eq, decide_eq_false_iff_not, Bool.not_eq_true', Bool.not_eq_false', Bool.or_eq_true, Bool.and_eq_true, Bool.or_eq_false_iff, Bool.and_eq_false_imp, Option.isNone_some, Bool.false_eq_true, false_or, true_and] at hc0)
    refine WC.region ?_
    refine WL.p (.none rfl) rfl (OpP.move rfl) ?_
    refine WL.p (.none rfl) rfl (OpP.assign rfl) ?_
    refine WL.nil ?_
    refine EQ.sub ((Sub.cons (i := 6) rfl (Sub.cons (i := 7) rfl (Sub.cons (i := 8) rfl (Sub.cons (i := 9) rfl (Sub.nil _)))))) ?_
    refine EQ.code ?_
    refine WC.seq ?_
    refine WC.seq ?_
    refine WC.region ?_
    refine WL.p (.none rfl) rfl (OpP.move rfl) ?_
    refine WL.p (.none rfl) rfl (OpP.lenSl rfl Try.underlying60) ?_
    refine WL.p (.none rfl) rfl (OpP.move rfl) ?_
    refine WL.p (.none rfl) rfl (OpP.neqI rfl rfl) ?_
    refine WL.nil ?_
    refine EQ.sub ((Sub.cons (i := 6) rfl (Sub.cons (i := 7) rfl (Sub.cons (i := 8) rfl (Sub.cons (i := 9) rfl (Sub.cons (i := 42) rfl (Sub.nil _))))))) ?_
    refine EQ.code ?_
    refine WC.cond rfl (fun hc1 => ?_) (fun hc1 => ?_)
    · -- cond 1 t
      (try simp only [decide_eq_true_eq, decide_eq_false_iff_not, Bool.not_eq_true', Bool.not_eq_false', Bool.or_eq_true, Bool.and_eq_true, Bool.or_eq_false_iff, Bool.and_eq_false_imp, Option.isNone_some, Bool.false_eq_true, false_or, true_and] at hc1)
      exfalso; omega
    · -- cond 1 f
      (try simp only [decide_eq_true_eq, decide_eq_false_iff_not, Bool.not_eq_true', Bool.not_eq_false', Bool.or_eq_true, Bool.and_eq_true, Bool.or_eq_false_iff, Bool.and_eq_false_imp, Option.isNone_some, Bool.false_eq_true, false_or, true_and] at hc1)
      refine WC.skip ?_
      refine EQ.code ?_
      refine WC.seq ?_
      refine WC.seq ?_
      refine WC.region ?_
      refine WL.p (.none rfl) rfl (OpP.assign rfl) ?_
      refine WL.nil ?_
      refine EQ.sub ((Sub.cons (i := 6) rfl (Sub.cons (i := 7) rfl (Sub.cons (i := 8) rfl (Sub.cons (i := 9) rfl (Sub.cons (i := 10) rfl (Sub.nil _))))))) ?_
      refine EQ.code ?_
      refine WC.block ?_
      refine WC.loop (σ := Nat) (fun k => [(7, .slice a (costM x q).length c), (8, .pointer (some ⟨b32, 0, none⟩)), (9, .int .i64 q), (10, .int .i64 (k : Int))]) (fun k => (b32, ({ y with pos := posAt x k } : Rsn).obj) :: (ds ++ H)) (fun k => k ≤ (costM x q).length) (fun k => (costM x q).length - k) 0 (Nat.zero_le _) ((Sub.cons rfl (Sub.cons rfl (Sub.cons rfl (Sub.cons rfl (Sub.nil _)))))) (fun w h => by rw [show posAt x 0 = y.pos from hrel.pos.symm]; exact h) (fun k hinv => ?_)
      have hsl := (hs W0 H).cons (p := (b32, ({ y with pos := posAt x k } : Rsn).obj))
      refine WC.seq ?_
      refine WC.seq ?_
      refine WC.region ?_
      refine WL.p (.none rfl) rfl (OpP.move rfl) ?_
      refine WL.p (.none rfl) rfl (OpP.move rfl) ?_
      refine WL.p (.none rfl) rfl (OpP.lss rfl rfl) ?_
      refine WL.nil ?_
      refine EQ.sub ((Sub.cons (i := 7) rfl (Sub.cons (i := 8) rfl (Sub.cons (i := 9) rfl (Sub.cons (i := 10) rfl (Sub.cons (i := 45) rfl (Sub.nil _))))))) ?_
      refine EQ.code ?_
      refine WC.cond rfl (fun hc2 => ?_) (fun hc2 => ?_)
      · -- cond 2 t
        (try simp only [decide_eq_true_eq, decide_eq_false_iff_not, Bool.not_eq_true', Bool.not_eq_false', Bool.or_eq_true, Bool.and_eq_true, Bool.or_eq_false_iff, Bool.and_eq_false_imp, Option.isNone_some, Bool.false_eq_true, false_or, true_and] at hc2)
        obtain ⟨hk1, hk2, hk3, hk4⟩ := hrel.step (q := q) (k := k) (by omega)
        have hla := lengthAt_bd hk2 hk3
        refine WC.skip ?_
        refine EQ.code ?_
        refine WC.seq ?_
        refine WC.block ?_
        refine WC.seq ?_
        refine WC.region ?_
        refine WL.p (.none rfl) rfl (OpP.move rfl) ?_
        refine WL.callD rfl (.none rfl) rfl k_13 rfl (rNextT_c (x := { y with pos := posAt x k }) (i := 0) rfl (ats (atApp hj2 ds)) h64 hk2) ?_
        refine WL.p (.none rfl) rfl (OpP.assign rfl) ?_
        refine WL.nil ?_
        refine EQ.sub ((Sub.cons (i := 7) rfl (Sub.cons (i := 8) rfl (Sub.cons (i := 9) rfl (Sub.cons (i := 10) rfl (Sub.cons (i := 11) rfl (Sub.nil _))))))) ?_
        refine EQ.code ?_
        refine WC.seq ?_
        refine WC.draw (by kernel_rfl) (by kernel_rfl) ?_
        refine WQ.p (.none rfl) rfl (OpP.move rfl) ?_
        refine WQ.p (.none rfl) rfl (OpP.lss rfl rfl) ?_
        refine WQ.p (.none rfl) rfl (OpP.move rfl) ?_
        refine WQ.g (.bool rfl rfl rfl) rfl (fun hg => OpP.move rfl) ?_
        refine WQ.g (.bool rfl rfl rfl) rfl (fun hg => OpP.move rfl) ?_
        have ha : a ≠ none := by intro h; have := hsl.1 h; simp at this; rw [this] at hcl; simp at hcl; omega
        refine WQ.g (.bool rfl rfl rfl) rfl (fun hg => OpP.indexSl (gk hg rfl) (gk hg rfl) el_60 (by omega) (by omega) ha) ?_
        refine WQ.g (.bool rfl rfl rfl) rfl (fun hg => OpP.load (gk hg rfl) ty_3 ((hs W0 H).cons.get k (by omega))) ?_
        refine WQ.g (.bool rfl rfl rfl) rfl (fun hg => OpP.move rfl) ?_
        refine WQ.g (.bool rfl rfl rfl) rfl (fun hg => OpP.move rfl) ?_
        refine WQ.gcall rfl (.bool rfl rfl rfl) rfl k_14 (fun hg => kops2 (gk hg rfl) (gk hg rfl)) (fun hg => rBytes_c (x := { y with pos := ({ y with pos := posAt x k } : Rsn).next + 1 }) (j := 0) rfl hk2 hk3 hcc hcc2) ?_
        refine WQ.g (.bool rfl rfl rfl) rfl (fun hg => OpP.lenSl (gk hg rfl) Try.underlying23) ?_
        refine WQ.g (.bool rfl rfl rfl) rfl (fun hg => OpP.neqI (gk hg rfl) (gk hg rfl)) ?_
        refine WQ.p (.none rfl) rfl (OpP.por rfl rfl rfl) ?_
        refine WQ.done ?_
        refine EQ.sub ((Sub.cons (i := 7) rfl (Sub.cons (i := 8) rfl (Sub.cons (i := 9) rfl (Sub.cons (i := 10) rfl (Sub.cons (i := 62) rfl (Sub.nil _))))))) ?_
        refine EQ.code ?_
        refine WC.cond rfl (fun hc3 => ?_) (fun hc3 => ?_)
        · -- cond 3 t
          (try simp only [decide_eq_true_eq, decide_eq_false_iff_not, Bool.not_eq_true', Bool.not_eq_false', Bool.or_eq_true, Bool.and_eq_true, Bool.or_eq_false_iff, Bool.and_eq_false_imp, Option.isNone_some, Bool.false_eq_true, false_or, true_and] at hc3)
          exfalso; omega
        · -- cond 3 f
          (try simp only [decide_eq_true_eq, decide_eq_false_iff_not, Bool.not_eq_true', Bool.not_eq_false', Bool.or_eq_true, Bool.and_eq_true, Bool.or_eq_false_iff, Bool.and_eq_false_imp, Option.isNone_some, Bool.false_eq_true, false_or, true_and] at hc3)
          refine WC.skip ?_
          refine EQ.blockN ?_
          refine EQ.code ?_
          refine WC.region ?_
          refine WL.p (.none rfl) rfl (OpP.move rfl) ?_
          first | (refine WL.p (.none rfl) rfl (OpP.add64 rfl rfl (by omega)) ?_) | (refine WL.p (.none rfl) rfl (OpP.add rfl rfl) ?_)
          refine WL.p (.none rfl) rfl (OpP.assign rfl) ?_
          refine WL.nil ?_
          refine EQ.sub ((Sub.cons (i := 7) rfl (Sub.cons (i := 8) rfl (Sub.cons (i := 9) rfl (Sub.cons (i := 10) rfl (Sub.nil _)))))) ?_
          refine EQ.again (k + 1) ?_ ?_ ?_ ?_
          · omega
          · omega
          · exact ((Sub.cons rfl (Sub.cons rfl (Sub.cons rfl (Sub.cons rfl (Sub.nil _))))))
          · intro w h; rw [hk1] at h; exact h
      · -- cond 2 f
        (try simp only [decide_eq_true_eq, decide_eq_false_iff_not, Bool.not_eq_true', Bool.not_eq_false', Bool.or_eq_true, Bool.and_eq_true, Bool.or_eq_false_iff, Bool.and_eq_false_imp, Option.isNone_some, Bool.false_eq_true, false_or, true_and] at hc2)
        refine WC.exit ?_
        refine EQ.thenE ?_
        refine EQ.thenE ?_
        refine EQ.blockHit ?_
        refine EQ.code ?_
        refine WC.seq ?_
        refine WC.region ?_
        refine WL.p (.none rfl) rfl (OpP.assign rfl) ?_
        refine WL.nil ?_
        refine EQ.sub ((Sub.cons (i := 6) rfl (Sub.nil _))) ?_
        refine EQ.code ?_
        refine WC.ret ?_
        refine EQ.finD (H' := H) (res1 rfl (.tmp rfl)) (by intro _ h; exact h.drop.sublist (List.sublist_append_right ds _)) ?_
        exact ⟨rfl, rfl⟩
  · -- cond 0 f
    (try simp only [decide_eq_true_eq, decide_eq_false_iff_not, Bool.not_eq_true', Bool.not_eq_false', Bool.or_eq_true, Bool.and_eq_true, Bool.or_eq_false_iff, Bool.and_eq_false_imp, Option.isNone_some, Bool.false_eq_true, false_or, true_and] at hc0)
    refine WC.skip ?_
    refine EQ.code ?_
    refine WC.seq ?_
    refine WC.seq ?_
    refine WC.region ?_
    refine WL.p (.none rfl) rfl (OpP.move rfl) ?_
    refine WL.p (.none rfl) rfl (OpP.lenSl rfl Try.underlying60) ?_
    refine WL.p (.none rfl) rfl (OpP.move rfl) ?_
    refine WL.p (.none rfl) rfl (OpP.neqI rfl rfl) ?_
    refine WL.nil ?_
    refine EQ.sub ((Sub.cons (i := 6) rfl (Sub.cons (i := 7) rfl (Sub.cons (i := 8) rfl (Sub.cons (i := 9) rfl (Sub.cons (i := 42) rfl (Sub.nil _))))))) ?_
    refine EQ.code ?_
    refine WC.cond rfl (fun hc4 => ?_) (fun hc4 => ?_)
    · -- cond 4 t
      (try simp only [decide_eq_true_eq, decide_eq_false_iff_not, Bool.not_eq_true', Bool.not_eq_false', Bool.or_eq_true, Bool.and_eq_true, Bool.or_eq_false_iff, Bool.and_eq_false_imp, Option.isNone_some, Bool.false_eq_true, false_or, true_and] at hc4)
      exfalso; omega
    · -- cond 4 f
      (try simp only [decide_eq_true_eq, decide_eq_false_iff_not, Bool.not_eq_true', Bool.not_eq_false', Bool.or_eq_true, Bool.and_eq_true, Bool.or_eq_false_iff, Bool.and_eq_false_imp, Option.isNone_some, Bool.false_eq_true, false_or, true_and] at hc4)
      refine WC.skip ?_
      refine EQ.code ?_
      refine WC.seq ?_
      refine WC.seq ?_
      refine WC.region ?_
      refine WL.p (.none rfl) rfl (OpP.assign rfl) ?_
      refine WL.nil ?_
      refine EQ.sub ((Sub.cons (i := 6) rfl (Sub.cons (i := 7) rfl (Sub.cons (i := 8) rfl (Sub.cons (i := 9) rfl (Sub.cons (i := 10) rfl (Sub.nil _))))))) ?_
      refine EQ.code ?_
      refine WC.block ?_
      refine WC.loop (σ := Nat) (fun k => [(7, .slice a (costM x q).length c), (8, .pointer (some ⟨b32, 0, none⟩)), (9, .int .i64 y.left), (10, .int .i64 (k : Int))]) (fun k => (b32, ({ y with pos := posAt x k } : Rsn).obj) :: (ds ++ H)) (fun k => k ≤ (costM x q).length) (fun k => (costM x q).length - k) 0 (Nat.zero_le _) ((Sub.cons rfl (Sub.cons rfl (Sub.cons rfl (Sub.cons rfl (Sub.nil _)))))) (fun w h => by rw [show posAt x 0 = y.pos from hrel.pos.symm]; exact h) (fun k hinv => ?_)
      have hsl := (hs W0 H).cons (p := (b32, ({ y with pos := posAt x k } : Rsn).obj))
      refine WC.seq ?_
      refine WC.seq ?_
      refine WC.region ?_
      refine WL.p (.none rfl) rfl (OpP.move rfl) ?_
      refine WL.p (.none rfl) rfl (OpP.move rfl) ?_
      refine WL.p (.none rfl) rfl (OpP.lss rfl rfl) ?_
      refine WL.nil ?_
      refine EQ.sub ((Sub.cons (i := 7) rfl (Sub.cons (i := 8) rfl (Sub.cons (i := 9) rfl (Sub.cons (i := 10) rfl (Sub.cons (i := 45) rfl (Sub.nil _))))))) ?_
      refine EQ.code ?_
      refine WC.cond rfl (fun hc5 => ?_) (fun hc5 => ?_)
      · -- cond 5 t
        (try simp only [decide_eq_true_eq, decide_eq_false_iff_not, Bool.not_eq_true', Bool.not_eq_false', Bool.or_eq_true, Bool.and_eq_true, Bool.or_eq_false_iff, Bool.and_eq_false_imp, Option.isNone_some, Bool.false_eq_true, false_or, true_and] at hc5)
        obtain ⟨hk1, hk2, hk3, hk4⟩ := hrel.step (q := q) (k := k) (by omega)
        have hla := lengthAt_bd hk2 hk3
        refine WC.skip ?_
        refine EQ.code ?_
        refine WC.seq ?_
        refine WC.block ?_
        refine WC.seq ?_
        refine WC.region ?_
        refine WL.p (.none rfl) rfl (OpP.move rfl) ?_
        refine WL.callD rfl (.none rfl) rfl k_13 rfl (rNextT_c (x := { y with pos := posAt x k }) (i := 0) rfl (ats (atApp hj2 ds)) h64 hk2) ?_
        refine WL.p (.none rfl) rfl (OpP.assign rfl) ?_
        refine WL.nil ?_
        refine EQ.sub ((Sub.cons (i := 7) rfl (Sub.cons (i := 8) rfl (Sub.cons (i := 9) rfl (Sub.cons (i := 10) rfl (Sub.cons (i := 11) rfl (Sub.nil _))))))) ?_
        refine EQ.code ?_
        refine WC.seq ?_
        refine WC.draw (by kernel_rfl) (by kernel_rfl) ?_
        refine WQ.p (.none rfl) rfl (OpP.move rfl) ?_
        refine WQ.p (.none rfl) rfl (OpP.lss rfl rfl) ?_
        refine WQ.p (.none rfl) rfl (OpP.move rfl) ?_
        refine WQ.g (.bool rfl rfl rfl) rfl (fun hg => OpP.move rfl) ?_
        refine WQ.g (.bool rfl rfl rfl) rfl (fun hg => OpP.move rfl) ?_
        have ha : a ≠ none := by intro h; have := hsl.1 h; simp at this; rw [this] at hcl; simp at hcl; omega
        refine WQ.g (.bool rfl rfl rfl) rfl (fun hg => OpP.indexSl (gk hg rfl) (gk hg rfl) el_60 (by omega) (by omega) ha) ?_
        refine WQ.g (.bool rfl rfl rfl) rfl (fun hg => OpP.load (gk hg rfl) ty_3 ((hs W0 H).cons.get k (by omega))) ?_
        refine WQ.g (.bool rfl rfl rfl) rfl (fun hg => OpP.move rfl) ?_
        refine WQ.g (.bool rfl rfl rfl) rfl (fun hg => OpP.move rfl) ?_
        refine WQ.gcall rfl (.bool rfl rfl rfl) rfl k_14 (fun hg => kops2 (gk hg rfl) (gk hg rfl)) (fun hg => rBytes_c (x := { y with pos := ({ y with pos := posAt x k } : Rsn).next + 1 }) (j := 0) rfl hk2 hk3 hcc hcc2) ?_
        refine WQ.g (.bool rfl rfl rfl) rfl (fun hg => OpP.lenSl (gk hg rfl) Try.underlying23) ?_
        refine WQ.g (.bool rfl rfl rfl) rfl (fun hg => OpP.neqI (gk hg rfl) (gk hg rfl)) ?_
        refine WQ.p (.none rfl) rfl (OpP.por rfl rfl rfl) ?_
        refine WQ.done ?_
        refine EQ.sub ((Sub.cons (i := 7) rfl (Sub.cons (i := 8) rfl (Sub.cons (i := 9) rfl (Sub.cons (i := 10) rfl (Sub.cons (i := 62) rfl (Sub.nil _))))))) ?_
        refine EQ.code ?_
        refine WC.cond rfl (fun hc6 => ?_) (fun hc6 => ?_)
        · -- cond 6 t
          (try simp only [decide_eq_true_eq, decide_eq_false_iff_not, Bool.not_eq_true', Bool.not_eq_false', Bool.or_eq_true, Bool.and_eq_true, Bool.or_eq_false_iff, Bool.and_eq_false_imp, Option.isNone_some, Bool.false_eq_true, false_or, true_and] at hc6)
          exfalso; omega
        · -- cond 6 f
          (try simp only [decide_eq_true_eq, decide_eq_false_iff_not, Bool.not_eq_true', Bool.not_eq_false', Bool.or_eq_true, Bool.and_eq_true, Bool.or_eq_false_iff, Bool.and_eq_false_imp, Option.isNone_some, Bool.false_eq_true, false_or, true_and] at hc6)
          refine WC.skip ?_
          refine EQ.blockN ?_
          refine EQ.code ?_
          refine WC.region ?_
          refine WL.p (.none rfl) rfl (OpP.move rfl) ?_
          first | (refine WL.p (.none rfl) rfl (OpP.add64 rfl rfl (by omega)) ?_) | (refine WL.p (.none rfl) rfl (OpP.add rfl rfl) ?_)
          refine WL.p (.none rfl) rfl (OpP.assign rfl) ?_
          refine WL.nil ?_
          refine EQ.sub ((Sub.cons (i := 7) rfl (Sub.cons (i := 8) rfl (Sub.cons (i := 9) rfl (Sub.cons (i := 10) rfl (Sub.nil _)))))) ?_
          refine EQ.again (k + 1) ?_ ?_ ?_ ?_
          · omega
          · omega
          · exact ((Sub.cons rfl (Sub.cons rfl (Sub.cons rfl (Sub.cons rfl (Sub.nil _))))))
          · intro w h; rw [hk1] at h; exact h
      · -- cond 5 f
        (try simp only [decide_eq_true_eq, decide_eq_false_iff_not, Bool.not_eq_true', Bool.not_eq_false', Bool.or_eq_true, Bool.and_eq_true, Bool.or_eq_false_iff, Bool.and_eq_false_imp, Option.isNone_some, Bool.false_eq_true, false_or, true_and] at hc5)
        refine WC.exit ?_
        refine EQ.thenE ?_
        refine EQ.thenE ?_
        refine EQ.blockHit ?_
        refine EQ.code ?_
        refine WC.seq ?_
        refine WC.region ?_
        refine WL.p (.none rfl) rfl (OpP.assign rfl) ?_
        refine WL.nil ?_
        refine EQ.sub ((Sub.cons (i := 6) rfl (Sub.nil _))) ?_
        refine EQ.code ?_
        refine WC.ret ?_
        refine EQ.finD (H' := H) (res1 rfl (.tmp rfl)) (by intro _ h; exact h.drop.sublist (List.sublist_append_right ds _)) ?_
        exact ⟨rfl, rfl⟩

end Go.Proofs.Ytmeimjpjelmchaa
