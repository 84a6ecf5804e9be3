/- Rkn: walks of functions of the program, each over the rules of Sx. No conditions but those in the theorems' heads. -/
import Derived.Test.YtmeimjpjelmchaaRnx
import Derived.Test.YtmeimjpjelmchaaProg
set_option linter.unusedVariables false
set_option linter.unusedSimpArgs false
namespace Go.Proofs.Ytmeimjpjelmchaa
open Go.RowKit Go.Sx
namespace Rkn
theorem el_46 : elI Try.prog 46 = some (none, 4, false, 1) := by kernel_rfl
theorem fld_85_1 : fldI Try.prog 85 1 = some (1, false, 1) := by kernel_rfl
theorem fld_85_2 : fldI Try.prog 85 2 = some (2, false, 1) := by kernel_rfl
theorem fld_85_3 : fldI Try.prog 85 3 = some (3, false, 1) := by kernel_rfl
theorem ty_3 : tyI Try.prog 3 = some (false, 1) := by kernel_rfl
theorem ty_4 : tyI Try.prog 4 = some (false, 1) := by kernel_rfl
theorem ty_46 : tyI Try.prog 46 = some (false, 1) := by kernel_rfl
end Rkn
open Rkn

/-- What is had behind k rounds of taking in. -/
def takeB (h w : List Bool) (anew : Bool) (k : Nat) : List Bool := (List.range k).map (fun (i : Nat) => w.getD i false || (h.getD i false && !anew)) ++ h.drop k
theorem takeB_length (h w : List Bool) (anew : Bool) (k : Nat) (hk : k ≤ h.length) : (takeB h w anew k).length = h.length := by simp [takeB]; omega
theorem takeB_get (h w : List Bool) (anew : Bool) (k : Nat) (hk : k < h.length) : (takeB h w anew k).getD k false = h.getD k false := by
  simp [takeB, List.getD_eq_getElem?_getD, List.getElem?_append_right]
theorem takeB_succ (h w : List Bool) (anew : Bool) (k : Nat) (hk : k < h.length) : (takeB h w anew k).set k (w.getD k false || (h.getD k false && !anew)) = takeB h w anew (k + 1) := by
  simp only [takeB, List.range_succ, List.map_append, List.append_assoc]
  rw [List.set_append_right _ _ (by simp)]
  congr 1
  simp only [List.length_map, List.length_range, Nat.sub_self, List.map_cons, List.map_nil]
  have e : ∀ v : Bool, (h.drop k).set 0 v = v :: h.drop (k + 1) := fun v => by
    rw [List.drop_eq_getElem_cons hk]; rfl
  rw [e]; rfl
theorem takeB_zero (h w : List Bool) (anew : Bool) : takeB h w anew 0 = h := by simp [takeB]
theorem spl_bv (l : List Bool) (o : Nat) (v : Bool) : spl (bv l) o [.bool v] = bv (l.set o v) := by
  show (l.map Value.bool).set o (.bool v) = _
  simp [bv, List.map_set]
theorem bvs_get {W0 : World} {H : Hp} {a : Option Addr} {l : List Bool} (h : Sl W0 H a (bv l)) (j : Nat) (hj : j < l.length) : Rd W0 H (slAt a (j * 1)) (.bool (l.getD j false)) := by
  rw [Nat.mul_one]
  refine h.2.2 j _ ?_
  simp [List.getD_eq_getElem?_getD, hj]
theorem set_self {α : Type} {l : List α} {i : Nat} {a : α} (h : l[i]? = some a) : l.set i a = l := by
  apply List.ext_getElem?
  intro k
  rw [List.getElem?_set]
  split
  · rename_i e; subst e
    split
    · exact h.symm
    · rename_i h2
      rw [List.getElem?_eq_none (by omega)] at h; cases h
  · rfl
theorem set_ne {α : Type} {l : List α} {i j : Nat} {a b : α} (h : l[i]? = some a) (hij : j ≠ i) : (l.set j b)[i]? = some a := by
  rw [List.getElem?_set_ne hij]; exact h
def Rsn.after (x : Rsn) (w : List Bool) (an : Bool) : Rsn := { x with has := takeB x.has w an x.has.length, pos := if an then 0 else x.pos }

set_option maxRecDepth 100000 in
theorem rKnow_c {W0 : World} {H : Hp} {g i j : Nat} {x : Rsn} (hi : H[i]? = some (g, x.obj)) (hj : H[j]? = some (x.hb, x.hob)) (hij : j ≠ i) (hlen : x.has.length ≤ 64) {a : Option Addr} {c : Nat} {w : List Bool} {rt an : Bool} (hwl : w.length ≤ 64) (hw : ∀ o, Sl W0 (H.set j (x.hb, o)) a (bv w)) :
    CxD Try.prog W0 19 #[.pointer (some ⟨g, 0, none⟩), .slice a w.length c, .bool rt, .bool an] H (.int .i64 (if rt = true ∧ w.length = x.has.length then (if x.gone then 41 else 0) else 1))
      (if rt = true ∧ w.length = x.has.length ∧ x.gone = false then (H.set j (x.hb, (x.after w an).hob)).set i (g, (x.after w an).obj) else H) := by
  refine enter Try.func19 rfl Try.ntmps19 rfl ?_
  refine WC.seq ?_
  refine WC.region ?_
  refine WL.p (.none rfl) rfl (OpP.assign rfl) ?_
  refine WL.nil ?_
  refine EQ.sub ((Sub.cons (i := 0) rfl (Sub.cons (i := 1) rfl (Sub.cons (i := 2) rfl (Sub.cons (i := 3) rfl (Sub.cons (i := 8) rfl (Sub.nil _))))))) ?_
  refine EQ.code ?_
  refine WC.seq ?_
  refine WC.seq ?_
  refine WC.region ?_
  refine WL.p (.none rfl) rfl (OpP.move rfl) ?_
  refine WL.p (.none rfl) rfl (OpP.not rfl) ?_
  refine WL.p (.none rfl) rfl (OpP.move rfl) ?_
  refine WL.g (.bool rfl rfl rfl) rfl (fun hg => OpP.move rfl) ?_
  refine WL.g (.bool rfl rfl rfl) rfl (fun hg => OpP.lenSl (gk hg rfl) Try.underlying46) ?_
  refine WL.g (.bool rfl rfl rfl) rfl (fun hg => OpP.move rfl) ?_
  refine WL.g (.bool rfl rfl rfl) rfl (fun hg => OpP.nilCheck (gk hg rfl)) ?_
  refine WL.g (.bool rfl rfl rfl) rfl (fun hg => OpP.fieldAddr (gk hg rfl) fld_85_1) ?_
  refine WL.g (.bool rfl rfl rfl) rfl (fun hg => OpP.load (gk hg rfl) ty_46 (Rd.own (by repeat (first | assumption | exact List.mem_cons_self | exact List.mem_of_getElem? (by assumption) | exact set_mem (by first | assumption | exact set_hit (by assumption)) | apply List.mem_cons_of_mem | apply List.mem_append_right)) (by rfl))) ?_
  refine WL.g (.bool rfl rfl rfl) rfl (fun hg => OpP.lenSl (gk hg rfl) Try.underlying46) ?_
  refine WL.g (.bool rfl rfl rfl) rfl (fun hg => OpP.neqI (gk hg rfl) (gk hg rfl)) ?_
  refine WL.p (.none rfl) rfl (OpP.por rfl rfl rfl) ?_
  refine WL.nil ?_
  refine EQ.sub ((Sub.cons (i := 0) rfl (Sub.cons (i := 1) rfl (Sub.cons (i := 3) rfl (Sub.cons (i := 8) rfl (Sub.cons (i := 21) rfl (Sub.nil _))))))) ?_
  refine EQ.code ?_
  refine WC.cond rfl (fun hc0 => ?_) (fun hc0 => ?_)
  · -- cond 0 t
    (try simp only [decide_eq_true_eq, decide_eq_false_iff_not, Bool.not_eq_true', Bool.not_eq_false', Bool.or_eq_true, Bool.and_eq_true, Bool.or_eq_false_iff, Bool.and_eq_false_imp, Option.isNone_some, Bool.false_eq_true, false_or, true_and] at hc0)
    refine WC.seq ?_
    refine WC.region ?_
    refine WL.p (.none rfl) rfl (OpP.assign rfl) ?_
    refine WL.nil ?_
    refine EQ.sub ((Sub.cons (i := 0) rfl (Sub.cons (i := 1) rfl (Sub.cons (i := 3) rfl (Sub.cons (i := 8) rfl (Sub.nil _)))))) ?_
    refine EQ.code ?_
    refine WC.ret ?_
    refine EQ.thenR ?_
    refine EQ.fin (res1 rfl (.tmp rfl)) ?_
    have hn : ¬ (rt = true ∧ w.length = x.has.length) := by rintro ⟨q1, q2⟩; rcases hc0 with h | h; (rw [q1] at h; cases h); omega
    exact ⟨by rw [if_neg hn], by rw [if_neg (fun h => hn ⟨h.1, h.2.1⟩)]⟩
  · -- cond 0 f
    (try simp only [decide_eq_true_eq, decide_eq_false_iff_not, Bool.not_eq_true', Bool.not_eq_false', Bool.or_eq_true, Bool.and_eq_true, Bool.or_eq_false_iff, Bool.and_eq_false_imp, Option.isNone_some, Bool.false_eq_true, false_or, true_and] at hc0)
    refine WC.skip ?_
    refine EQ.code ?_
    refine WC.seq ?_
    refine WC.seq ?_
    refine WC.region ?_
    refine WL.p (.none rfl) rfl (OpP.move rfl) ?_
    refine WL.p (.none rfl) rfl (OpP.nilCheck rfl) ?_
    refine WL.p (.none rfl) rfl (OpP.fieldAddr rfl fld_85_3) ?_
    refine WL.p (.none rfl) rfl (OpP.load rfl ty_4 (Rd.own (by repeat (first | assumption | exact List.mem_cons_self | exact List.mem_of_getElem? (by assumption) | exact set_mem (by first | assumption | exact set_hit (by assumption)) | apply List.mem_cons_of_mem | apply List.mem_append_right)) (by rfl))) ?_
    refine WL.nil ?_
    refine EQ.sub ((Sub.cons (i := 0) rfl (Sub.cons (i := 1) rfl (Sub.cons (i := 3) rfl (Sub.cons (i := 8) rfl (Sub.cons (i := 25) rfl (Sub.nil _))))))) ?_
    refine EQ.code ?_
    refine WC.cond rfl (fun hc1 => ?_) (fun hc1 => ?_)
    · -- cond 1 t
      (try simp only [decide_eq_true_eq, decide_eq_false_iff_not, Bool.not_eq_true', Bool.not_eq_false', Bool.or_eq_true, Bool.and_eq_true, Bool.or_eq_false_iff, Bool.and_eq_false_imp, Option.isNone_some, Bool.false_eq_true, false_or, true_and] at hc1)
      refine WC.seq ?_
      refine WC.region ?_
      refine WL.p (.none rfl) rfl (OpP.assign rfl) ?_
      refine WL.nil ?_
      refine EQ.sub ((Sub.cons (i := 0) rfl (Sub.cons (i := 1) rfl (Sub.cons (i := 3) rfl (Sub.cons (i := 8) rfl (Sub.nil _)))))) ?_
      refine EQ.code ?_
      refine WC.ret ?_
      refine EQ.thenR ?_
      refine EQ.fin (res1 rfl (.tmp rfl)) ?_
      have hn : rt = true ∧ w.length = x.has.length := ⟨hc0.1, by omega⟩
      exact ⟨by rw [if_pos hn, if_pos hc1], by rw [if_neg (fun h => by rw [hc1] at h; cases h.2.2)]⟩
    · -- cond 1 f
      (try simp only [decide_eq_true_eq, decide_eq_false_iff_not, Bool.not_eq_true', Bool.not_eq_false', Bool.or_eq_true, Bool.and_eq_true, Bool.or_eq_false_iff, Bool.and_eq_false_imp, Option.isNone_some, Bool.false_eq_true, false_or, true_and] at hc1)
      have hH0 : H = H.set j (x.hb, cl (bv (takeB x.has w an 0)) 4) := by rw [takeB_zero]; exact (set_self hj).symm
      refine WC.skip ?_
      refine EQ.code ?_
      refine WC.seq ?_
      refine WC.seq ?_
      refine WC.region ?_
      refine WL.p (.none rfl) rfl (OpP.assign rfl) ?_
      refine WL.nil ?_
      refine EQ.sub ((Sub.cons (i := 0) rfl (Sub.cons (i := 1) rfl (Sub.cons (i := 3) rfl (Sub.cons (i := 8) rfl (Sub.cons (i := 9) rfl (Sub.nil _))))))) ?_
      refine EQ.code ?_
      refine WC.block ?_
      refine WC.loop (σ := Nat) (fun k => [(0, .pointer (some ⟨g, 0, none⟩)), (1, .slice a w.length c), (3, .bool an), (9, .int .i64 (k : Int))]) (fun k => H.set j (x.hb, cl (bv (takeB x.has w an k)) 4)) (fun k => k ≤ w.length) (fun k => w.length - k) 0 (Nat.zero_le _) ((Sub.cons rfl (Sub.cons rfl (Sub.cons rfl (Sub.cons rfl (Sub.nil _)))))) (fun _ h => by rw [← hH0]; exact h) (fun k hinv => ?_)
      have hi2 : (H.set j (x.hb, cl (bv (takeB x.has w an k)) 4))[i]? = some (g, x.obj) := set_ne hi hij
      have hj2 : (H.set j (x.hb, cl (bv (takeB x.has w an k)) 4))[j]? = some (x.hb, cl (bv (takeB x.has w an k)) 4) := set_hit hj
      have hsl := hw (cl (bv (takeB x.has w an k)) 4)
      have htl := takeB_length x.has w an k (by omega)
      refine WC.seq ?_
      refine WC.seq ?_
      refine WC.region ?_
      refine WL.p (.none rfl) rfl (OpP.move rfl) ?_
      refine WL.p (.none rfl) rfl (OpP.move rfl) ?_
      refine WL.p (.none rfl) rfl (OpP.lenSl rfl Try.underlying46) ?_
      refine WL.p (.none rfl) rfl (OpP.lss rfl rfl) ?_
      refine WL.nil ?_
      refine EQ.sub ((Sub.cons (i := 0) rfl (Sub.cons (i := 1) rfl (Sub.cons (i := 3) rfl (Sub.cons (i := 9) rfl (Sub.cons (i := 29) rfl (Sub.nil _))))))) ?_
      refine EQ.code ?_
      refine WC.cond rfl (fun hc2 => ?_) (fun hc2 => ?_)
      · -- cond 2 t
        (try simp only [decide_eq_true_eq, decide_eq_false_iff_not, Bool.not_eq_true', Bool.not_eq_false', Bool.or_eq_true, Bool.and_eq_true, Bool.or_eq_false_iff, Bool.and_eq_false_imp, Option.isNone_some, Bool.false_eq_true, false_or, true_and] at hc2)
        refine WC.skip ?_
        refine EQ.code ?_
        refine WC.seq ?_
        refine WC.block ?_
        refine WC.drawT 23 (by kernel_rfl) (by kernel_rfl) ?_
        refine WQ.p (.none rfl) rfl (OpP.move rfl) ?_
        refine WQ.p (.none rfl) rfl (OpP.nilCheck rfl) ?_
        refine WQ.p (.none rfl) rfl (OpP.fieldAddr rfl fld_85_1) ?_
        refine WQ.p (.none rfl) rfl (OpP.load rfl ty_46 (Rd.own (by repeat (first | assumption | exact List.mem_cons_self | exact List.mem_of_getElem? (by assumption) | exact set_mem (by first | assumption | exact set_hit (by assumption)) | apply List.mem_cons_of_mem | apply List.mem_append_right)) (by rfl))) ?_
        refine WQ.p (.none rfl) rfl (OpP.move rfl) ?_
        refine WQ.p (.none rfl) rfl (OpP.move rfl) ?_
        refine WQ.p (.none rfl) rfl (OpP.move rfl) ?_
        have ha : a ≠ none := by intro hz; have := hsl.1 hz; simp at this; rw [this] at hc2; simp at hc2; omega
        refine WQ.p (.none rfl) rfl (OpP.indexSl rfl rfl el_46 (by omega) (by omega) ha) ?_
        refine WQ.p (.none rfl) rfl (OpP.load rfl ty_4 (bvs_get hsl k (by omega))) ?_
        refine WQ.p (.none rfl) rfl (OpP.move rfl) ?_
        refine WQ.g (.bool rfl rfl rfl) rfl (fun hg => OpP.move rfl) ?_
        refine WQ.g (.bool rfl rfl rfl) rfl (fun hg => OpP.nilCheck (gk hg rfl)) ?_
        refine WQ.g (.bool rfl rfl rfl) rfl (fun hg => OpP.fieldAddr (gk hg rfl) fld_85_1) ?_
        refine WQ.g (.bool rfl rfl rfl) rfl (fun hg => OpP.load (gk hg rfl) ty_46 (Rd.own (by repeat (first | assumption | exact List.mem_cons_self | exact List.mem_of_getElem? (by assumption) | exact set_mem (by first | assumption | exact set_hit (by assumption)) | apply List.mem_cons_of_mem | apply List.mem_append_right)) (by rfl))) ?_
        refine WQ.g (.bool rfl rfl rfl) rfl (fun hg => OpP.move rfl) ?_
        refine WQ.g (.bool rfl rfl rfl) rfl (fun hg => OpP.indexS (gk hg rfl) (gk hg rfl) el_46 (by (try simp at hg); omega) (by (try simp at hg); omega)) ?_
        refine WQ.g (.bool rfl rfl rfl) rfl (fun hg => OpP.load (gk hg rfl) ty_4 (bv_get (List.mem_of_getElem? hj2) k (by rw [takeB_length _ _ _ _ (by omega)]; omega))) ?_
        refine WQ.g (.bool rfl rfl rfl) rfl (fun hg => OpP.move (gk hg rfl)) ?_
        refine WQ.g (.gv rfl rfl rfl) rfl (fun hg => OpP.move rfl) ?_
        refine WQ.g (.gv rfl rfl rfl) rfl (fun hg => OpP.not (gk hg rfl)) ?_
        refine WQ.g (.bool rfl rfl rfl) rfl (fun hg => OpP.pand (gk hg rfl) (gk2 hg rfl) rfl) ?_
        refine WQ.p (.none rfl) rfl (OpP.por rfl rfl rfl) ?_
        refine WQ.p (.none rfl) rfl (OpP.indexS rfl rfl el_46 (by omega) (by omega)) ?_
        refine WQ.tail ?_
        refine WL.s (.none rfl) rfl (OpS.store rfl rfl ty_4 (by repeat (first | assumption | exact at0 | exact set_hit (by first | assumption | exact set_hit (by assumption)) | apply ats)) (by rfl) (by first | rfl | (simp [spl_length]; done) | (simp [spl_length]; omega)) (by first | rfl | exact iv_one _ _ | (simp [Value.oneCell']; done)) (by first | rfl | (refine Nat.ble_eq_true_of_le ?_; simp [spl_length]; done) | (refine Nat.ble_eq_true_of_le ?_; simp [spl_length]; omega))) ?_
        refine WL.nil ?_
        refine EQ.sub ((Sub.cons (i := 0) rfl (Sub.cons (i := 1) rfl (Sub.cons (i := 3) rfl (Sub.cons (i := 9) rfl (Sub.nil _)))))) ?_
        refine EQ.blockN ?_
        refine EQ.code ?_
        refine WC.region ?_
        refine WL.p (.none rfl) rfl (OpP.move rfl) ?_
        first | (refine WL.p (.none rfl) rfl (OpP.add64 rfl rfl (by omega)) ?_) | (refine WL.p (.none rfl) rfl (OpP.add rfl rfl) ?_)
        refine WL.p (.none rfl) rfl (OpP.assign rfl) ?_
        refine WL.nil ?_
        refine EQ.sub ((Sub.cons (i := 0) rfl (Sub.cons (i := 1) rfl (Sub.cons (i := 3) rfl (Sub.cons (i := 9) rfl (Sub.nil _)))))) ?_
        have hks := takeB_succ x.has w an k (by omega)
        refine EQ.again (k + 1) ?_ ?_ ?_ ?_
        · omega
        · omega
        · exact ((Sub.cons rfl (Sub.cons rfl (Sub.cons rfl (Sub.cons rfl (Sub.nil _))))))
        · intro _ h; simp only [Nat.zero_add, Nat.mul_one, Int.toNat_natCast, spl_bv, List.set_set] at h; rw [takeB_get _ _ _ _ (by omega), hks] at h; exact h
      · -- cond 2 f
        (try simp only [decide_eq_true_eq, decide_eq_false_iff_not, Bool.not_eq_true', Bool.not_eq_false', Bool.or_eq_true, Bool.and_eq_true, Bool.or_eq_false_iff, Bool.and_eq_false_imp, Option.isNone_some, Bool.false_eq_true, false_or, true_and] at hc2)
        refine WC.exit ?_
        refine EQ.thenE ?_
        refine EQ.thenE ?_
        refine EQ.blockHit ?_
        refine EQ.code ?_
        refine WC.seq ?_
        refine WC.seq ?_
        refine WC.region ?_
        refine WL.p (.none rfl) rfl (OpP.move rfl) ?_
        refine WL.nil ?_
        refine EQ.sub ((Sub.cons (i := 0) rfl (Sub.cons (i := 55) rfl (Sub.nil _)))) ?_
        refine EQ.code ?_
        refine WC.cond rfl (fun hc3 => ?_) (fun hc3 => ?_)
        · -- cond 3 t
          (try simp only [decide_eq_true_eq, decide_eq_false_iff_not, Bool.not_eq_true', Bool.not_eq_false', Bool.or_eq_true, Bool.and_eq_true, Bool.or_eq_false_iff, Bool.and_eq_false_imp, Option.isNone_some, Bool.false_eq_true, false_or, true_and] at hc3)
          refine WC.region ?_
          refine WL.p (.none rfl) rfl (OpP.move rfl) ?_
          refine WL.p (.none rfl) rfl (OpP.nilCheck rfl) ?_
          refine WL.p (.none rfl) rfl (OpP.fieldAddr rfl fld_85_2) ?_
          refine WL.s (.none rfl) rfl (OpS.store rfl rfl ty_3 (by repeat (first | assumption | exact at0 | exact set_hit (by first | assumption | exact set_hit (by assumption)) | apply ats)) (by rfl) (by first | rfl | (simp [spl_length]; done) | (simp [spl_length]; omega)) (by first | rfl | exact iv_one _ _ | (simp [Value.oneCell']; done)) (by first | rfl | (refine Nat.ble_eq_true_of_le ?_; simp [spl_length]; done) | (refine Nat.ble_eq_true_of_le ?_; simp [spl_length]; omega))) ?_
          refine WL.nil ?_
          refine EQ.sub ((Sub.nil _)) ?_
          refine EQ.code ?_
          refine WC.seq ?_
          refine WC.region ?_
          refine WL.p (.none rfl) rfl (OpP.assign rfl) ?_
          refine WL.nil ?_
          refine EQ.sub ((Sub.cons (i := 8) rfl (Sub.nil _))) ?_
          refine EQ.code ?_
          refine WC.ret ?_
          refine EQ.fin (res1 rfl (.tmp rfl)) ?_
          have hn : rt = true ∧ w.length = x.has.length := ⟨hc0.1, by omega⟩
          have hk : k = x.has.length := by omega
          subst hk
          refine ⟨by rw [if_pos hn, hc1]; rfl, ?_⟩
          rw [if_pos ⟨hn.1, hn.2, hc1⟩]
          have hobj : (x.after w an).obj = cl [.slice x.ca x.cn x.cc, .slice (some ⟨x.hb, 0, none⟩) x.has.length x.has.length, .int .i64 (if an then 0 else x.pos), .bool x.gone] 85 := by unfold Rsn.after; simp only [Rsn.obj, Rsn.l, htl]
          rw [hobj]
          subst hc3
          first | exact (set_self hi2).symm | rfl
        · -- cond 3 f
          (try simp only [decide_eq_true_eq, decide_eq_false_iff_not, Bool.not_eq_true', Bool.not_eq_false', Bool.or_eq_true, Bool.and_eq_true, Bool.or_eq_false_iff, Bool.and_eq_false_imp, Option.isNone_some, Bool.false_eq_true, false_or, true_and] at hc3)
          refine WC.skip ?_
          refine EQ.code ?_
          refine WC.seq ?_
          refine WC.region ?_
          refine WL.p (.none rfl) rfl (OpP.assign rfl) ?_
          refine WL.nil ?_
          refine EQ.sub ((Sub.cons (i := 8) rfl (Sub.nil _))) ?_
          refine EQ.code ?_
          refine WC.ret ?_
          refine EQ.fin (res1 rfl (.tmp rfl)) ?_
          have hn : rt = true ∧ w.length = x.has.length := ⟨hc0.1, by omega⟩
          have hk : k = x.has.length := by omega
          subst hk
          refine ⟨by rw [if_pos hn, hc1]; rfl, ?_⟩
          rw [if_pos ⟨hn.1, hn.2, hc1⟩]
          have hobj : (x.after w an).obj = cl [.slice x.ca x.cn x.cc, .slice (some ⟨x.hb, 0, none⟩) x.has.length x.has.length, .int .i64 (if an then 0 else x.pos), .bool x.gone] 85 := by unfold Rsn.after; simp only [Rsn.obj, Rsn.l, htl]
          rw [hobj]
          subst hc3
          first | exact (set_self hi2).symm | rfl

end Go.Proofs.Ytmeimjpjelmchaa
