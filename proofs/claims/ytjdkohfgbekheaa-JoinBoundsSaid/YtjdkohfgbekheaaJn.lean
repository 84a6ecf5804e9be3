/- Jn: walks of functions of the program, each over the rules of Sx. No conditions but those in the theorems' heads. -/
import Derived.Test.YtjdkohfgbekheaaTm
import Derived.Test.YtjdkohfgbekheaaSxCx
import Derived.Test.YtjdkohfgbekheaaProg
set_option linter.unusedVariables false
set_option linter.unusedSimpArgs false
namespace Go.Proofs.Ytjdkohfgbekheaa
open Go.RowKit Go.Sx
namespace Jn
theorem el_25 : elI Try.prog 25 = some (none, 35, true, 4) := by kernel_rfl
theorem fld_35_0 : fldI Try.prog 35 0 = some (0, false, 1) := by kernel_rfl
theorem fld_35_1 : fldI Try.prog 35 1 = some (1, false, 1) := by kernel_rfl
theorem fld_35_2 : fldI Try.prog 35 2 = some (2, false, 1) := by kernel_rfl
theorem fld_35_3 : fldI Try.prog 35 3 = some (3, false, 1) := by kernel_rfl
theorem k_22 : Cal Try.prog 22 := ⟨_, _, Try.func22, by kernel_rfl, rfl⟩
theorem k_31 : Cal Try.prog 31 := ⟨_, _, Try.func31, by kernel_rfl, rfl⟩
theorem k_32 : Cal Try.prog 32 := ⟨_, _, Try.func32, by kernel_rfl, rfl⟩
theorem k_35 : Cal Try.prog 35 := ⟨_, _, Try.func35, by kernel_rfl, rfl⟩
theorem sl_23 : slI Try.prog 23 = some (5, 1, 1) := by kernel_rfl
theorem ty_22 : tyI Try.prog 22 = some (false, 1) := by kernel_rfl
theorem ty_23 : tyI Try.prog 23 = some (false, 1) := by kernel_rfl
theorem ty_25 : tyI Try.prog 25 = some (false, 1) := by kernel_rfl
theorem ty_3 : tyI Try.prog 3 = some (false, 1) := by kernel_rfl
theorem ty_35 : tyI Try.prog 35 = some (true, 4) := by kernel_rfl
theorem z_3 : zI Try.prog 3 = some [.int .i64 0] := by kernel_rfl
theorem z_35 : zI Try.prog 35 = some [.int .u64 0, .int .i64 0, .int .i64 0, .slice none 0 0] := by kernel_rfl
end Jn
open Jn

set_option maxRecDepth 100000 in
theorem JoinF_c {W0 : World} {R : Hp} {b4 b1 ob o k c0 : Nat} {id : Int} {j : Nat} {a : Option Addr} {len c : Nat} {xs : List Value} (h1 : (b1, cl [.slice (some ⟨ob, o, none⟩) k c0] 25) ∈ R) (hsl : Sl W0 R (some ⟨ob, o, none⟩) xs) (hx0 : xs[0]? = some (.int .u64 id)) (hk : 0 < k) (hk64 : k ≤ 64) (hj : j < k) (hok : ptOk id j k len = true) :
    CxD Try.prog W0 32 #[ptV id j k a len c, .pointer (some ⟨b4, 0, none⟩), .pointer (some ⟨b1, 0, none⟩)] ((b4, cl [.int .i64 (j : Int)] 3) :: R) (.bool false) ((b4, cl [.int .i64 ((j : Int) + 1)] 3) :: R) := by
  refine enter Try.func32 rfl Try.ntmps32 rfl ?_
  refine WC.seq ?_
  refine WC.region ?_
  refine WL.box rfl rfl rfl (fun b3 => ?_)
  refine WL.p (.none rfl) rfl (OpP.assign rfl) ?_
  refine WL.nil ?_
  refine EQ.sub ((Sub.cons (i := 1) rfl (Sub.cons (i := 2) rfl (Sub.cons (i := 3) rfl (Sub.cons (i := 4) rfl (Sub.nil _)))))) ?_
  refine EQ.code ?_
  refine WC.seq ?_
  refine WC.region ?_
  refine WL.p (.none rfl) rfl (OpP.load rfl ty_3 (Rd.own (by repeat (first | assumption | exact List.mem_cons_self | exact List.mem_of_getElem? (by assumption) | exact set_mem (by first | assumption | exact set_hit (by assumption)) | apply List.mem_cons_of_mem | apply List.mem_append_right)) (by rfl))) ?_
  first | (refine WL.p (.none rfl) rfl (OpP.add64 rfl rfl (by omega)) ?_) | (refine WL.p (.none rfl) rfl (OpP.add rfl rfl) ?_)
  refine WL.s (.none rfl) rfl (OpS.store rfl rfl ty_3 (by repeat (first | assumption | exact at0 | exact set_hit (by first | assumption | exact set_hit (by assumption)) | apply ats)) (by rfl) (by rfl) (by rfl) (by rfl)) ?_
  refine WL.nil ?_
  refine EQ.sub ((Sub.cons (i := 1) rfl (Sub.cons (i := 2) rfl (Sub.cons (i := 3) rfl (Sub.cons (i := 4) rfl (Sub.nil _)))))) ?_
  refine EQ.code ?_
  refine WC.seq ?_
  refine WC.draw (by kernel_rfl) (by kernel_rfl) ?_
  refine WQ.p (.none rfl) rfl (OpP.loadB rfl ty_35 (by repeat (first | assumption | exact List.mem_cons_self | exact List.mem_of_getElem? (by assumption) | exact set_mem (by first | assumption | exact set_hit (by assumption)) | apply List.mem_cons_of_mem | apply List.mem_append_right)) (by rfl)) ?_
  refine WQ.callD rfl (.none rfl) rfl k_22 rfl (CxD.to (Right_c (by omega) (by omega)) (show _ = Value.bool true by rw [hok]) rfl) ?_
  refine WQ.p (.none rfl) rfl (OpP.not rfl) ?_
  refine WQ.p (.none rfl) rfl (OpP.move rfl) ?_
  refine WQ.g (.bool rfl rfl rfl) rfl (fun hg => OpP.fieldAddr rfl fld_35_0) ?_
  refine WQ.g (.bool rfl rfl rfl) rfl (fun hg => OpP.load (gk hg rfl) ty_22 (Rd.own (by repeat (first | assumption | exact List.mem_cons_self | exact List.mem_of_getElem? (by assumption) | exact set_mem (by first | assumption | exact set_hit (by assumption)) | apply List.mem_cons_of_mem | apply List.mem_append_right)) (by rfl))) ?_
  refine WQ.g (.bool rfl rfl rfl) rfl (fun hg => OpP.load rfl ty_25 (Rd.own (by repeat (first | assumption | exact List.mem_cons_self | exact List.mem_of_getElem? (by assumption) | exact set_mem (by first | assumption | exact set_hit (by assumption)) | apply List.mem_cons_of_mem | apply List.mem_append_right)) (by rfl))) ?_
  refine WQ.g (.bool rfl rfl rfl) rfl (fun hg => OpP.indexS (gk hg rfl) rfl el_25 (by (try simp at hg); omega) (by (try simp at hg); omega)) ?_
  refine WQ.g (.bool rfl rfl rfl) rfl (fun hg => OpP.fieldAddr (gk hg rfl) fld_35_0) ?_
  refine WQ.g (.bool rfl rfl rfl) rfl (fun hg => OpP.load (gk hg rfl) ty_22 (Rd.sl0 hsl.cons.cons hx0 (by simp))) ?_
  refine WQ.g (.bool rfl rfl rfl) rfl (fun hg => OpP.neqI (gk hg rfl) (gk hg rfl)) ?_
  refine WQ.p (.none rfl) rfl (OpP.por rfl rfl rfl) ?_
  refine WQ.p (.none rfl) rfl (OpP.move rfl) ?_
  refine WQ.g (.bool rfl rfl rfl) rfl (fun hg => OpP.fieldAddr rfl fld_35_2) ?_
  refine WQ.g (.bool rfl rfl rfl) rfl (fun hg => OpP.load (gk hg rfl) ty_3 (Rd.own (by repeat (first | assumption | exact List.mem_cons_self | exact List.mem_of_getElem? (by assumption) | exact set_mem (by first | assumption | exact set_hit (by assumption)) | apply List.mem_cons_of_mem | apply List.mem_append_right)) (by rfl))) ?_
  refine WQ.g (.bool rfl rfl rfl) rfl (fun hg => OpP.load rfl ty_25 (Rd.own (by repeat (first | assumption | exact List.mem_cons_self | exact List.mem_of_getElem? (by assumption) | exact set_mem (by first | assumption | exact set_hit (by assumption)) | apply List.mem_cons_of_mem | apply List.mem_append_right)) (by rfl))) ?_
  refine WQ.g (.bool rfl rfl rfl) rfl (fun hg => OpP.lenSl (gk hg rfl) Try.underlying25) ?_
  refine WQ.g (.bool rfl rfl rfl) rfl (fun hg => OpP.neqI (gk hg rfl) (gk hg rfl)) ?_
  refine WQ.p (.none rfl) rfl (OpP.por rfl rfl rfl) ?_
  refine WQ.p (.none rfl) rfl (OpP.move rfl) ?_
  refine WQ.g (.bool rfl rfl rfl) rfl (fun hg => OpP.fieldAddr rfl fld_35_1) ?_
  refine WQ.g (.bool rfl rfl rfl) rfl (fun hg => OpP.load (gk hg rfl) ty_3 (Rd.own (by repeat (first | assumption | exact List.mem_cons_self | exact List.mem_of_getElem? (by assumption) | exact set_mem (by first | assumption | exact set_hit (by assumption)) | apply List.mem_cons_of_mem | apply List.mem_append_right)) (by rfl))) ?_
  refine WQ.g (.bool rfl rfl rfl) rfl (fun hg => OpP.load rfl ty_3 (Rd.own (by repeat (first | assumption | exact List.mem_cons_self | exact List.mem_of_getElem? (by assumption) | exact set_mem (by first | assumption | exact set_hit (by assumption)) | apply List.mem_cons_of_mem | apply List.mem_append_right)) (by rfl))) ?_
  first | (refine WQ.g (.bool rfl rfl rfl) rfl (fun hg => OpP.sub64 (gk hg rfl) rfl (by (try simp at hg); omega)) ?_) | (refine WQ.g (.bool rfl rfl rfl) rfl (fun hg => OpP.sub (gk hg rfl) rfl) ?_)
  refine WQ.g (.bool rfl rfl rfl) rfl (fun hg => OpP.neqI (gk hg rfl) (gk hg rfl)) ?_
  refine WQ.p (.none rfl) rfl (OpP.por rfl rfl rfl) ?_
  refine WQ.p (.none rfl) rfl (OpP.assign rfl) ?_
  refine WQ.done ?_
  refine EQ.sub ((Sub.cons (i := 4) rfl (Sub.nil _))) ?_
  refine EQ.code ?_
  refine WC.ret ?_
  refine EQ.finD (H' := (b4, cl [.int .i64 ((j : Int) + 1)] 3) :: R) (res1 rfl (.tmp rfl)) (by intro _ h; first | exact h | exact h.drop | exact h.drop.drop | exact h.drop.drop.drop | exact h.drop.drop.drop.drop | exact h.drop.drop.drop.drop.drop | exact h.drop.drop.drop.drop.drop.drop | exact h.drop_mid) ?_
  exact ⟨by simp, rfl⟩

set_option maxRecDepth 100000 in
theorem IndexJ_c {W0 : World} {R : Hp} {b4 b1 ob o k c0 : Nat} {id : Int} {C : List (List Value)} {d : Nat → List Int} (h1 : (b1, cl [.slice (some ⟨ob, o, none⟩) k c0] 25) ∈ R) (hsl : Sl W0 R (some ⟨ob, o, none⟩) C.flatten) (hk : 0 < k) (hk64 : k ≤ 64) (hlc : C.length = k) (hc4 : ∀ c ∈ C, c.length = 4) (hp : ∀ j, j < k → ∃ a c, C.getD j [] = ptL id j k a (d j).length c ∧ ptOk id j k (d j).length = true ∧ Sl W0 R a (iv .u8 (d j))) :
    CxD Try.prog W0 35 #[.slice (some ⟨ob, o, none⟩) k c0, .func (.func 32) #[] #[.pointer (some ⟨b4, 0, none⟩), .pointer (some ⟨b1, 0, none⟩)]] ((b4, cl [.int .i64 0] 3) :: R) (.int .i64 (-1)) ((b4, cl [.int .i64 (k : Int)] 3) :: R) := by
  obtain ⟨a0, c00, hC0, _, _⟩ := hp 0 hk
  have hx0 : C.flatten[0]? = some (.int .u64 id) := by
      cases C with
      | nil => simp at hlc; omega
      | cons c C => simp only [List.getD_cons_zero] at hC0; subst hC0; rfl
  refine enter Try.func35 rfl Try.ntmps35 rfl ?_
  refine WC.seq ?_
  refine WC.region ?_
  refine WL.p (.none rfl) rfl (OpP.assign rfl) ?_
  refine WL.nil ?_
  refine EQ.sub ((Sub.cons (i := 0) rfl (Sub.cons (i := 1) rfl (Sub.cons (i := 4) rfl (Sub.nil _))))) ?_
  refine EQ.code ?_
  refine WC.seq ?_
  refine WC.seq ?_
  refine WC.region ?_
  refine WL.p (.none rfl) rfl (OpP.move rfl) ?_
  refine WL.p (.none rfl) rfl (OpP.lenSl rfl Try.underlying25) ?_
  refine WL.p (.none rfl) rfl (OpP.move rfl) ?_
  refine WL.nil ?_
  refine EQ.sub ((Sub.cons (i := 0) rfl (Sub.cons (i := 1) rfl (Sub.cons (i := 4) rfl (Sub.cons (i := 7) rfl (Sub.cons (i := 8) rfl (Sub.nil _))))))) ?_
  refine EQ.code ?_
  refine WC.block ?_
  refine WC.loop (σ := Nat) (fun s => [(0, .slice (some ⟨ob, o, none⟩) k c0), (1, .func (.func 32) #[] #[.pointer (some ⟨b4, 0, none⟩), .pointer (some ⟨b1, 0, none⟩)]), (7, .int .i64 (k : Int)), (8, .int .i64 (s : Int))]) (fun s => (b4, cl [.int .i64 (s : Int)] 3) :: R) (fun s => s ≤ k) (fun s => k - s) 0 (Nat.zero_le _) ((Sub.cons rfl (Sub.cons rfl (Sub.cons rfl (Sub.cons rfl (Sub.nil _)))))) (fun _ h => h) (fun j hinv => ?_)
  (try simp only at hinv ⊢)
  refine WC.seq ?_
  refine WC.region ?_
  refine WL.p (.none rfl) rfl (OpP.lss rfl rfl) ?_
  refine WL.nil ?_
  refine EQ.sub ((Sub.cons (i := 0) rfl (Sub.cons (i := 1) rfl (Sub.cons (i := 7) rfl (Sub.cons (i := 8) rfl (Sub.cons (i := 9) rfl (Sub.nil _))))))) ?_
  refine EQ.code ?_
  refine WC.seq ?_
  refine WC.cond rfl (fun hc0 => ?_) (fun hc0 => ?_)
  · -- cond 0 t
    (try simp only [decide_eq_true_eq, decide_eq_false_iff_not, Bool.not_eq_true', Bool.not_eq_false', Bool.or_eq_true, Bool.and_eq_true, Bool.or_eq_false_iff, Bool.and_eq_false_imp, Option.isNone_some, Bool.false_eq_true, false_or, true_and] at hc0)
    obtain ⟨pa, pc, hC, hpo, hps⟩ := hp j (by omega)
    have hCj : C[j]? = some (ptL id j k pa (d j).length pc) := by
      rw [List.getD_eq_getElem?_getD] at hC
      have hj2 : j < C.length := by omega
      rw [List.getElem?_eq_getElem hj2] at hC ⊢
      exact congrArg some hC
    refine WC.skip ?_
    refine EQ.code ?_
    refine WC.seq ?_
    refine WC.block ?_
    refine WC.seq ?_
    refine WC.region ?_
    refine WL.p (.none rfl) rfl (OpP.move rfl) ?_
    refine WL.p (.none rfl) rfl (OpP.assign rfl) ?_
    refine WL.nil ?_
    refine EQ.sub ((Sub.cons (i := 0) rfl (Sub.cons (i := 1) rfl (Sub.cons (i := 5) rfl (Sub.cons (i := 7) rfl (Sub.cons (i := 8) rfl (Sub.nil _))))))) ?_
    refine EQ.code ?_
    refine WC.seq ?_
    refine WC.region ?_
    refine WL.p (.none rfl) rfl (OpP.move rfl) ?_
    refine WL.p (.none rfl) rfl (OpP.move rfl) ?_
    refine WL.p (.none rfl) rfl (OpP.move rfl) ?_
    refine WL.p (.none rfl) rfl (OpP.indexSl rfl rfl el_25 (by omega) (by omega) (by simp)) ?_
    refine WL.p (.none rfl) rfl (OpP.loadSl (a := some ⟨ob, o, none⟩) (o := j * 4) (xs := C.flatten) (vs := ptL id j k pa (d j).length pc) rfl ty_35 hsl.cons (fun i v hv => flat_get hc4 j _ hCj i v hv) rfl (by simp)) ?_
    refine WL.callV (all := [ptV id j k pa (d j).length pc, .pointer (some ⟨b4, 0, none⟩), .pointer (some ⟨b1, 0, none⟩)]) rfl rfl (.none rfl) rfl k_32 rfl rfl (JoinF_c h1 hsl hx0 hk hk64 (by omega) hpo) ?_
    rintro _ _ ⟨rfl, rfl⟩
    refine WL.nil ?_
    refine EQ.sub ((Sub.cons (i := 0) rfl (Sub.cons (i := 1) rfl (Sub.cons (i := 5) rfl (Sub.cons (i := 7) rfl (Sub.cons (i := 8) rfl (Sub.cons (i := 16) rfl (Sub.nil _)))))))) ?_
    refine EQ.code ?_
    refine WC.condF rfl ?_
    refine WC.skip ?_
    refine EQ.blockN ?_
    refine EQ.code ?_
    refine WC.region ?_
    first | (refine WL.p (.none rfl) rfl (OpP.add64 rfl rfl (by omega)) ?_) | (refine WL.p (.none rfl) rfl (OpP.add rfl rfl) ?_)
    refine WL.p (.none rfl) rfl (OpP.move rfl) ?_
    refine WL.nil ?_
    refine EQ.sub ((Sub.cons (i := 0) rfl (Sub.cons (i := 1) rfl (Sub.cons (i := 7) rfl (Sub.cons (i := 8) rfl (Sub.nil _)))))) ?_
    refine EQ.again (j + 1) ?_ ?_ ?_ ?_
    · show j + 1 ≤ k; omega
    · (try simp only); omega
    · exact ((Sub.cons rfl (Sub.cons rfl (Sub.cons rfl (Sub.cons rfl (Sub.nil _))))))
    · intro _ h; first | exact h | exact h.drop | exact h.drop_mid | exact h.drop_mid.drop_mid
  · -- cond 0 f
    (try simp only [decide_eq_true_eq, decide_eq_false_iff_not, Bool.not_eq_true', Bool.not_eq_false', Bool.or_eq_true, Bool.and_eq_true, Bool.or_eq_false_iff, Bool.and_eq_false_imp, Option.isNone_some, Bool.false_eq_true, false_or, true_and] at hc0)
    have hjk : k = j := by omega
    subst hjk
    refine WC.exit ?_
    refine EQ.thenE ?_
    refine EQ.thenE ?_
    refine EQ.blockHit ?_
    refine EQ.code ?_
    refine WC.seq ?_
    refine WC.region ?_
    refine WL.p (.none rfl) rfl (OpP.assign rfl) ?_
    refine WL.nil ?_
    refine EQ.sub ((Sub.cons (i := 4) rfl (Sub.nil _))) ?_
    refine EQ.code ?_
    refine WC.ret ?_
    refine EQ.finD (H' := (b4, cl [.int .i64 (k : Int)] 3) :: R) (res1 rfl (.tmp rfl)) (by intro _ h; first | exact h | exact h.drop | exact h.drop.drop | exact h.drop.drop.drop | exact h.drop.drop.drop.drop | exact h.drop.drop.drop.drop.drop | exact h.drop.drop.drop.drop.drop.drop | exact h.drop_mid) ?_
    exact ⟨rfl, rfl⟩

set_option maxRecDepth 100000 in
theorem ContJ_c {W0 : World} {R : Hp} {b4 b1 ob o k c0 : Nat} {id : Int} {C : List (List Value)} {d : Nat → List Int} (h1 : (b1, cl [.slice (some ⟨ob, o, none⟩) k c0] 25) ∈ R) (hsl : Sl W0 R (some ⟨ob, o, none⟩) C.flatten) (hk : 0 < k) (hk64 : k ≤ 64) (hlc : C.length = k) (hc4 : ∀ c ∈ C, c.length = 4) (hp : ∀ j, j < k → ∃ a c, C.getD j [] = ptL id j k a (d j).length c ∧ ptOk id j k (d j).length = true ∧ Sl W0 R a (iv .u8 (d j))) :
    CxD Try.prog W0 31 #[.slice (some ⟨ob, o, none⟩) k c0, .func (.func 32) #[] #[.pointer (some ⟨b4, 0, none⟩), .pointer (some ⟨b1, 0, none⟩)]] ((b4, cl [.int .i64 0] 3) :: R) (.bool false) ((b4, cl [.int .i64 (k : Int)] 3) :: R) := by
  refine enter Try.func31 rfl Try.ntmps31 rfl ?_
  refine WC.seq ?_
  refine WC.region ?_
  refine WL.p (.none rfl) rfl (OpP.assign rfl) ?_
  refine WL.nil ?_
  refine EQ.sub ((Sub.cons (i := 0) rfl (Sub.cons (i := 1) rfl (Sub.cons (i := 4) rfl (Sub.nil _))))) ?_
  refine EQ.code ?_
  refine WC.seq ?_
  refine WC.region ?_
  refine WL.p (.none rfl) rfl (OpP.move rfl) ?_
  refine WL.p (.none rfl) rfl (OpP.move rfl) ?_
  refine WL.callD rfl (.none rfl) rfl k_35 rfl (IndexJ_c h1 hsl hk hk64 hlc hc4 hp) ?_
  refine WL.p (.none rfl) rfl (OpP.geq rfl rfl) ?_
  refine WL.p (.none rfl) rfl (OpP.assign rfl) ?_
  refine WL.nil ?_
  refine EQ.sub ((Sub.cons (i := 4) rfl (Sub.nil _))) ?_
  refine EQ.code ?_
  refine WC.ret ?_
  refine EQ.finD (H' := (b4, cl [.int .i64 (k : Int)] 3) :: R) (res1 rfl (.tmp rfl)) (by intro _ h; first | exact h | exact h.drop | exact h.drop.drop | exact h.drop.drop.drop | exact h.drop.drop.drop.drop | exact h.drop.drop.drop.drop.drop | exact h.drop.drop.drop.drop.drop.drop | exact h.drop_mid) ?_
  exact ⟨rfl, rfl⟩

theorem cat_len {d : Nat → List Int} : ∀ k, (∀ j, j < k → (d j).length ≤ 480) → ((List.range k).flatMap d).length ≤ 480 * k
  | 0, _ => by simp
  | k + 1, h => by
    have ih := cat_len k (fun j hj => h j (by omega))
    have := h k (by omega)
    rw [List.range_succ, List.flatMap_append]
    simp only [List.flatMap_cons, List.flatMap_nil, List.append_nil, List.length_append]
    omega
theorem ptOk_len {id ix n : Int} {len : Nat} (h : ptOk id ix n len = true) : len ≤ 480 := by
  unfold ptOk at h
  simp only [decide_eq_true_eq] at h
  omega

set_option maxRecDepth 100000 in
theorem Join_c {W0 : World} {R : Hp} {ob o k c0 : Nat} {id : Int} {C : List (List Value)} {d : Nat → List Int} (hsl : Sl W0 R (some ⟨ob, o, none⟩) C.flatten) (hk : 0 < k) (hk64 : k ≤ 64) (hlc : C.length = k) (hc4 : ∀ c ∈ C, c.length = 4) (hp : ∀ j, j < k → ∃ a c, C.getD j [] = ptL id j k a (d j).length c ∧ ptOk id j k (d j).length = true ∧ Sl W0 R a (iv .u8 (d j))) :
    CxX Try.prog W0 24 #[.slice (some ⟨ob, o, none⟩) k c0] R (fun v H' => ∃ a c ds, v = .tuple #[.slice a ((List.range k).flatMap d).length c, .int .i64 0] ∧ H' = ds ++ R ∧ OwnS 5 1 (.slice a ((List.range k).flatMap d).length c) ((List.range k).flatMap d).length (iv .u8 ((List.range k).flatMap d)) ds) := by
  refine enter Try.func24 rfl Try.ntmps24 rfl ?_
  refine WC.seq ?_
  refine WC.region ?_
  refine WL.box rfl rfl rfl (fun b1 => ?_)
  refine WL.p (.none rfl) rfl (OpP.assign rfl) ?_
  refine WL.p (.none rfl) rfl (OpP.assign rfl) ?_
  refine WL.nil ?_
  refine EQ.sub ((Sub.cons (i := 1) rfl (Sub.cons (i := 2) rfl (Sub.cons (i := 3) rfl (Sub.nil _))))) ?_
  refine EQ.code ?_
  refine WC.seq ?_
  refine WC.seq ?_
  refine WC.region ?_
  refine WL.p (.none rfl) rfl (OpP.load rfl ty_25 (Rd.own (by repeat (first | assumption | exact List.mem_cons_self | exact List.mem_of_getElem? (by assumption) | exact set_mem (by first | assumption | exact set_hit (by assumption)) | apply List.mem_cons_of_mem | apply List.mem_append_right)) (by rfl))) ?_
  refine WL.p (.none rfl) rfl (OpP.lenSl rfl Try.underlying25) ?_
  refine WL.p (.none rfl) rfl (OpP.eqlI rfl rfl) ?_
  refine WL.nil ?_
  refine EQ.sub ((Sub.cons (i := 1) rfl (Sub.cons (i := 2) rfl (Sub.cons (i := 3) rfl (Sub.cons (i := 11) rfl (Sub.nil _)))))) ?_
  refine EQ.code ?_
  refine WC.cond rfl (fun hc0 => ?_) (fun hc0 => ?_)
  · -- cond 0 t
    (try simp only [decide_eq_true_eq, decide_eq_false_iff_not, Bool.not_eq_true', Bool.not_eq_false', Bool.or_eq_true, Bool.and_eq_true, Bool.or_eq_false_iff, Bool.and_eq_false_imp, Option.isNone_some, Bool.false_eq_true, false_or, true_and] at hc0)
    exfalso; omega
  · -- cond 0 f
    (try simp only [decide_eq_true_eq, decide_eq_false_iff_not, Bool.not_eq_true', Bool.not_eq_false', Bool.or_eq_true, Bool.and_eq_true, Bool.or_eq_false_iff, Bool.and_eq_false_imp, Option.isNone_some, Bool.false_eq_true, false_or, true_and] at hc0)
    refine WC.skip ?_
    refine EQ.code ?_
    refine WC.seq ?_
    refine WC.region ?_
    refine WL.allocX z_3 rfl (fun b4 => ?_)
    refine WL.s (.none rfl) rfl (OpS.store rfl rfl ty_3 (by repeat (first | assumption | exact at0 | exact set_hit (by first | assumption | exact set_hit (by assumption)) | apply ats)) (by rfl) (by rfl) (by rfl) (by rfl)) ?_
    refine WL.nil ?_
    refine EQ.sub ((Sub.cons (i := 1) rfl (Sub.cons (i := 2) rfl (Sub.cons (i := 3) rfl (Sub.cons (i := 4) rfl (Sub.nil _)))))) ?_
    refine EQ.code ?_
    refine WC.seq ?_
    refine WC.region ?_
    refine WL.p (.none rfl) rfl (OpP.load rfl ty_25 (Rd.own (by repeat (first | assumption | exact List.mem_cons_self | exact List.mem_of_getElem? (by assumption) | exact set_mem (by first | assumption | exact set_hit (by assumption)) | apply List.mem_cons_of_mem | apply List.mem_append_right)) (by rfl))) ?_
    refine WL.p (.none rfl) rfl (OpP.makeFuncC (args := []) (caps := [.pointer (some ⟨b4, 0, none⟩), .pointer (some ⟨b1, 0, none⟩)]) rfl rfl) ?_
    refine WL.callD rfl (.none rfl) rfl k_31 rfl (ContJ_c (id := id) (d := d) (C := C) List.mem_cons_self hsl.cons hk hk64 hlc hc4 (fun j hj => by obtain ⟨a, c, h1, h2, h3⟩ := hp j hj; exact ⟨a, c, h1, h2, h3.cons⟩)) ?_
    refine WL.p (.none rfl) rfl (OpP.assign rfl) ?_
    refine WL.nil ?_
    refine EQ.sub ((Sub.cons (i := 1) rfl (Sub.cons (i := 2) rfl (Sub.cons (i := 3) rfl (Sub.cons (i := 5) rfl (Sub.nil _)))))) ?_
    refine EQ.code ?_
    refine WC.seq ?_
    refine WC.seq ?_
    refine WC.region ?_
    refine WL.p (.none rfl) rfl (OpP.move rfl) ?_
    refine WL.nil ?_
    refine EQ.sub ((Sub.cons (i := 1) rfl (Sub.cons (i := 2) rfl (Sub.cons (i := 3) rfl (Sub.cons (i := 15) rfl (Sub.nil _)))))) ?_
    refine EQ.code ?_
    refine WC.condF rfl ?_
    refine WC.skip ?_
    refine EQ.code ?_
    refine WC.seq ?_
    refine WC.region ?_
    refine WL.p (.none rfl) rfl (OpP.assign rfl) ?_
    refine WL.nil ?_
    refine EQ.sub ((Sub.cons (i := 1) rfl (Sub.cons (i := 2) rfl (Sub.cons (i := 3) rfl (Sub.cons (i := 6) rfl (Sub.nil _)))))) ?_
    refine EQ.code ?_
    refine WC.seq ?_
    refine WC.seq ?_
    refine WC.region ?_
    refine WL.p (.none rfl) rfl (OpP.load rfl ty_25 (Rd.own (by repeat (first | assumption | exact List.mem_cons_self | exact List.mem_of_getElem? (by assumption) | exact set_mem (by first | assumption | exact set_hit (by assumption)) | apply List.mem_cons_of_mem | apply List.mem_append_right)) (by rfl))) ?_
    refine WL.p (.none rfl) rfl (OpP.lenSl rfl Try.underlying25) ?_
    refine WL.p (.none rfl) rfl (OpP.move rfl) ?_
    refine WL.nil ?_
    refine EQ.sub ((Sub.cons (i := 2) rfl (Sub.cons (i := 3) rfl (Sub.cons (i := 6) rfl (Sub.cons (i := 16) rfl (Sub.cons (i := 17) rfl (Sub.cons (i := 18) rfl (Sub.nil _)))))))) ?_
    refine EQ.code ?_
    refine WC.block ?_
    refine WC.loop (σ := Nat × Value × Hp) (fun s => [(6, s.2.1), (16, .slice (some ⟨ob, o, none⟩) k c0), (17, .int .i64 (k : Int)), (18, .int .i64 (s.1 : Int))]) (fun s => s.2.2 ++ R) (fun s => s.1 ≤ k ∧ OwnS 5 1 s.2.1 ((List.range s.1).flatMap d).length (iv .u8 ((List.range s.1).flatMap d)) s.2.2) (fun s => k - s.1) (0, .slice none 0 0, []) ⟨Nat.zero_le _, OwnS.nil _ _⟩ ((Sub.cons rfl (Sub.cons rfl (Sub.cons rfl (Sub.cons rfl (Sub.nil _)))))) (fun _ h => h.drop.drop) (fun ⟨j, sv, sg⟩ hinv => ?_)
    (try simp only at hinv ⊢)
    obtain ⟨hjk, hown⟩ := hinv
    refine WC.seq ?_
    refine WC.region ?_
    refine WL.p (.none rfl) rfl (OpP.lss rfl rfl) ?_
    refine WL.nil ?_
    refine EQ.sub ((Sub.cons (i := 6) rfl (Sub.cons (i := 16) rfl (Sub.cons (i := 17) rfl (Sub.cons (i := 18) rfl (Sub.cons (i := 19) rfl (Sub.nil _))))))) ?_
    refine EQ.code ?_
    refine WC.seq ?_
    refine WC.cond rfl (fun hc2 => ?_) (fun hc2 => ?_)
    · -- cond 2 t
      (try simp only [decide_eq_true_eq, decide_eq_false_iff_not, Bool.not_eq_true', Bool.not_eq_false', Bool.or_eq_true, Bool.and_eq_true, Bool.or_eq_false_iff, Bool.and_eq_false_imp, Option.isNone_some, Bool.false_eq_true, false_or, true_and] at hc2)
      obtain ⟨pa, pc, hC, hpo, hps⟩ := hp j (by omega)
      have hCj : C[j]? = some (ptL id j k pa (d j).length pc) := by
        rw [List.getD_eq_getElem?_getD] at hC
        have hj2 : j < C.length := by omega
        rw [List.getElem?_eq_getElem hj2] at hC ⊢
        exact congrArg some hC
      have hcl := cat_len j (fun i hi => ptOk_len (hp i (by omega)).choose_spec.choose_spec.2.1)
      have hpl := ptOk_len hpo
      refine WC.skip ?_
      refine EQ.code ?_
      refine WC.seq ?_
      refine WC.block ?_
      refine WC.seq ?_
      refine WC.region ?_
      refine WL.p (.none rfl) rfl (OpP.indexSl rfl rfl el_25 (by omega) (by omega) (by simp)) ?_
      refine WL.p (.none rfl) rfl (OpP.loadSl (a := some ⟨ob, o, none⟩) (o := j * 4) (xs := C.flatten) (vs := ptL id j k pa (d j).length pc) rfl ty_35 (hsl.of (fun w h => h.sublist (List.sublist_append_right _ _))) (fun i v hv => flat_get hc4 j _ hCj i v hv) rfl (by simp)) ?_
      refine WL.allocX z_35 rfl (fun b8 => ?_)
      first | (refine WL.s (.none rfl) rfl (OpS.storeAll rfl rfl ty_35 (by repeat (first | assumption | exact at0 | exact set_hit (by first | assumption | exact set_hit (by assumption)) | apply ats)) (by rfl) (by rfl) (by rfl) (by rfl)) ?_) | (refine WL.s (.none rfl) rfl (OpS.store rfl rfl ty_35 (by repeat (first | assumption | exact at0 | exact set_hit (by first | assumption | exact set_hit (by assumption)) | apply ats)) (by rfl) (by rfl) (by rfl) (by rfl)) ?_)
      refine WL.nil ?_
      refine EQ.sub ((Sub.cons (i := 6) rfl (Sub.cons (i := 8) rfl (Sub.cons (i := 16) rfl (Sub.cons (i := 17) rfl (Sub.cons (i := 18) rfl (Sub.nil _))))))) ?_
      refine EQ.code ?_
      refine WC.region ?_
      refine WL.p (.none rfl) rfl (OpP.move rfl) ?_
      refine WL.p (.none rfl) rfl (OpP.fieldAddr rfl fld_35_3) ?_
      refine WL.p (.none rfl) rfl (OpP.load rfl ty_23 (Rd.own (by repeat (first | assumption | exact List.mem_cons_self | exact List.mem_of_getElem? (by assumption) | exact set_mem (by first | assumption | exact set_hit (by assumption)) | apply List.mem_cons_of_mem | apply List.mem_append_right)) (by rfl))) ?_
      refine WL.perm (H' := sg ++ ((b8, cl (ptL id j k pa (d j).length pc) 35) :: R)) List.perm_middle.symm ?_
      refine WL.append (seg := sg) (R := (b8, cl (ptL id j k pa (d j).length pc) 35) :: R) (news := iv .u8 (d j)) rfl (.none rfl) rfl sl_23 rfl rfl hown (hps.of (fun w h => h.sublist ((List.sublist_cons_self _ _).trans (List.sublist_append_right _ _)))) (by simp) iv_mem (by decide) (by simp only [maxLen]; omega) (by omega) (fun v25 sg2 hown3 _ => ?_)
      refine WL.p (.none rfl) rfl (OpP.assign rfl) ?_
      refine WL.nil ?_
      refine EQ.sub ((Sub.cons (i := 6) rfl (Sub.cons (i := 16) rfl (Sub.cons (i := 17) rfl (Sub.cons (i := 18) rfl (Sub.nil _)))))) ?_
      refine EQ.blockN ?_
      refine EQ.code ?_
      refine WC.region ?_
      first | (refine WL.p (.none rfl) rfl (OpP.add64 rfl rfl (by omega)) ?_) | (refine WL.p (.none rfl) rfl (OpP.add rfl rfl) ?_)
      refine WL.p (.none rfl) rfl (OpP.move rfl) ?_
      refine WL.nil ?_
      refine EQ.sub ((Sub.cons (i := 6) rfl (Sub.cons (i := 16) rfl (Sub.cons (i := 17) rfl (Sub.cons (i := 18) rfl (Sub.nil _)))))) ?_
      refine EQ.again (j + 1, v25, sg2) ?_ ?_ ?_ ?_
      · refine ⟨by (try simp only); omega, ?_⟩
        (try simp only)
        have e : (List.range (j + 1)).flatMap d = (List.range j).flatMap d ++ d j := by rw [List.range_succ, List.flatMap_append]; simp
        rw [e, List.length_append]
        simpa [iv] using hown3
      · (try simp only); omega
      · exact ((Sub.cons rfl (Sub.cons rfl (Sub.cons rfl (Sub.cons rfl (Sub.nil _))))))
      · intro w h; exact h.sublist (List.Sublist.append_left (List.sublist_cons_self _ _) sg2)
    · -- cond 2 f
      (try simp only [decide_eq_true_eq, decide_eq_false_iff_not, Bool.not_eq_true', Bool.not_eq_false', Bool.or_eq_true, Bool.and_eq_true, Bool.or_eq_false_iff, Bool.and_eq_false_imp, Option.isNone_some, Bool.false_eq_true, false_or, true_and] at hc2)
      have hjk2 : k = j := by omega
      subst hjk2
      obtain ⟨wa, wc, rfl, hwc, hwc2, hws⟩ := hown.val
      refine WC.exit ?_
      refine EQ.thenE ?_
      refine EQ.thenE ?_
      refine EQ.blockHit ?_
      refine EQ.code ?_
      refine WC.seq ?_
      refine WC.region ?_
      refine WL.p (.none rfl) rfl (OpP.move rfl) ?_
      refine WL.p (.none rfl) rfl (OpP.assign rfl) ?_
      refine WL.p (.none rfl) rfl (OpP.assign rfl) ?_
      refine WL.nil ?_
      refine EQ.sub ((Sub.cons (i := 2) rfl (Sub.cons (i := 3) rfl (Sub.nil _)))) ?_
      refine EQ.code ?_
      refine WC.ret ?_
      refine EQ.finD (H' := sg ++ R) (res2 rfl (.tmp rfl) (.tmp rfl)) (by intro _ h; first | exact h | exact h.drop | exact h.drop.drop | exact h.drop.drop.drop | exact h.drop.drop.drop.drop | exact h.drop.drop.drop.drop.drop | exact h.drop.drop.drop.drop.drop.drop | exact h.drop_mid) ?_
      exact ⟨wa, wc, sg, rfl, rfl, hown⟩

end Go.Proofs.Ytjdkohfgbekheaa
