/- Fsd: walks of functions of the program, each over the rules of Sx. No conditions but those in the theorems' heads. -/
import Derived.Test.YtmeimjpjelmchaaSk
import Derived.Test.YtmeimjpjelmchaaSxMore
import Derived.Test.YtmeimjpjelmchaaProg
set_option linter.unusedVariables false
set_option linter.unusedSimpArgs false
namespace Go.Proofs.Ytmeimjpjelmchaa
open Go.RowKit Go.Sx
namespace Fsd
theorem bld_34 : bldS Try.prog 34 = some ([(0, 1), (1, 1), (2, 1), (3, 32)], [.int .u64 0, .string ⟨#[]⟩, .int .i64 0, .int .u8 0, .int .u8 0, .int .u8 0, .int .u8 0, .int .u8 0, .int .u8 0, .int .u8 0, .int .u8 0, .int .u8 0, .int .u8 0, .int .u8 0, .int .u8 0, .int .u8 0, .int .u8 0, .int .u8 0, .int .u8 0, .int .u8 0, .int .u8 0, .int .u8 0, .int .u8 0, .int .u8 0, .int .u8 0, .int .u8 0, .int .u8 0, .int .u8 0, .int .u8 0, .int .u8 0, .int .u8 0, .int .u8 0, .int .u8 0, .int .u8 0, .int .u8 0]) := by kernel_rfl
theorem el_23 : elI Try.prog 23 = some (none, 5, false, 1) := by kernel_rfl
theorem el_80 : elI Try.prog 80 = some (some 64, 4, false, 1) := by kernel_rfl
theorem fld_38_0 : fldI Try.prog 38 0 = some (0, false, 1) := by kernel_rfl
theorem k_17 : Cal Try.prog 17 := ⟨_, _, Try.func17, by kernel_rfl, rfl⟩
theorem k_18 : Cal Try.prog 18 := ⟨_, _, Try.func18, by kernel_rfl, rfl⟩
theorem k_21 : Cal Try.prog 21 := ⟨_, _, Try.func21, by kernel_rfl, rfl⟩
theorem k_23 : Cal Try.prog 23 := ⟨_, _, Try.func23, by kernel_rfl, rfl⟩
theorem k_25 : Cal Try.prog 25 := ⟨_, _, Try.func25, by kernel_rfl, rfl⟩
theorem k_27 : Cal Try.prog 27 := ⟨_, _, Try.func27, by kernel_rfl, rfl⟩
theorem k_35 : Cal Try.prog 35 := ⟨_, _, Try.func35, by kernel_rfl, rfl⟩
theorem k_37 : Cal Try.prog 37 := ⟨_, _, Try.func37, by kernel_rfl, rfl⟩
theorem k_38 : Cal Try.prog 38 := ⟨_, _, Try.func38, by kernel_rfl, rfl⟩
theorem k_40 : Cal Try.prog 40 := ⟨_, _, Try.func40, by kernel_rfl, rfl⟩
theorem k_41 : Cal Try.prog 41 := ⟨_, _, Try.func41, by kernel_rfl, rfl⟩
theorem k_43 : Cal Try.prog 43 := ⟨_, _, Try.func43, by kernel_rfl, rfl⟩
theorem k_44 : Cal Try.prog 44 := ⟨_, _, Try.func44, by kernel_rfl, rfl⟩
theorem k_8 : Cal Try.prog 8 := ⟨_, _, Try.func8, by kernel_rfl, rfl⟩
theorem k_9 : Cal Try.prog 9 := ⟨_, _, Try.func9, by kernel_rfl, rfl⟩
theorem sl_23 : slI Try.prog 23 = some (5, 1, 1) := by kernel_rfl
theorem ty_3 : tyI Try.prog 3 = some (false, 1) := by kernel_rfl
theorem ty_38 : tyI Try.prog 38 = some (true, 2) := by kernel_rfl
theorem ty_4 : tyI Try.prog 4 = some (false, 1) := by kernel_rfl
theorem ty_5 : tyI Try.prog 5 = some (false, 1) := by kernel_rfl
theorem z_38 : zI Try.prog 38 = some [.int .i64 0, .int .u64 0] := by kernel_rfl
end Fsd
open Fsd

/-- A sender as it stands: what it holds and what it knows. -/
structure Sat (x : Snd) (m : Nat) (B : Int) (ba : Option Addr) (bc : Nat) : Prop where
  made : x.made = true
  gone : x.gone = false
  n : x.n = chunks m
  bits : x.bits = B
  size : x.size = m
  ba : x.ba = ba
  bl : x.bl = m
  bc : x.bc = bc
theorem Sat.at {x : Snd} {m : Nat} {B : Int} {ba : Option Addr} {bc : Nat} (h : Sat x m B ba bc) (p : Int) : Sat { x with pos := p } m B ba bc := ⟨h.made, h.gone, h.n, h.bits, h.size, h.ba, h.bl, h.bc⟩
theorem Sat.state {x : Snd} {m : Nat} {B : Int} {ba : Option Addr} {bc : Nat} (h : Sat x m B ba bc) (hr : mRight (chunks m) B = true) (hB : 0 ≤ B) (hM : missL (chunks m) B ≠ []) : x.state = 0 := by
  have : B ≠ mAll (chunks m) := fun e => by
    have h1 := (full_iff hr hB).2 e
    have h2 := missL_len hr hB
    exact hM (List.length_eq_zero_iff.1 (by omega))
  unfold Snd.state Snd.full
  rw [h.made, h.gone, h.n, h.bits, hr]
  simp [this]
theorem Sat.next {x : Snd} {m : Nat} {B : Int} {ba : Option Addr} {bc : Nat} (h : Sat x m B ba bc) (hr : mRight (chunks m) B = true) (hB : 0 ≤ B) (hM : missL (chunks m) B ≠ []) : x.next = nextOf (missL (chunks m) B) x.pos := by
  unfold Snd.next
  rw [if_pos ⟨h.made, h.state hr hB hM⟩, h.n, h.bits]
theorem Sat.left {x : Snd} {m : Nat} {B : Int} {ba : Option Addr} {bc : Nat} (h : Sat x m B ba bc) (hr : mRight (chunks m) B = true) (hB : 0 ≤ B) : x.left = ((missL (chunks m) B).length : Int) := by
  unfold Snd.left
  rw [h.gone, h.n, h.bits, hr, missL_len hr hB]
  simp
theorem right_all {n : Int} (h : 0 ≤ n) (h2 : n ≤ 64) : mRight n (mAll n) = true := by
  have : mAll n < 2 ^ n.toNat := by unfold mAll; omega
  simp [mRight, h, h2, this]
theorem mAll_lo (n : Int) : 0 ≤ mAll n := by
  unfold mAll
  have hc : ((2 ^ n.toNat : Nat) : Int) = (2 : Int) ^ n.toNat := by push_cast; rfl
  have := Nat.two_pow_pos n.toNat
  omega
theorem mAll_hi {n : Int} (h : n ≤ 64) : mAll n < 18446744073709551616 := by
  unfold mAll
  have hc : ((2 ^ n.toNat : Nat) : Int) = (2 : Int) ^ n.toNat := by push_cast; rfl
  have hv : (2 : Nat) ^ 64 = 18446744073709551616 := by decide
  have := Nat.pow_le_pow_right (n := 2) (by omega) (show n.toNat ≤ 64 by omega)
  omega
theorem Sat.done {x : Snd} {m : Nat} {ba : Option Addr} {bc : Nat} (h : Sat x m (mAll (chunks m)) ba bc) : x.state = 2 ∧ x.next = -1 ∧ x.left = 0 := by
  have hch := chunks_bd m
  have hr := right_all hch.1 hch.2
  have h1 : x.state = 2 := by
    unfold Snd.state Snd.full
    rw [h.made, h.gone, h.n, h.bits, hr]
    simp
  refine ⟨h1, ?_, ?_⟩
  · unfold Snd.next; rw [if_neg (by rw [h1]; simp)]
  · rw [h.left hr (mAll_lo _), missL_len hr (mAll_lo _)]
    have := (full_iff hr (mAll_lo _)).2 rfl
    omega
theorem orz {b : Int} (h : 0 ≤ b) (h2 : b < 18446744073709551616) : Go.bits .or .u64 0 b = b := by
  rw [u64_or 0 b (by omega) (by omega) h h2]
  simp; omega
theorem or_all {n B : Int} (hr : mRight n B = true) (hB : 0 ≤ B) : Go.bits .or .u64 B (mAll n) = mAll n := by
  have h3 := mRight_spec hr
  have hc : ((2 ^ n.toNat : Nat) : Int) = (2 : Int) ^ n.toNat := by push_cast; rfl
  have hp := Nat.two_pow_pos n.toNat
  have hp64 : 2 ^ n.toNat ≤ 2 ^ 64 := Nat.pow_le_pow_right (by omega) (by omega)
  have hv : (2 : Nat) ^ 64 = 18446744073709551616 := by decide
  have ha : mAll n = ((2 ^ n.toNat - 1 : Nat) : Int) := by unfold mAll; omega
  rw [u64_or B (mAll n) hB (by omega) (mAll_lo n) (by omega), ha, Int.toNat_natCast]
  congr 1
  apply Nat.eq_of_testBit_eq
  intro i
  rw [Nat.testBit_or, Nat.testBit_two_pow_sub_one]
  by_cases hi : i < n.toNat
  · simp [hi]
  · have : B.toNat.testBit i = false := Nat.testBit_lt_two_pow (Nat.lt_of_lt_of_le (show B.toNat < 2 ^ n.toNat by omega) (Nat.pow_le_pow_right (by omega) (by omega)))
    simp [this, hi]
theorem Sat.ask {x : Snd} {m : Nat} {B b : Int} {ba : Option Addr} {bc : Nat} (h : Sat x m B ba bc) (hr : mRight (chunks m) b = true) : x.ask (chunks m) b = 0 := by
  rw [ask_ok h.made, if_pos ⟨hr, h.n.symm⟩, h.gone]; rfl
theorem Sat.know {x : Snd} {m : Nat} {B b : Int} {ba : Option Addr} {bc : Nat} (h : Sat x m B ba bc) (hr : mRight (chunks m) b = true) : Sat (x.know (chunks m) b) m (Go.bits .or .u64 B b) ba bc := by
  unfold Snd.know
  rw [if_pos (h.ask hr)]
  exact ⟨h.made, h.gone, h.n, by rw [← h.bits], h.size, h.ba, h.bl, h.bc⟩
/-- What it knows once it was told a map for the first time. -/
theorem first_know {x : Snd} {m : Nat} {ba : Option Addr} {bc : Nat} {n b : Int} (h : Sat x m 0 ba bc) (hb : 0 ≤ b) (hb2 : b < 18446744073709551616) :
    ∃ B, Sat (x.know n b) m B ba bc ∧ mRight (chunks m) B = true ∧ 0 ≤ B ∧ B < 18446744073709551616 ∧ (x.ask n b = 0 → n = chunks m ∧ B = b) ∧ (x.ask n b ≠ 0 → B = 0) := by
  have hch := chunks_bd m
  by_cases he : x.ask n b = 0
  · obtain ⟨h1, h2, _, _⟩ := ask_zero he
    rw [h.n] at h2
    subst h2
    have := h.know h1
    rw [orz hb hb2] at this
    exact ⟨b, this, h1, hb, hb2, fun _ => ⟨rfl, rfl⟩, fun hh => absurd he hh⟩
  · refine ⟨0, ?_, right_zero hch.1 hch.2, by omega, by omega, fun hh => absurd hh he, fun _ => rfl⟩
    unfold Snd.know; rw [if_neg he]; exact h
theorem has_zero (n : Int) (j : Nat) : mHas n 0 j = false := by
  have : mBit 0 (j : Int) = false := by have := mBit_nat 0 j; simpa using this
  simp [mHas, this]
theorem mem_miss {n B : Int} {q : Nat} : q ∈ missL n B ↔ q < n.toNat ∧ mHas n B q = false := by
  unfold missL missTo; simp
theorem rot_perm (M : List Nat) (f : Int) : (rot M f).Perm M := List.filter_append_perm _ M
theorem rot_mem {M : List Nat} {f : Int} {k : Nat} (hk : k < M.length) : (rot M f).getD k 0 ∈ M := by
  have hl := rot_length M f
  refine (rot_perm M f).mem_iff.1 ?_
  rw [List.getD_eq_getElem?_getD, List.getElem?_eq_getElem (by omega)]
  exact List.getElem_mem _
theorem rot_inj {M : List Nat} (hs : M.Pairwise (· < ·)) {f : Int} {i k : Nat} (hik : i < k) (hk : k < M.length) : (rot M f).getD i 0 ≠ (rot M f).getD k 0 := by
  have hl := rot_length M f
  have hn : (rot M f).Nodup := (rot_perm M f).nodup_iff.2 (hs.imp (fun h => Nat.ne_of_lt h))
  rw [List.getD_eq_getElem?_getD, List.getD_eq_getElem?_getD, List.getElem?_eq_getElem (by omega), List.getElem?_eq_getElem (by omega)]
  exact List.pairwise_iff_getElem.1 hn i k (by omega) (by omega) hik
theorem rot_all {M : List Nat} (f : Int) {q : Nat} (hq : q ∈ M) : ∃ i, i < M.length ∧ (rot M f).getD i 0 = q := by
  have hl := rot_length M f
  obtain ⟨i, hi, rfl⟩ := List.mem_iff_getElem.1 ((rot_perm M f).mem_iff.2 hq)
  exact ⟨i, by omega, by rw [List.getD_eq_getElem?_getD, List.getElem?_eq_getElem hi]; rfl⟩
theorem mask_all {F : FileM} (h : ∀ q : Nat, (q : Int) < chunks F.size → F.snd (q : Int) = true) : ((F.mask : Nat) : Int) = mAll (chunks F.size) := by
  have hch := chunks_bd F.size
  have hr : mRight (chunks F.size) ((F.mask : Nat) : Int) = true := by
    unfold FileM.mask
    exact maskN_right (fun i => F.snd (i : Int)) (n := chunks F.size) (k := (chunks F.size).toNat) hch.1 hch.2 (by omega)
  have hc := count_mask F
  rw [if_pos hr] at hc
  rw [List.filter_eq_self.2 (fun a ha => h a (by simp at ha; omega)), List.length_range] at hc
  exact (full_iff hr (by omega)).1 (by omega)
theorem rep_false (n j : Nat) : (List.replicate n false).getD j false = false := by
  rw [List.getD_eq_getElem?_getD, List.getElem?_replicate]
  split <;> rfl
theorem bva_get {W0 : World} {H : Hp} {b : Nat} {l : List Bool} {T : TypeId} {v : Bool} (h : (b, cl (bv l) T) ∈ H) (k : Nat) (hk : k < l.length) (hv : l.getD k false = v) : Rd W0 H ⟨b, 0 + ((k : Nat) : Int).toNat * 1, none⟩ (.bool v) := by
  refine Rd.own h ?_
  subst hv
  rw [show 0 + ((k : Nat) : Int).toNat * 1 = k by omega]
  simp [bv, List.getD_eq_getElem?_getD, hk]
/-- Next, whatever it tells: it moves its place and no more. -/
theorem Next_any {W0 : World} {H : Hp} {g i m : Nat} {x : Snd} {B : Int} {ba : Option Addr} {bc : Nat} {l : List Int} (hi : H[i]? = some (g, x.obj)) (h : Sat x m B ba bc) (hr : mRight (chunks m) B = true) (hB : 0 ≤ B) (hB2 : B < 18446744073709551616)
    (hl : l.length = m) (hbc : m ≤ bc) (hbc2 : bc ≤ 9223372036854775807) (hbody : ∀ o, Sl W0 (H.set i (g, o)) ba (iv .u8 l)) :
    CxX Try.prog W0 17 #[.pointer (some ⟨g, 0, none⟩)] H (fun v H' => ∃ ds p, H' = ds ++ H.set i (g, { x with pos := p }.obj)) :=
  CxX.to (Next_c (bd := l) hi (by rw [h.bits]; exact hB) (by rw [h.bits]; exact hB2) (by rw [h.n, h.bits]; exact hr) (by rw [h.bl]; exact hl) (by rw [h.size, h.bl]) (by rw [h.n, h.size]) (by rw [h.bl, h.bc]; exact hbc) (by rw [h.bc]; exact hbc2) (by rw [h.ba]; exact hbody)) (fun v H' hR => by
    split at hR
    · obtain ⟨_, rfl⟩ := hR
      exact ⟨[], x.pos, by rw [set_self hi]; rfl⟩
    · obtain ⟨ds, pa, pc, _, rfl, _⟩ := hR
      exact ⟨ds, _, rfl⟩)
/-- Next where something is missing. -/
theorem Next_miss {W0 : World} {H : Hp} {g i m : Nat} {x : Snd} {B : Int} {ba : Option Addr} {bc : Nat} {l : List Int} (hi : H[i]? = some (g, x.obj)) (h : Sat x m B ba bc) (hr : mRight (chunks m) B = true) (hB : 0 ≤ B) (hB2 : B < 18446744073709551616)
    (hl : l.length = m) (hbc : m ≤ bc) (hbc2 : bc ≤ 9223372036854775807) (hbody : ∀ o, Sl W0 (H.set i (g, o)) ba (iv .u8 l)) {q : Nat} (hq : x.next = (q : Int)) (hqn : (q : Int) < chunks m) :
    CxX Try.prog W0 17 #[.pointer (some ⟨g, 0, none⟩)] H (fun v H' => ∃ ds pa pc, v = .tuple #[.int .i64 (q : Int), .slice pa (chunkB l (q : Int)).length pc, .bool true] ∧ H' = ds ++ H.set i (g, { x with pos := (q : Int) + 1 }.obj) ∧ ∀ W R, Sl W (ds ++ R) pa (iv .u8 (chunkB l (q : Int)))) :=
  CxX.to (Next_c (bd := l) hi (by rw [h.bits]; exact hB) (by rw [h.bits]; exact hB2) (by rw [h.n, h.bits]; exact hr) (by rw [h.bl]; exact hl) (by rw [h.size, h.bl]) (by rw [h.n, h.size]) (by rw [h.bl, h.bc]; exact hbc) (by rw [h.bc]; exact hbc2) (by rw [h.ba]; exact hbody)) (fun v H' hR => by
    rw [if_neg (by omega)] at hR
    obtain ⟨ds, pa, pc, rfl, rfl, hown⟩ := hR
    have hlen := chunkB_len (b := l) (i := (q : Int)) (by omega) (by rw [hl]; exact hqn)
    have he : (l.drop (x.next * 64).toNat).take (lengthAt x.size x.next).toNat = chunkB l (q : Int) := by
      unfold chunkB; rw [hq, h.size, hl, Int.mul_comm]
    rw [he] at hown
    obtain ⟨a', c', hv, _, _, hs⟩ := hown.val
    cases hv
    refine ⟨ds, pa, pc, ?_, by rw [hq], hs⟩
    rw [hlen, hl, hq, h.size])
theorem Next_done {W0 : World} {H : Hp} {g i m : Nat} {x : Snd} {ba : Option Addr} {bc : Nat} {l : List Int} (hi : H[i]? = some (g, x.obj)) (h : Sat x m (mAll (chunks m)) ba bc) (hB2 : mAll (chunks m) < 18446744073709551616)
    (hl : l.length = m) (hbc : m ≤ bc) (hbc2 : bc ≤ 9223372036854775807) (hbody : ∀ o, Sl W0 (H.set i (g, o)) ba (iv .u8 l)) :
    CxD Try.prog W0 17 #[.pointer (some ⟨g, 0, none⟩)] H (.tuple #[.int .i64 0, .slice none 0 0, .bool false]) H :=
  fun w hS => (Next_c (bd := l) hi (by rw [h.bits]; exact mAll_lo _) (by rw [h.bits]; exact hB2) (by rw [h.n, h.bits]; exact right_all (chunks_bd m).1 (chunks_bd m).2) (by rw [h.bl]; exact hl) (by rw [h.size, h.bl]) (by rw [h.n, h.size]) (by rw [h.bl, h.bc]; exact hbc) (by rw [h.bc]; exact hbc2) (by rw [h.ba]; exact hbody) w hS).mono fun _ _ ⟨v, H', he, hR, hS'⟩ => by
    have hR := hR
    simp only [] at hR
    rw [if_pos (by rw [h.done.2.1]; omega)] at hR
    obtain ⟨rfl, rfl⟩ := hR
    exact ⟨_, _, he, ⟨rfl, rfl⟩, hS'⟩

theorem look_put_some {F : FileM} {i : Int} {l : List Int} {j : Int} (h : j = i ∨ (F.look j).isSome = true) : ((F.put i l).look j).isSome = true := by
  rw [look_put]
  split
  · rfl
  · rename_i hne; exact h.resolve_left hne

set_option maxRecDepth 100000 in
set_option maxHeartbeats 1000000 in
theorem FileSends_c {W0 : World} {H : Hp} {a : Option Addr} {cp : Nat} {l : List Int} {n b : Int} {kk : Nat} (hc : l.length ≤ cp) (hcp : cp ≤ 9223372036854775807) (hB : IsB l) (hsl : ∀ R, Sl W0 R a (iv .u8 l)) (hb : 0 ≤ b) (hb2 : b < 18446744073709551616) (hkk : kk < 256) :
    CxD Try.prog W0 7 #[.slice a l.length cp, mv n b, .int .u8 (kk : Int)] H (.bool true) H := by
  have hch := chunks_bd l.length
  refine enter Try.func7 rfl Try.ntmps7 rfl ?_
  refine WC.seq ?_
  refine WC.region ?_
  refine WL.box rfl rfl rfl (fun b4 => ?_)
  refine WL.p (.none rfl) rfl (OpP.assign rfl) ?_
  refine WL.nil ?_
  refine EQ.sub ((Sub.cons (i := 0) rfl (Sub.cons (i := 2) rfl (Sub.cons (i := 4) rfl (Sub.cons (i := 6) rfl (Sub.nil _)))))) ?_
  refine EQ.code ?_
  refine WC.seq ?_
  refine WC.seq ?_
  refine WC.region ?_
  refine WL.p (.none rfl) rfl (OpP.move rfl) ?_
  refine WL.p (.none rfl) rfl (OpP.lenSl rfl Try.underlying23) ?_
  refine WL.p (.none rfl) rfl (OpP.gtr rfl rfl) ?_
  refine WL.nil ?_
  refine EQ.sub ((Sub.cons (i := 0) rfl (Sub.cons (i := 2) rfl (Sub.cons (i := 4) rfl (Sub.cons (i := 6) rfl (Sub.cons (i := 29) rfl (Sub.nil _))))))) ?_
  refine EQ.code ?_
  refine WC.cond rfl (fun hc0 => ?_) (fun hc0 => ?_)
  · -- cond 0 t
    (try simp only [decide_eq_true_eq, decide_eq_false_iff_not, Bool.not_eq_true', Bool.not_eq_false', Bool.or_eq_true, Bool.and_eq_true, Bool.or_eq_false_iff, Bool.and_eq_false_imp, Option.isNone_some, Bool.false_eq_true, false_or, true_and] at hc0)
    refine WC.seq ?_
    refine WC.region ?_
    refine WL.callD rfl (.none rfl) rfl k_8 rfl (alive_c) ?_
    refine WL.p (.none rfl) rfl (OpP.assign rfl) ?_
    refine WL.nil ?_
    refine EQ.sub ((Sub.cons (i := 0) rfl (Sub.cons (i := 2) rfl (Sub.cons (i := 4) rfl (Sub.cons (i := 6) rfl (Sub.nil _)))))) ?_
    refine EQ.code ?_
    refine WC.ret ?_
    refine EQ.thenR ?_
    refine EQ.finD (H' := H) (res1 rfl (.tmp rfl)) (by intro _ h; first | exact h | exact h.sublist (by repeat (first | exact List.Sublist.refl _ | exact List.sublist_append_right _ _ | apply List.Sublist.cons | refine List.Sublist.trans ?_ (List.sublist_append_right _ _)))) ?_
    exact ⟨rfl, rfl⟩
  · -- cond 0 f
    (try simp only [decide_eq_true_eq, decide_eq_false_iff_not, Bool.not_eq_true', Bool.not_eq_false', Bool.or_eq_true, Bool.and_eq_true, Bool.or_eq_false_iff, Bool.and_eq_false_imp, Option.isNone_some, Bool.false_eq_true, false_or, true_and] at hc0)
    have hl4 : l.length ≤ 4096 := by omega
    have hok : infoOk 5 ⟨#[110]⟩ (l.length : Int) = true := by unfold infoOk; rw [decide_eq_true (show (0 : Int) ≤ l.length by omega), decide_eq_true (show (l.length : Int) ≤ 4096 by omega)]; decide +kernel
    refine WC.skip ?_
    refine EQ.code ?_
    refine WC.seq ?_
    refine WC.region ?_
    refine WL.p (.none rfl) rfl (OpP.move rfl) ?_
    refine WL.call rfl (.none rfl) rfl k_9 rfl (FNew_c (l := l) rfl (by omega) hc (hsl _)) ?_
    rintro _ _ hnew
    rw [if_pos hok] at hnew
    obtain ⟨sg, dsb, ba, bc, rfl, rfl, hown⟩ := hnew
    obtain ⟨ba1, bc1, hbe, hbc, hbc2, hxs⟩ := hown.val
    cases hbe
    simp only [maxLen] at hbc2
    obtain ⟨X, hX⟩ : ∃ X : FileM, X = { id := 5, nm := ⟨#[110]⟩, size := l.length, sum := sumF l, ch := [] } := ⟨_, rfl⟩
    generalize hx : newSnd 5 _ l.length (sumF l) ba bc = x0
    have hsx0 : Sat x0 l.length 0 ba bc := by subst hx; exact ⟨rfl, rfl, rfl, rfl, rfl, rfl, rfl, rfl⟩
    have hinf : infoV x0.id x0.name x0.size x0.sum = .agg ⟨infoL X⟩ := by subst hx hX; rfl
    have hXid : X.id = 5 := by subst hX; rfl
    have hXn : X.nm = ⟨#[110]⟩ := by subst hX; rfl
    have hXs : X.size = l.length := by subst hX; rfl
    have hXsum : X.sum = sumF l := by subst hX; rfl
    clear hx hX
    refine WL.p (.none rfl) rfl (OpP.move rfl) ?_
    refine WL.p (.none rfl) rfl (OpP.extract rfl rfl) ?_
    refine WL.p (.none rfl) rfl (OpP.extract rfl rfl) ?_
    refine WL.p (.none rfl) rfl (OpP.assign rfl) ?_
    refine WL.p (.none rfl) rfl (OpP.assign rfl) ?_
    refine WL.nil ?_
    refine EQ.sub ((Sub.cons (i := 0) rfl (Sub.cons (i := 2) rfl (Sub.cons (i := 4) rfl (Sub.cons (i := 6) rfl (Sub.cons (i := 7) rfl (Sub.cons (i := 8) rfl (Sub.nil _)))))))) ?_
    refine EQ.code ?_
    refine WC.seq ?_
    refine WC.seq ?_
    refine WC.region ?_
    refine WL.p (.none rfl) rfl (OpP.move rfl) ?_
    refine WL.p (.none rfl) rfl (OpP.neqI rfl rfl) ?_
    refine WL.p (.none rfl) rfl (OpP.move rfl) ?_
    refine WL.g (.bool rfl rfl rfl) rfl (fun hg => OpP.move rfl) ?_
    refine WL.g (.bool rfl rfl rfl) rfl (fun hg => OpP.eqlNil (gk hg rfl) rfl Try.underlying26) ?_
    refine WL.p (.none rfl) rfl (OpP.por rfl rfl rfl) ?_
    refine WL.nil ?_
    refine EQ.sub ((Sub.cons (i := 0) rfl (Sub.cons (i := 2) rfl (Sub.cons (i := 4) rfl (Sub.cons (i := 6) rfl (Sub.cons (i := 7) rfl (Sub.cons (i := 41) rfl (Sub.nil _)))))))) ?_
    refine EQ.code ?_
    refine WC.cond rfl (fun hc1 => ?_) (fun hc1 => ?_)
    · -- cond 1 t
      (try simp only [decide_eq_true_eq, decide_eq_false_iff_not, Bool.not_eq_true', Bool.not_eq_false', Bool.or_eq_true, Bool.and_eq_true, Bool.or_eq_false_iff, Bool.and_eq_false_imp, Option.isNone_some, Bool.false_eq_true, false_or, true_and] at hc1)
      exfalso; simp at hc1
    · -- cond 1 f
      (try simp only [decide_eq_true_eq, decide_eq_false_iff_not, Bool.not_eq_true', Bool.not_eq_false', Bool.or_eq_true, Bool.and_eq_true, Bool.or_eq_false_iff, Bool.and_eq_false_imp, Option.isNone_some, Bool.false_eq_true, false_or, true_and] at hc1)
      refine WC.skip ?_
      refine EQ.code ?_
      refine WC.seq ?_
      refine WC.region ?_
      refine WL.call rfl (.none rfl) rfl k_37 rfl (sNew_c) ?_
      rintro _ _ ⟨g, ds0, rfl, rfl, hs0⟩
      refine WL.perm (H' := (sg, x0.obj) :: (ds0 ++ (dsb ++ (b4, cl [.int .i64 n, .int .u64 b] 38) :: H))) List.perm_middle ?_
      refine WL.p (.none rfl) rfl (OpP.assign rfl) ?_
      refine WL.nil ?_
      refine EQ.sub ((Sub.cons (i := 0) rfl (Sub.cons (i := 2) rfl (Sub.cons (i := 4) rfl (Sub.cons (i := 6) rfl (Sub.cons (i := 7) rfl (Sub.cons (i := 9) rfl (Sub.nil _)))))))) ?_
      refine EQ.code ?_
      refine WC.seq ?_
      refine WC.seq ?_
      refine WC.region ?_
      refine WL.p (.none rfl) rfl (OpP.move rfl) ?_
      refine WL.p (.none rfl) rfl (OpP.move rfl) ?_
      refine WL.callD rfl (.none rfl) rfl k_27 rfl (CxD.to (Info_c at0) hinf rfl) ?_
      refine WL.call rfl (.none rfl) rfl k_38 rfl (CxX.pre (List.perm_append_comm_assoc [_] ds0 _) (Open2_new (X := X) hs0 (by rw [hXid, hXn, hXs]; exact hok) rfl (by decide))) ?_
      rintro _ _ ⟨rfl, ds1, rfl, hs1⟩
      rw [show chunks X.size = chunks (l.length : Int) by rw [hXs]]
      obtain ⟨B, hx1, hrB, hB0, hB1, hkn, hkn0⟩ := first_know (n := n) hsx0 hb hb2
      obtain ⟨x1, hkx⟩ : ∃ x1, x1 = x0.know n b := ⟨_, rfl⟩
      rw [← hkx] at hx1
      refine WL.p (.none rfl) rfl (OpP.move rfl) ?_
      refine WL.p (.none rfl) rfl (OpP.extract rfl rfl) ?_
      refine WL.p (.none rfl) rfl (OpP.extract rfl rfl) ?_
      refine WL.allocX z_38 rfl (fun b10 => ?_)
      first | (refine WL.s (.none rfl) rfl (OpS.storeAll rfl rfl ty_38 (by repeat (first | assumption | exact at0 | exact set_hit (by first | assumption | exact set_hit (by assumption)) | apply ats)) (by rfl) (by rfl) (by rfl) (by rfl)) ?_) | (refine WL.s (.none rfl) rfl (OpS.store rfl rfl ty_38 (by repeat (first | assumption | exact at0 | exact set_hit (by first | assumption | exact set_hit (by assumption)) | apply ats)) (by rfl) (by rfl) (by rfl) (by rfl)) ?_)
      refine WL.p (.none rfl) rfl (OpP.assign rfl) ?_
      refine WL.nil ?_
      refine EQ.sub ((Sub.cons (i := 0) rfl (Sub.cons (i := 2) rfl (Sub.cons (i := 4) rfl (Sub.cons (i := 6) rfl (Sub.cons (i := 7) rfl (Sub.cons (i := 9) rfl (Sub.cons (i := 11) rfl (Sub.nil _))))))))) ?_
      refine EQ.code ?_
      refine WC.seq ?_
      refine WC.region ?_
      refine WL.p (.none rfl) rfl (OpP.move rfl) ?_
      refine WL.p (.none rfl) rfl (OpP.neqI rfl rfl) ?_
      refine WL.nil ?_
      refine EQ.sub ((Sub.cons (i := 0) rfl (Sub.cons (i := 2) rfl (Sub.cons (i := 4) rfl (Sub.cons (i := 6) rfl (Sub.cons (i := 7) rfl (Sub.cons (i := 9) rfl (Sub.cons (i := 51) rfl (Sub.nil _))))))))) ?_
      refine EQ.code ?_
      refine WC.condF rfl ?_
      refine WC.skip ?_
      refine EQ.code ?_
      refine WC.join (σ := FileM × Hp) (fun s => [(0, .slice a l.length cp), (2, .int .u8 (kk : Int)), (7, .pointer (some ⟨sg, 0, none⟩)), (9, .pointer (some ⟨g, 0, none⟩))]) (fun s => (sg, x1.obj) :: (s.2 ++ (dsb ++ (b4, cl [.int .i64 n, .int .u64 b] 38) :: H))) (fun s => SR [s.1] g s.2 ∧ Good s.1 l ∧ s.1.id = 5 ∧ s.1.sum = sumF l ∧ ∀ j : Nat, mHas (chunks (l.length : Int)) B j = true → (s.1.look (j : Int)).isSome = true) ?_ (fun ⟨F, ds⟩ hinv => ?_)
      · -- join 16 0
        refine WC.seq ?_
        refine WC.region ?_
        refine WL.perm (List.Perm.cons _ List.perm_middle) ?_
        refine WL.p (.none rfl) rfl (OpP.move rfl) ?_
        refine WL.p (.none rfl) rfl (OpP.loadB rfl ty_38 (by repeat (first | assumption | exact List.mem_cons_self | exact List.mem_of_getElem? (by assumption) | exact set_mem (by first | assumption | exact set_hit (by assumption)) | apply List.mem_cons_of_mem | apply List.mem_append_right)) (by rfl)) ?_
        refine WL.callD rfl (.none rfl) rfl k_18 rfl (CxD.to (H2 := (b10, cl [.int .i64 (chunks (l.length : Int)), .int .u64 0] 38) :: (sg, x1.obj) :: (ds1 ++ (dsb ++ (b4, cl [.int .i64 n, .int .u64 b] 38) :: H))) (Know2_c (i := 1) rfl (by rw [hsx0.bits]; decide) (by rw [hsx0.bits]; decide) hb hb2 (by rw [hsx0.n, hsx0.bits]; exact right_zero hch.1 hch.2)) rfl (by rw [hkx]; rfl)) ?_
        refine WL.p (.none rfl) rfl (OpP.eqlI rfl rfl) ?_
        refine WL.nil ?_
        refine EQ.sub ((Sub.cons (i := 0) rfl (Sub.cons (i := 2) rfl (Sub.cons (i := 4) rfl (Sub.cons (i := 6) rfl (Sub.cons (i := 7) rfl (Sub.cons (i := 9) rfl (Sub.cons (i := 55) rfl (Sub.nil _))))))))) ?_
        refine EQ.code ?_
        refine WC.cond rfl (fun hc3 => ?_) (fun hc3 => ?_)
        · -- cond 3 t
          (try simp only [decide_eq_true_eq, decide_eq_false_iff_not, Bool.not_eq_true', Bool.not_eq_false', Bool.or_eq_true, Bool.and_eq_true, Bool.or_eq_false_iff, Bool.and_eq_false_imp, Option.isNone_some, Bool.false_eq_true, false_or, true_and] at hc3)
          obtain ⟨hnc, hBb⟩ := hkn hc3
          refine WC.seq ?_
          refine WC.region ?_
          refine WL.p (.none rfl) rfl (OpP.assign rfl) ?_
          refine WL.nil ?_
          refine EQ.sub ((Sub.cons (i := 0) rfl (Sub.cons (i := 2) rfl (Sub.cons (i := 4) rfl (Sub.cons (i := 6) rfl (Sub.cons (i := 7) rfl (Sub.cons (i := 9) rfl (Sub.cons (i := 12) rfl (Sub.nil _))))))))) ?_
          refine EQ.code ?_
          refine WC.block ?_
          refine WC.loop (σ := Nat × FileM × Hp) (fun s => [(0, .slice a l.length cp), (2, .int .u8 (kk : Int)), (4, .pointer (some ⟨b4, 0, none⟩)), (7, .pointer (some ⟨sg, 0, none⟩)), (9, .pointer (some ⟨g, 0, none⟩)), (12, .int .i64 (s.1 : Int))]) (fun s => (b10, cl [.int .i64 (chunks (l.length : Int)), .int .u64 0] 38) :: (sg, x1.obj) :: (s.2.2 ++ (dsb ++ (b4, cl [.int .i64 n, .int .u64 b] 38) :: H))) (fun s => (s.1 : Int) ≤ chunks (l.length : Int) ∧ SR [s.2.1] g s.2.2 ∧ Good s.2.1 l ∧ s.2.1.id = 5 ∧ s.2.1.sum = sumF l ∧ ∀ j : Nat, j < s.1 → mHas (chunks (l.length : Int)) b j = true → (s.2.1.look (j : Int)).isSome = true) (fun s => 64 - s.1) (0, fresh X, ds1) ⟨by omega, hs1, good_fresh hXs, hXid, hXsum, fun j hj => by omega⟩ ((Sub.cons rfl (Sub.cons rfl (Sub.cons rfl (Sub.cons rfl (Sub.cons rfl (Sub.cons rfl (Sub.nil _)))))))) (fun _ h => h) (fun ⟨k, F, ds⟩ hinv => ?_)
          (try simp only at hinv ⊢)
          obtain ⟨hk, hs, hgood, hid, hsum, hcov⟩ := hinv
          refine WC.seq ?_
          refine WC.seq ?_
          refine WC.region ?_
          refine WL.p (.none rfl) rfl (OpP.move rfl) ?_
          refine WL.p (.none rfl) rfl (OpP.fieldAddr rfl fld_38_0) ?_
          refine WL.p (.none rfl) rfl (OpP.load rfl ty_3 (Rd.own (by repeat (first | assumption | exact List.mem_cons_self | exact List.mem_of_getElem? (by assumption) | exact set_mem (by first | assumption | exact set_hit (by assumption)) | apply List.mem_cons_of_mem | apply List.mem_append_right)) (by rfl))) ?_
          refine WL.p (.none rfl) rfl (OpP.lss rfl rfl) ?_
          refine WL.nil ?_
          refine EQ.sub ((Sub.cons (i := 0) rfl (Sub.cons (i := 2) rfl (Sub.cons (i := 4) rfl (Sub.cons (i := 7) rfl (Sub.cons (i := 9) rfl (Sub.cons (i := 12) rfl (Sub.cons (i := 59) rfl (Sub.nil _))))))))) ?_
          refine EQ.code ?_
          refine WC.cond rfl (fun hc4 => ?_) (fun hc4 => ?_)
          · -- cond 4 t
            (try simp only [decide_eq_true_eq, decide_eq_false_iff_not, Bool.not_eq_true', Bool.not_eq_false', Bool.or_eq_true, Bool.and_eq_true, Bool.or_eq_false_iff, Bool.and_eq_false_imp, Option.isNone_some, Bool.false_eq_true, false_or, true_and] at hc4)
            have hla := lengthAt_bd (n := (l.length : Int)) (i := (k : Int)) (by omega) (by omega)
            refine WC.skip ?_
            refine EQ.code ?_
            refine WC.seq ?_
            refine WC.block ?_
            refine WC.seq ?_
            refine WC.region ?_
            refine WL.p (.none rfl) rfl (OpP.loadB rfl ty_38 (by repeat (first | assumption | exact List.mem_cons_self | exact List.mem_of_getElem? (by assumption) | exact set_mem (by first | assumption | exact set_hit (by assumption)) | apply List.mem_cons_of_mem | apply List.mem_append_right)) (by rfl)) ?_
            refine WL.p (.none rfl) rfl (OpP.move rfl) ?_
            refine WL.callD rfl (.none rfl) rfl k_44 rfl (Has_c hb hb2 (by omega) (by omega)) ?_
            refine WL.p (.none rfl) rfl (OpP.move rfl) ?_
            refine WL.g (.bool rfl rfl rfl) rfl (fun hg => OpP.move rfl) ?_
            refine WL.g (.bool rfl rfl rfl) rfl (fun hg => OpP.move rfl) ?_
            refine WL.g (.bool rfl rfl rfl) rfl (fun hg => OpP.move rfl) ?_
            refine WL.g (.bool rfl rfl rfl) rfl (fun hg => OpP.move rfl) ?_
            first | (refine WL.g (.bool rfl rfl rfl) rfl (fun hg => OpP.mul64 rfl (gk hg rfl) (by (try simp at hg); omega)) ?_) | (refine WL.g (.bool rfl rfl rfl) rfl (fun hg => OpP.mul rfl (gk hg rfl)) ?_)
            refine WL.g (.bool rfl rfl rfl) rfl (fun hg => OpP.move rfl) ?_
            first | (refine WL.g (.bool rfl rfl rfl) rfl (fun hg => OpP.mul64 rfl (gk hg rfl) (by (try simp at hg); omega)) ?_) | (refine WL.g (.bool rfl rfl rfl) rfl (fun hg => OpP.mul rfl (gk hg rfl)) ?_)
            refine WL.g (.bool rfl rfl rfl) rfl (fun hg => OpP.move rfl) ?_
            refine WL.g (.bool rfl rfl rfl) rfl (fun hg => OpP.lenSl (gk hg rfl) Try.underlying23) ?_
            refine WL.g (.bool rfl rfl rfl) rfl (fun hg => OpP.move rfl) ?_
            refine WL.gcall rfl (.bool rfl rfl rfl) rfl k_35 (fun hg => kops2 (gk hg rfl) (gk hg rfl)) (fun hg => Length_any) ?_
            first | (refine WL.g (.bool rfl rfl rfl) rfl (fun hg => OpP.add64 (gk hg rfl) (gk hg rfl) (by (try simp at hg); omega)) ?_) | (refine WL.g (.bool rfl rfl rfl) rfl (fun hg => OpP.add (gk hg rfl) (gk hg rfl)) ?_)
            refine WL.g (.bool rfl rfl rfl) rfl (fun hg => OpP.slice (gk hg rfl) sl_23 (l := _) (⟨_, (gk hg rfl)⟩) (rfl) (⟨_, (gk hg rfl)⟩) (by (try simp at hg); omega) (by (try simp at hg); omega) (by (try simp at hg); omega) (by (try simp at hg); omega)) ?_
            refine WL.gcallX (v := .int .i64 0) (R := fun H2 => ∃ ds2, H2 = ds2 ++ ((b10, cl [.int .i64 (chunks (l.length : Int)), .int .u64 0] 38) :: (sg, x1.obj) :: (dsb ++ (b4, cl [.int .i64 n, .int .u64 b] 38) :: H)) ∧ SR (fSet [F] (F.put (k : Int) (chunkB l (k : Int)))) g ds2) rfl (.bool rfl rfl rfl) rfl k_40 (fun hg => kops4 (gk hg rfl) rfl (gk hg rfl) (gk hg rfl)) (fun hg => CxX.pre (List.perm_append_comm_assoc [_, _] ds _) (Write_ok (i := (k : Int)) (F := F) (l := chunkB l ((k : Int))) hs (fFind_one hid) (by unfold wOk; rw [hgood.size]; exact ⟨by omega, by omega, by have := lengthAt_bd (n := (l.length : Int)) (i := (k : Int)) (by omega) (by omega); omega⟩) (by rw [chunkB_len (by omega) (by omega)]; omega) (chunkB_isB hB _) (Sl.via (((hsl _).cutB (64 * (k : Int)) _ (by intro hq; omega)).takeB _)))) ?_ -- .g 
            rintro H2 hg1 hg0
            obtain ⟨F2, ds2, hpm, hs2, hg2, hid2, hsum2, hnew2, hold⟩ : ∃ F2 ds2, H2.Perm ((b10, cl [.int .i64 (chunks (l.length : Int)), .int .u64 0] 38) :: (sg, x1.obj) :: (ds2 ++ (dsb ++ (b4, cl [.int .i64 n, .int .u64 b] 38) :: H))) ∧ SR [F2] g ds2 ∧ Good F2 l ∧ F2.id = 5 ∧ F2.sum = sumF l ∧ (mHas n b (k : Int) = true → (F2.look (k : Int)).isSome = true) ∧ (∀ j : Nat, (F.look (j : Int)).isSome = true → (F2.look (j : Int)).isSome = true) := by
              cases e : mHas n b (k : Int) with
              | true =>
                obtain ⟨ds2, rfl, hs2⟩ := hg1 (by rw [e]; rfl)
                have hs2 : SR [F.put (k : Int) (chunkB l (k : Int))] g ds2 := by rwa [show fSet [F] (F.put (k : Int) (chunkB l (k : Int))) = [F.put (k : Int) (chunkB l (k : Int))] from fSet_one rfl] at hs2
                exact ⟨_, ds2, List.perm_append_comm_assoc ds2 [_, _] _, hs2, hgood.put _, hid, hsum, fun _ => look_put_some (.inl rfl), fun j hj => look_put_some (.inr hj)⟩
              | false =>
                obtain rfl := hg0 (by rw [e]; rfl)
                exact ⟨F, ds, List.Perm.refl _, hs, hgood, hid, hsum, (fun h => by cases h), fun j hj => hj⟩
            refine WL.perm hpm ?_
            refine WL.g (.bool rfl rfl rfl) rfl (fun hg => OpP.neqI (gk hg rfl) rfl) ?_
            refine WL.p (.none rfl) rfl (OpP.pand rfl rfl rfl) ?_
            refine WL.nil ?_
            refine EQ.sub ((Sub.cons (i := 0) rfl (Sub.cons (i := 2) rfl (Sub.cons (i := 4) rfl (Sub.cons (i := 7) rfl (Sub.cons (i := 9) rfl (Sub.cons (i := 12) rfl (Sub.cons (i := 81) rfl (Sub.nil _))))))))) ?_
            refine EQ.code ?_
            refine WC.cond rfl (fun hc5 => ?_) (fun hc5 => ?_)
            · -- cond 5 t
              (try simp only [decide_eq_true_eq, decide_eq_false_iff_not, Bool.not_eq_true', Bool.not_eq_false', Bool.or_eq_true, Bool.and_eq_true, Bool.or_eq_false_iff, Bool.and_eq_false_imp, Option.isNone_some, Bool.false_eq_true, false_or, true_and] at hc5)
              exfalso; simp at hc5
            · -- cond 5 f
              (try simp only [decide_eq_true_eq, decide_eq_false_iff_not, Bool.not_eq_true', Bool.not_eq_false', Bool.or_eq_true, Bool.and_eq_true, Bool.or_eq_false_iff, Bool.and_eq_false_imp, Option.isNone_some, Bool.false_eq_true, false_or, true_and] at hc5)
              refine WC.skip ?_
              refine EQ.blockN ?_
              refine EQ.code ?_
              refine WC.region ?_
              refine WL.p (.none rfl) rfl (OpP.move rfl) ?_
              first | (refine WL.p (.none rfl) rfl (OpP.add64 rfl rfl (by omega)) ?_) | (refine WL.p (.none rfl) rfl (OpP.add rfl rfl) ?_)
              refine WL.p (.none rfl) rfl (OpP.assign rfl) ?_
              refine WL.nil ?_
              refine EQ.sub ((Sub.cons (i := 0) rfl (Sub.cons (i := 2) rfl (Sub.cons (i := 4) rfl (Sub.cons (i := 7) rfl (Sub.cons (i := 9) rfl (Sub.cons (i := 12) rfl (Sub.nil _)))))))) ?_
              refine EQ.again (k + 1, F2, ds2) ?_ ?_ ?_ ?_
              · refine ⟨by (try simp only); omega, hs2, hg2, hid2, hsum2, fun j hj hh => ?_⟩
                (try simp only at hj)
                by_cases e : j = k
                · subst e; exact hnew2 (by rw [hnc]; exact hh)
                · exact hold j (hcov j (by omega) hh)
              · (try simp only); omega
              · exact ((Sub.cons rfl (Sub.cons rfl (Sub.cons rfl (Sub.cons rfl (Sub.cons rfl (Sub.cons rfl (Sub.nil _))))))))
              · intro _ h; first | exact h | exact h.drop | exact h.drop_mid | exact h.drop_mid.drop_mid
          · -- cond 4 f
            (try simp only [decide_eq_true_eq, decide_eq_false_iff_not, Bool.not_eq_true', Bool.not_eq_false', Bool.or_eq_true, Bool.and_eq_true, Bool.or_eq_false_iff, Bool.and_eq_false_imp, Option.isNone_some, Bool.false_eq_true, false_or, true_and] at hc4)
            refine WC.exit ?_
            refine EQ.thenE ?_
            refine EQ.thenE ?_
            refine EQ.blockHit ?_
            refine EQ.joined (F, ds) ?_ ?_ ?_
            · refine ⟨hs, hgood, hid, hsum, fun j hh => ?_⟩
              rw [hBb] at hh
              have : (j : Int) < chunks (l.length : Int) := by unfold mHas at hh; simp at hh; omega
              exact hcov j (by omega) hh
            · exact ((Sub.cons rfl (Sub.cons rfl (Sub.cons rfl (Sub.cons rfl (Sub.nil _))))))
            · intro _ h; first | exact h | exact h.drop | exact h.drop_mid
        · -- cond 3 f
          (try simp only [decide_eq_true_eq, decide_eq_false_iff_not, Bool.not_eq_true', Bool.not_eq_false', Bool.or_eq_true, Bool.and_eq_true, Bool.or_eq_false_iff, Bool.and_eq_false_imp, Option.isNone_some, Bool.false_eq_true, false_or, true_and] at hc3)
          refine WC.skip ?_
          refine EQ.joined (fresh X, ds1) ?_ ?_ ?_
          · exact ⟨hs1, good_fresh hXs, hXid, hXsum, fun j hh => by rw [hkn0 hc3, has_zero] at hh; cases hh⟩
          · exact ((Sub.cons rfl (Sub.cons rfl (Sub.cons rfl (Sub.cons rfl (Sub.nil _))))))
          · intro _ h; first | exact h | exact h.drop | exact h.drop_mid
      · -- join 16 1
        (try simp only at hinv ⊢)
        obtain ⟨hs, hgood, hid, hsum, hcov⟩ := hinv
        refine WC.seq ?_
        refine WC.seq ?_
        refine WC.region ?_
        refine WL.p (.none rfl) rfl (OpP.assign rfl) ?_
        refine WL.nil ?_
        refine EQ.sub ((Sub.cons (i := 0) rfl (Sub.cons (i := 2) rfl (Sub.cons (i := 7) rfl (Sub.cons (i := 9) rfl (Sub.cons (i := 13) rfl (Sub.nil _))))))) ?_
        refine EQ.code ?_
        refine WC.block ?_
        refine WC.loop (σ := Nat × Snd) (fun s => [(0, .slice a l.length cp), (2, .int .u8 (kk : Int)), (7, .pointer (some ⟨sg, 0, none⟩)), (9, .pointer (some ⟨g, 0, none⟩)), (13, .int .i64 (s.1 : Int))]) (fun s => (sg, s.2.obj) :: (ds ++ (dsb ++ (b4, cl [.int .i64 n, .int .u64 b] 38) :: H))) (fun s => s.1 ≤ 8 ∧ Sat s.2 l.length B ba bc) (fun s => 8 - s.1) (0, x1) ⟨by omega, hx1⟩ ((Sub.cons rfl (Sub.cons rfl (Sub.cons rfl (Sub.cons rfl (Sub.cons rfl (Sub.nil _))))))) (fun _ h => h) (fun ⟨k, x⟩ hinv => ?_)
        (try simp only at hinv ⊢)
        obtain ⟨hk, hx⟩ := hinv
        refine WC.seq ?_
        refine WC.seq ?_
        refine WC.region ?_
        refine WL.p (.none rfl) rfl (OpP.move rfl) ?_
        refine WL.p (.none rfl) rfl (OpP.move rfl) ?_
        refine WL.p (.none rfl) rfl (OpP.bits rfl rfl (by simp)) ?_
        rw [u8_and7n kk hkk]
        first | (refine WL.p (.none rfl) rfl (OpP.convI rfl Try.underlying5 Try.underlying3 (by omega)) ?_) | (refine WL.p (.none rfl) rfl (OpP.conv rfl Try.underlying5 Try.underlying3) ?_)
        refine WL.p (.none rfl) rfl (OpP.lss rfl rfl) ?_
        refine WL.nil ?_
        refine EQ.sub ((Sub.cons (i := 0) rfl (Sub.cons (i := 2) rfl (Sub.cons (i := 7) rfl (Sub.cons (i := 9) rfl (Sub.cons (i := 13) rfl (Sub.cons (i := 86) rfl (Sub.nil _)))))))) ?_
        refine EQ.code ?_
        refine WC.cond rfl (fun hc6 => ?_) (fun hc6 => ?_)
        · -- cond 6 t
          (try simp only [decide_eq_true_eq, decide_eq_false_iff_not, Bool.not_eq_true', Bool.not_eq_false', Bool.or_eq_true, Bool.and_eq_true, Bool.or_eq_false_iff, Bool.and_eq_false_imp, Option.isNone_some, Bool.false_eq_true, false_or, true_and] at hc6)
          refine WC.skip ?_
          refine EQ.code ?_
          refine WC.seq ?_
          refine WC.block ?_
          refine WC.region ?_
          refine WL.p (.none rfl) rfl (OpP.move rfl) ?_
          refine WL.call rfl (.none rfl) rfl k_17 rfl (Next_any (l := l) at0 hx hrB hB0 hB1 rfl hbc hbc2 (fun o => (hxs W0 ((b4, cl [.int .i64 n, .int .u64 b] 38) :: H)).of (fun w h => h.sublist ((List.sublist_append_right ds _).cons _)))) ?_
          rintro _ _ ⟨dn, p, rfl⟩
          refine WL.nil ?_
          refine EQ.sub ((Sub.cons (i := 0) rfl (Sub.cons (i := 2) rfl (Sub.cons (i := 7) rfl (Sub.cons (i := 9) rfl (Sub.cons (i := 13) rfl (Sub.nil _))))))) ?_
          refine EQ.blockN ?_
          refine EQ.code ?_
          refine WC.region ?_
          refine WL.p (.none rfl) rfl (OpP.move rfl) ?_
          first | (refine WL.p (.none rfl) rfl (OpP.add64 rfl rfl (by omega)) ?_) | (refine WL.p (.none rfl) rfl (OpP.add rfl rfl) ?_)
          refine WL.p (.none rfl) rfl (OpP.assign rfl) ?_
          refine WL.nil ?_
          refine EQ.sub ((Sub.cons (i := 0) rfl (Sub.cons (i := 2) rfl (Sub.cons (i := 7) rfl (Sub.cons (i := 9) rfl (Sub.cons (i := 13) rfl (Sub.nil _))))))) ?_
          refine EQ.again (k + 1, { x with pos := p }) ?_ ?_ ?_ ?_
          · exact ⟨by (try simp only); omega, hx.at p⟩
          · (try simp only); omega
          · exact ((Sub.cons rfl (Sub.cons rfl (Sub.cons rfl (Sub.cons rfl (Sub.cons rfl (Sub.nil _)))))))
          · intro w h; exact h.sublist (List.sublist_append_right _ _)
        · -- cond 6 f
          (try simp only [decide_eq_true_eq, decide_eq_false_iff_not, Bool.not_eq_true', Bool.not_eq_false', Bool.or_eq_true, Bool.and_eq_true, Bool.or_eq_false_iff, Bool.and_eq_false_imp, Option.isNone_some, Bool.false_eq_true, false_or, true_and] at hc6)
          refine WC.exit ?_
          refine EQ.thenE ?_
          refine EQ.thenE ?_
          refine EQ.blockHit ?_
          refine EQ.code ?_
          refine WC.seq ?_
          refine WC.region ?_
          refine WL.p (.none rfl) rfl (OpP.move rfl) ?_
          refine WL.callD rfl (.none rfl) rfl k_23 rfl (CxD.to (Left_c (x := x) at0 (by rw [hx.bits]; exact hB0) (by rw [hx.bits]; exact hB1) (by rw [hx.n]; exact hch)) (show _ = Value.int .i64 ((missL (chunks (l.length : Int)) B).length : Int) by rw [hx.left hrB hB0]) rfl) ?_
          refine WL.p (.none rfl) rfl (OpP.assign rfl) ?_
          refine WL.nil ?_
          refine EQ.sub ((Sub.cons (i := 0) rfl (Sub.cons (i := 7) rfl (Sub.cons (i := 9) rfl (Sub.cons (i := 14) rfl (Sub.nil _)))))) ?_
          refine EQ.code ?_
          refine WC.seq ?_
          refine WC.region ?_
          refine WL.allocX (l := bv (List.replicate 64 false)) (by kernel_rfl) rfl (fun b15 => ?_)
          refine WL.nil ?_
          refine EQ.sub ((Sub.cons (i := 0) rfl (Sub.cons (i := 7) rfl (Sub.cons (i := 9) rfl (Sub.cons (i := 14) rfl (Sub.cons (i := 15) rfl (Sub.nil _))))))) ?_
          refine EQ.code ?_
          refine WC.seq ?_
          refine WC.seq ?_
          refine WC.region ?_
          refine WL.p (.none rfl) rfl (OpP.assign rfl) ?_
          refine WL.nil ?_
          refine EQ.sub ((Sub.cons (i := 0) rfl (Sub.cons (i := 7) rfl (Sub.cons (i := 9) rfl (Sub.cons (i := 14) rfl (Sub.cons (i := 15) rfl (Sub.cons (i := 16) rfl (Sub.nil _)))))))) ?_
          refine EQ.code ?_
          refine WC.block ?_
          obtain ⟨M, hMe⟩ : ∃ M, M = missL (chunks (l.length : Int)) B := ⟨_, rfl⟩
          rw [← hMe]
          have hMs : M.Pairwise (· < ·) := by rw [hMe]; exact missL_sorted _ _
          have hM64 : (M.length : Int) ≤ 64 := by rw [hMe]; have := missL_len hrB hB0; omega
          obtain ⟨f0, hf0⟩ : ∃ f0, f0 = nextOf M x.pos := ⟨_, rfl⟩
          have hM1 : ∀ q, q ∈ M → (q : Int) < chunks (l.length : Int) := fun q hq => by rw [hMe] at hq; have := (mem_miss.1 hq).1; omega
          refine WC.loop (σ := Nat × Snd × List Bool × FileM × Hp) (fun s => [(0, .slice a l.length cp), (7, .pointer (some ⟨sg, 0, none⟩)), (9, .pointer (some ⟨g, 0, none⟩)), (14, .int .i64 (M.length : Int)), (15, .pointer (some ⟨b15, 0, none⟩)), (16, .int .i64 (s.1 : Int))]) (fun s => (b15, cl (bv s.2.2.1) 80) :: (sg, s.2.1.obj) :: (s.2.2.2.2 ++ (dsb ++ (b4, cl [.int .i64 n, .int .u64 b] 38) :: H))) (fun s => s.1 ≤ M.length ∧ Sat s.2.1 l.length B ba bc ∧ (s.1 < M.length → nextOf M s.2.1.pos = (((rot M f0).getD s.1 0 : Nat) : Int)) ∧ s.2.2.1.length = 64 ∧ (∀ j, s.2.2.1.getD j false = true → ∃ i, i < s.1 ∧ (rot M f0).getD i 0 = j) ∧ SR [s.2.2.2.1] g s.2.2.2.2 ∧ Good s.2.2.2.1 l ∧ s.2.2.2.1.id = 5 ∧ s.2.2.2.1.sum = sumF l ∧ (∀ j : Nat, mHas (chunks (l.length : Int)) B j = true → (s.2.2.2.1.look (j : Int)).isSome = true) ∧ ∀ i, i < s.1 → (s.2.2.2.1.look (((rot M f0).getD i 0 : Nat) : Int)).isSome = true) (fun s => M.length - s.1) (0, x, List.replicate 64 false, F, ds) ⟨Nat.zero_le _, hx, fun h => by rw [hf0]; exact (rot_first hMs (List.ne_nil_of_length_pos h) _).symm, by simp, fun j hj => absurd hj (by show ¬ (List.replicate 64 false).getD j false = true; rw [rep_false]; decide), hs, hgood, hid, hsum, hcov, fun i hi => by omega⟩ ((Sub.cons rfl (Sub.cons rfl (Sub.cons rfl (Sub.cons rfl (Sub.cons rfl (Sub.cons rfl (Sub.nil _)))))))) (fun _ h => h) (fun ⟨k, x, came, F, ds⟩ hinv => ?_)
          (try simp only at hinv ⊢)
          obtain ⟨hk, hx, hnx, hcl, hcm, hs, hgood, hid, hsum, hcov, hgot⟩ := hinv
          refine WC.seq ?_
          refine WC.seq ?_
          refine WC.region ?_
          refine WL.p (.none rfl) rfl (OpP.move rfl) ?_
          refine WL.p (.none rfl) rfl (OpP.move rfl) ?_
          refine WL.p (.none rfl) rfl (OpP.lss rfl rfl) ?_
          refine WL.nil ?_
          refine EQ.sub ((Sub.cons (i := 0) rfl (Sub.cons (i := 7) rfl (Sub.cons (i := 9) rfl (Sub.cons (i := 14) rfl (Sub.cons (i := 15) rfl (Sub.cons (i := 16) rfl (Sub.cons (i := 95) rfl (Sub.nil _))))))))) ?_
          refine EQ.code ?_
          refine WC.cond rfl (fun hc7 => ?_) (fun hc7 => ?_)
          · -- cond 7 t
            (try simp only [decide_eq_true_eq, decide_eq_false_iff_not, Bool.not_eq_true', Bool.not_eq_false', Bool.or_eq_true, Bool.and_eq_true, Bool.or_eq_false_iff, Bool.and_eq_false_imp, Option.isNone_some, Bool.false_eq_true, false_or, true_and] at hc7)
            have hMne : M ≠ [] := List.ne_nil_of_length_pos (by omega)
            obtain ⟨q, hqe⟩ : ∃ q, q = (rot M f0).getD k 0 := ⟨_, rfl⟩
            have hqM : q ∈ M := by rw [hqe]; exact rot_mem (by omega)
            have hqn := hM1 q hqM
            have hnq : x.next = (q : Int) := by rw [hx.next hrB hB0 (by rw [← hMe]; exact hMne), ← hMe, hnx (by omega), hqe]
            have hcq : came.getD q false = false := by
              cases e : came.getD q false with
              | false => rfl
              | true =>
                obtain ⟨i, h1, h2⟩ := hcm q e
                exact absurd (h2.trans hqe) (rot_inj hMs h1 (by omega))
            refine WC.skip ?_
            refine EQ.code ?_
            refine WC.seq ?_
            refine WC.block ?_
            refine WC.seq ?_
            refine WC.region ?_
            refine WL.p (.none rfl) rfl (OpP.move rfl) ?_
            refine WL.call rfl (.none rfl) rfl k_17 rfl (Next_miss (i := 1) (l := l) rfl hx hrB hB0 hB1 rfl hbc hbc2 (fun o => (hxs W0 ((b4, cl [.int .i64 n, .int .u64 b] 38) :: H)).of (fun w h => h.sublist (((List.sublist_append_right ds _).cons _).cons _))) (q := q) hnq (by omega)) ?_
            rintro _ _ ⟨dn, pa, pc, rfl, rfl, hpq⟩
            refine WL.p (.none rfl) rfl (OpP.move rfl) ?_
            refine WL.p (.none rfl) rfl (OpP.extract rfl rfl) ?_
            refine WL.p (.none rfl) rfl (OpP.extract rfl rfl) ?_
            refine WL.p (.none rfl) rfl (OpP.extract rfl rfl) ?_
            refine WL.p (.none rfl) rfl (OpP.assign rfl) ?_
            refine WL.p (.none rfl) rfl (OpP.assign rfl) ?_
            refine WL.p (.none rfl) rfl (OpP.assign rfl) ?_
            refine WL.nil ?_
            refine EQ.sub ((Sub.cons (i := 0) rfl (Sub.cons (i := 7) rfl (Sub.cons (i := 9) rfl (Sub.cons (i := 14) rfl (Sub.cons (i := 15) rfl (Sub.cons (i := 16) rfl (Sub.cons (i := 17) rfl (Sub.cons (i := 18) rfl (Sub.cons (i := 19) rfl (Sub.nil _))))))))))) ?_
            refine EQ.code ?_
            refine WC.seq ?_
            refine WC.seq ?_
            refine WC.region ?_
            refine WL.p (.none rfl) rfl (OpP.move rfl) ?_
            refine WL.p (.none rfl) rfl (OpP.not rfl) ?_
            refine WL.p (.none rfl) rfl (OpP.move rfl) ?_
            refine WL.p (.yes rfl rfl rfl) rfl (OpP.move rfl) ?_
            refine WL.p (.yes rfl rfl rfl) rfl (OpP.lss rfl rfl) ?_
            rw [show decide ((q : Int) < 0) = false from decide_eq_false (by omega)]
            refine WL.p (.none rfl) rfl (OpP.por rfl rfl rfl) ?_
            refine WL.p (.none rfl) rfl (OpP.move rfl) ?_
            refine WL.p (.yes rfl rfl rfl) rfl (OpP.move rfl) ?_
            refine WL.p (.yes rfl rfl rfl) rfl (OpP.geq rfl rfl) ?_
            rw [show decide ((q : Int) ≥ 64) = false from decide_eq_false (by omega)]
            refine WL.p (.none rfl) rfl (OpP.por rfl rfl rfl) ?_
            refine WL.p (.none rfl) rfl (OpP.move rfl) ?_
            refine WL.p (.yes rfl rfl rfl) rfl (OpP.move rfl) ?_
            refine WL.p (.yes rfl rfl rfl) rfl (OpP.indexA rfl rfl el_80 (by omega) (by omega)) ?_
            refine WL.p (.yes rfl rfl rfl) rfl (OpP.load rfl ty_4 (bva_get (List.mem_append_right _ List.mem_cons_self) q (by omega) hcq)) ?_
            refine WL.p (.none rfl) rfl (OpP.por rfl rfl rfl) ?_
            refine WL.p (.none rfl) rfl (OpP.move rfl) ?_
            refine WL.p (.yes rfl rfl rfl) rfl (OpP.move rfl) ?_
            refine WL.p (.yes rfl rfl rfl) rfl (OpP.move rfl) ?_
            refine WL.p (.yes rfl rfl rfl) rfl (OpP.move rfl) ?_
            refine WL.call rfl (.yes rfl rfl rfl) rfl k_40 rfl (CxX.pre ((List.Perm.append_left dn (List.perm_append_comm_assoc [_, _] ds _)).trans (List.perm_append_comm_assoc dn ds _)) (Write_ok (i := (q : Int)) (F := F) (l := chunkB l ((q : Int))) hs (fFind_one hid) (by unfold wOk; rw [hgood.size]; exact ⟨by omega, by omega, by have := lengthAt_bd (n := (l.length : Int)) (i := (q : Int)) (by omega) (by omega); rw [chunkB_len (by omega) (by omega)]; omega⟩) rfl (chunkB_isB hB _) (Sl.via ((hpq W0 _).of (fun w h => h.sublist (List.sublist_append_right ds _)))))) ?_
            rintro _ _ ⟨rfl, ds2, rfl, hs2⟩
            have hs2 : SR [F.put (q : Int) (chunkB l (q : Int))] g ds2 := by rwa [show fSet [F] (F.put (q : Int) (chunkB l (q : Int))) = [F.put (q : Int) (chunkB l (q : Int))] from fSet_one rfl] at hs2
            refine WL.perm (H' := (b15, cl (bv came) 80) :: (sg, _) :: (ds2 ++ (dn ++ (dsb ++ (b4, cl [.int .i64 n, .int .u64 b] 38) :: H)))) ((List.Perm.append_left ds2 (List.perm_append_comm_assoc dn [_, _] _)).trans (List.perm_append_comm_assoc ds2 [_, _] _)) ?_
            refine WL.p (.yes rfl rfl rfl) rfl (OpP.neqI rfl rfl) ?_
            refine WL.p (.none rfl) rfl (OpP.por rfl rfl rfl) ?_
            refine WL.nil ?_
            refine EQ.sub ((Sub.cons (i := 0) rfl (Sub.cons (i := 7) rfl (Sub.cons (i := 9) rfl (Sub.cons (i := 14) rfl (Sub.cons (i := 15) rfl (Sub.cons (i := 16) rfl (Sub.cons (i := 17) rfl (Sub.cons (i := 125) rfl (Sub.nil _)))))))))) ?_
            refine EQ.code ?_
            refine WC.condF rfl ?_
            refine WC.skip ?_
            refine EQ.code ?_
            refine WC.region ?_
            refine WL.p (.none rfl) rfl (OpP.move rfl) ?_
            refine WL.p (.none rfl) rfl (OpP.indexA rfl rfl el_80 (by omega) (by omega)) ?_
            refine WL.s (.none rfl) rfl (OpS.store rfl rfl ty_4 at0 rfl rfl rfl (Nat.ble_eq_true_of_le (by simp [bv, hcl]; omega))) ?_
            rw [spl_bv, show 0 + ((q : Nat) : Int).toNat * 1 = q by omega]
            refine WL.nil ?_
            refine EQ.sub ((Sub.cons (i := 0) rfl (Sub.cons (i := 7) rfl (Sub.cons (i := 9) rfl (Sub.cons (i := 14) rfl (Sub.cons (i := 15) rfl (Sub.cons (i := 16) rfl (Sub.nil _)))))))) ?_
            refine EQ.blockN ?_
            refine EQ.code ?_
            refine WC.region ?_
            refine WL.p (.none rfl) rfl (OpP.move rfl) ?_
            first | (refine WL.p (.none rfl) rfl (OpP.add64 rfl rfl (by omega)) ?_) | (refine WL.p (.none rfl) rfl (OpP.add rfl rfl) ?_)
            refine WL.p (.none rfl) rfl (OpP.assign rfl) ?_
            refine WL.nil ?_
            refine EQ.sub ((Sub.cons (i := 0) rfl (Sub.cons (i := 7) rfl (Sub.cons (i := 9) rfl (Sub.cons (i := 14) rfl (Sub.cons (i := 15) rfl (Sub.cons (i := 16) rfl (Sub.nil _)))))))) ?_
            refine EQ.again (k + 1, { x with pos := (q : Int) + 1 }, came.set q true, F.put (q : Int) (chunkB l (q : Int)), ds2) ?_ ?_ ?_ ?_
            · refine ⟨by (try simp only); omega, hx.at _, fun h => ?_, by simp [hcl], fun j hj => ?_, hs2, hgood.put _, hid, hsum, fun j hj => look_put_some (.inr (hcov j hj)), fun i hi => ?_⟩
              · (try simp only at h ⊢); rw [hqe]; exact rot_step hMs f0 h
              · (try simp only at hj ⊢)
                by_cases e : j = q
                · exact ⟨k, by omega, by rw [e, hqe]⟩
                · obtain ⟨i, h1, h2⟩ := hcm j (by rw [← hj, List.getD_eq_getElem?_getD, List.getD_eq_getElem?_getD, List.getElem?_set_ne (by omega)])
                  exact ⟨i, by omega, h2⟩
              · (try simp only at hi ⊢)
                refine look_put_some ?_
                by_cases e : i = k
                · left; rw [e, ← hqe]
                · right; exact hgot i (by omega)
            · (try simp only); omega
            · exact ((Sub.cons rfl (Sub.cons rfl (Sub.cons rfl (Sub.cons rfl (Sub.cons rfl (Sub.cons rfl (Sub.nil _))))))))
            · intro w h; exact h.sublist (List.Sublist.cons_cons _ (List.Sublist.cons_cons _ (List.Sublist.append_left (List.sublist_append_right dn _) ds2)))
          · -- cond 7 f
            (try simp only [decide_eq_true_eq, decide_eq_false_iff_not, Bool.not_eq_true', Bool.not_eq_false', Bool.or_eq_true, Bool.and_eq_true, Bool.or_eq_false_iff, Bool.and_eq_false_imp, Option.isNone_some, Bool.false_eq_true, false_or, true_and] at hc7)
            have hfull : ∀ q : Nat, (q : Int) < chunks (l.length : Int) → F.snd (q : Int) = true := fun q hq => by
              rw [hgood.snd]
              cases e : mHas (chunks (l.length : Int)) B (q : Int) with
              | true => exact hcov q e
              | false =>
                obtain ⟨i, h1, h2⟩ := rot_all f0 (show q ∈ M by rw [hMe]; exact mem_miss.2 ⟨by omega, e⟩)
                have := hgot i (by omega)
                rwa [h2] at this
            have hA1 : mAll (chunks (l.length : Int)) < 18446744073709551616 := mAll_hi hch.2
            refine WC.exit ?_
            refine EQ.thenE ?_
            refine EQ.thenE ?_
            refine EQ.blockHit ?_
            refine EQ.code ?_
            refine WC.seq ?_
            refine WC.region ?_
            refine WL.p (.none rfl) rfl (OpP.move rfl) ?_
            refine WL.call rfl (.none rfl) rfl k_41 rfl (CxX.pre (List.perm_append_comm_assoc [_, _] ds _) (Whole2_c hs (fFind_one hid))) ?_
            rintro _ _ ⟨wa, wn, wc, d5, rfl, rfl, hw1, _⟩
            obtain ⟨e3, e4⟩ := hgood.whole (by omega) hsum hfull
            obtain ⟨h5, h6⟩ := hw1 e3
            rw [e4] at h5 h6
            subst h5
            rw [e3]
            refine WL.perm (H' := (sg, x.obj) :: (ds ++ (d5 ++ (b15, cl (bv came) 80) :: (dsb ++ (b4, cl [.int .i64 n, .int .u64 b] 38) :: H)))) ((List.perm_append_comm_assoc d5 ds _).trans ((List.Perm.append_left ds ((List.Perm.append_left d5 (List.Perm.swap _ _ _)).trans List.perm_middle)).trans List.perm_middle)) ?_
            refine WL.p (.none rfl) rfl (OpP.move rfl) ?_
            refine WL.p (.none rfl) rfl (OpP.extract rfl rfl) ?_
            refine WL.p (.none rfl) rfl (OpP.extract rfl rfl) ?_
            refine WL.p (.none rfl) rfl (OpP.assign rfl) ?_
            refine WL.p (.none rfl) rfl (OpP.assign rfl) ?_
            refine WL.nil ?_
            refine EQ.sub ((Sub.cons (i := 0) rfl (Sub.cons (i := 7) rfl (Sub.cons (i := 9) rfl (Sub.cons (i := 20) rfl (Sub.cons (i := 21) rfl (Sub.nil _))))))) ?_
            refine EQ.code ?_
            refine WC.seq ?_
            refine WC.region ?_
            refine WL.p (.none rfl) rfl (OpP.move rfl) ?_
            refine WL.callD rfl (.none rfl) rfl k_43 rfl (CxD.perm (List.perm_append_comm_assoc [_] ds _) (CxD.to (v2 := .tuple #[mv (chunks (l.length : Int)) (mAll (chunks (l.length : Int))), .int .i64 0]) (Map2_c hs (fFind_one hid)) (by rw [mask_all (F := F) (by rw [hgood.size]; exact hfull), hgood.size]) rfl)) ?_
            refine WL.p (.none rfl) rfl (OpP.move rfl) ?_
            refine WL.p (.none rfl) rfl (OpP.extract rfl rfl) ?_
            refine WL.p (.none rfl) rfl (OpP.extract rfl rfl) ?_
            refine WL.allocX z_38 rfl (fun b22 => ?_)
            first | (refine WL.s (.none rfl) rfl (OpS.storeAll rfl rfl ty_38 (by repeat (first | assumption | exact at0 | exact set_hit (by first | assumption | exact set_hit (by assumption)) | apply ats)) (by rfl) (by rfl) (by rfl) (by rfl)) ?_) | (refine WL.s (.none rfl) rfl (OpS.store rfl rfl ty_38 (by repeat (first | assumption | exact at0 | exact set_hit (by first | assumption | exact set_hit (by assumption)) | apply ats)) (by rfl) (by rfl) (by rfl) (by rfl)) ?_)
            refine WL.p (.none rfl) rfl (OpP.assign rfl) ?_
            refine WL.nil ?_
            refine EQ.sub ((Sub.cons (i := 0) rfl (Sub.cons (i := 7) rfl (Sub.cons (i := 20) rfl (Sub.cons (i := 21) rfl (Sub.cons (i := 22) rfl (Sub.cons (i := 23) rfl (Sub.nil _)))))))) ?_
            refine EQ.code ?_
            refine WC.seq ?_
            refine WC.seq ?_
            refine WC.region ?_
            refine WL.p (.none rfl) rfl (OpP.move rfl) ?_
            refine WL.p (.none rfl) rfl (OpP.neqI rfl rfl) ?_
            refine WL.p (.none rfl) rfl (OpP.move rfl) ?_
            refine WL.p (.yes rfl rfl rfl) rfl (OpP.move rfl) ?_
            refine WL.p (.yes rfl rfl rfl) rfl (OpP.strOf (l := l) rfl Try.underlying23 Try.underlying9 Try.underlying5 ((h6 W0 ((b15, cl (bv came) 80) :: (dsb ++ (b4, cl [.int .i64 n, .int .u64 b] 38) :: H))).of (fun w h => h.sublist (((List.sublist_append_right ds _).cons _).cons _))) rfl) ?_
            refine WL.p (.yes rfl rfl rfl) rfl (OpP.move rfl) ?_
            refine WL.p (.yes rfl rfl rfl) rfl (OpP.strOf (l := l) rfl Try.underlying23 Try.underlying9 Try.underlying5 (hsl _) rfl) ?_
            refine WL.p (.yes rfl rfl rfl) rfl (OpP.neqS rfl rfl) ?_
            rw [show ((strB l).toList == (strB l).toList) = true from by simp]
            refine WL.p (.none rfl) rfl (OpP.por rfl rfl rfl) ?_
            refine WL.p (.none rfl) rfl (OpP.move rfl) ?_
            refine WL.p (.yes rfl rfl rfl) rfl (OpP.move rfl) ?_
            refine WL.p (.yes rfl rfl rfl) rfl (OpP.neqI rfl rfl) ?_
            refine WL.p (.none rfl) rfl (OpP.por rfl rfl rfl) ?_
            refine WL.p (.none rfl) rfl (OpP.move rfl) ?_
            refine WL.p (.yes rfl rfl rfl) rfl (OpP.move rfl) ?_
            refine WL.p (.yes rfl rfl rfl) rfl (OpP.loadB rfl ty_38 (by repeat (first | assumption | exact List.mem_cons_self | exact List.mem_of_getElem? (by assumption) | exact set_mem (by first | assumption | exact set_hit (by assumption)) | apply List.mem_cons_of_mem | apply List.mem_append_right)) (by rfl)) ?_
            refine WL.callD rfl (.yes rfl rfl rfl) rfl k_18 rfl (CxD.to (H2 := (b22, cl [.int .i64 (chunks (l.length : Int)), .int .u64 (mAll (chunks (l.length : Int)))] 38) :: (sg, (x.know (chunks (l.length : Int)) (mAll (chunks (l.length : Int)))).obj) :: (ds ++ (d5 ++ (b15, cl (bv came) 80) :: (dsb ++ (b4, cl [.int .i64 n, .int .u64 b] 38) :: H)))) (Know2_c (i := 1) rfl (by rw [hx.bits]; exact hB0) (by rw [hx.bits]; exact hB1) (mAll_lo _) hA1 (by rw [hx.n, hx.bits]; exact hrB)) (congrArg _ (hx.ask (right_all hch.1 hch.2))) rfl) ?_
            have hx3 := hx.know (right_all hch.1 hch.2)
            rw [or_all hrB hB0] at hx3
            generalize x.know (chunks (l.length : Int)) (mAll (chunks (l.length : Int))) = x3 at hx3 ⊢
            refine WL.p (.yes rfl rfl rfl) rfl (OpP.neqI rfl rfl) ?_
            refine WL.p (.none rfl) rfl (OpP.por rfl rfl rfl) ?_
            refine WL.nil ?_
            refine EQ.sub ((Sub.cons (i := 7) rfl (Sub.cons (i := 156) rfl (Sub.nil _)))) ?_
            refine EQ.code ?_
            refine WC.condF rfl ?_
            refine WC.skip ?_
            refine EQ.code ?_
            refine WC.seq ?_
            refine WC.region ?_
            refine WL.p (.none rfl) rfl (OpP.move rfl) ?_
            refine WL.callD rfl (.none rfl) rfl k_17 rfl (Next_done (i := 1) (l := l) rfl hx3 hA1 rfl hbc hbc2 (fun o => (hxs W0 ((b4, cl [.int .i64 n, .int .u64 b] 38) :: H)).of (fun w h => h.sublist (((((List.sublist_cons_self _ _).trans (List.sublist_append_right d5 _)).trans (List.sublist_append_right ds _)).cons _).cons _)))) ?_
            refine WL.p (.none rfl) rfl (OpP.move rfl) ?_
            refine WL.p (.none rfl) rfl (OpP.extract rfl rfl) ?_
            refine WL.p (.none rfl) rfl (OpP.extract rfl rfl) ?_
            refine WL.p (.none rfl) rfl (OpP.extract rfl rfl) ?_
            refine WL.p (.none rfl) rfl (OpP.assign rfl) ?_
            refine WL.p (.none rfl) rfl (OpP.assign rfl) ?_
            refine WL.p (.none rfl) rfl (OpP.assign rfl) ?_
            refine WL.nil ?_
            refine EQ.sub ((Sub.cons (i := 7) rfl (Sub.cons (i := 26) rfl (Sub.nil _)))) ?_
            refine EQ.code ?_
            refine WC.seq ?_
            refine WC.region ?_
            refine WL.callD rfl (.none rfl) rfl k_8 rfl (alive_c) ?_
            refine WL.p (.none rfl) rfl (OpP.move rfl) ?_
            refine WL.p (.yes rfl rfl rfl) rfl (OpP.move rfl) ?_
            refine WL.p (.yes rfl rfl rfl) rfl (OpP.not rfl) ?_
            refine WL.p (.none rfl) rfl (OpP.pand rfl rfl rfl) ?_
            refine WL.p (.none rfl) rfl (OpP.move rfl) ?_
            refine WL.p (.yes rfl rfl rfl) rfl (OpP.move rfl) ?_
            refine WL.callD rfl (.yes rfl rfl rfl) rfl k_23 rfl (CxD.to (Left_c (x := x3) (i := 1) rfl (by rw [hx3.bits]; exact mAll_lo _) (by rw [hx3.bits]; exact hA1) (by rw [hx3.n]; exact hch)) (show _ = Value.int .i64 0 by rw [hx3.done.2.2]) rfl) ?_
            refine WL.p (.yes rfl rfl rfl) rfl (OpP.eqlI rfl rfl) ?_
            refine WL.p (.none rfl) rfl (OpP.pand rfl rfl rfl) ?_
            refine WL.p (.none rfl) rfl (OpP.move rfl) ?_
            refine WL.p (.yes rfl rfl rfl) rfl (OpP.move rfl) ?_
            refine WL.callD rfl (.yes rfl rfl rfl) rfl k_25 rfl (CxD.to (State_c (x := x3) (i := 1) rfl (by rw [hx3.bits]; exact mAll_lo _) (by rw [hx3.bits]; exact hA1)) (show _ = Value.int .i64 2 by rw [hx3.done.1]) rfl) ?_
            refine WL.p (.yes rfl rfl rfl) rfl (OpP.eqlI rfl rfl) ?_
            refine WL.p (.none rfl) rfl (OpP.pand rfl rfl rfl) ?_
            refine WL.p (.none rfl) rfl (OpP.move rfl) ?_
            refine WL.p (.yes rfl rfl rfl) rfl (OpP.move rfl) ?_
            refine WL.callD rfl (.yes rfl rfl rfl) rfl k_21 rfl (CxD.to (Cancel2_c (x := x3) (i := 1) rfl (by rw [hx3.bits]; exact mAll_lo _) (by rw [hx3.bits]; exact hA1) hx3.made) (show _ = Value.int .i64 7 by rw [hx3.done.1]; rfl) rfl) ?_
            refine WL.p (.yes rfl rfl rfl) rfl (OpP.eqlI rfl rfl) ?_
            refine WL.p (.none rfl) rfl (OpP.pand rfl rfl rfl) ?_
            refine WL.p (.none rfl) rfl (OpP.assign rfl) ?_
            refine WL.nil ?_
            refine EQ.sub ((Sub.cons (i := 6) rfl (Sub.nil _))) ?_
            refine EQ.code ?_
            refine WC.ret ?_
            refine EQ.finD (H' := H) (res1 rfl (.tmp rfl)) (by intro _ h; first | exact h | exact h.sublist (by repeat (first | exact List.Sublist.refl _ | exact List.sublist_append_right _ _ | apply List.Sublist.cons | refine List.Sublist.trans ?_ (List.sublist_append_right _ _)))) ?_
            exact ⟨rfl, rfl⟩

end Go.Proofs.Ytmeimjpjelmchaa
