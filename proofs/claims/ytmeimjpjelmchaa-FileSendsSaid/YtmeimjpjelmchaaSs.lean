/- What the calls of a store come to, over its files as plain data. No conditions but those in the theorems' heads. -/
import Derived.Test.YtmeimjpjelmchaaSd
namespace Go.Proofs.Ytmeimjpjelmchaa
open Go Go.RowKit Go.Sx

theorem CxX.weak {P : Program} {W0 : World} {f : FuncId} {args : Array Value} {H H1 : Hp} {R R1 : Value → Hp → Prop} (hp : ∀ w, St W0 w H → St W0 w H1) (h : CxX P W0 f args H1 R1) (k : ∀ v H', R1 v H' → ∃ H2, (∀ w, St W0 w H' → St W0 w H2) ∧ R v H2) : CxX P W0 f args H R := fun w hS =>
  (h w (hp w hS)).mono fun _ _ ⟨v', H', he, hR, hS'⟩ => by
    obtain ⟨H2, h2, hR2⟩ := k v' H' hR
    exact ⟨v', H2, he, hR2, h2 _ hS'⟩
theorem CxD.x {P : Program} {W0 : World} {f : FuncId} {args : Array Value} {H H' : Hp} {v : Value} {R : Value → Hp → Prop} (h : CxD P W0 f args H v H') (k : R v H') : CxX P W0 f args H R := fun w hS =>
  (h w hS).mono fun _ _ ⟨v', H2, he, ⟨e1, e2⟩, hS'⟩ => by subst e1 e2; exact ⟨_, _, he, k, hS'⟩

def FileM.put (F : FileM) (i : Int) (l : List Int) : FileM := { F with ch := chPut F.ch ⟨i, l, crcOf l⟩ }
def FileM.dmg (F : FileM) (i : Int) (j b : Nat) : FileM := match F.look i with
  | some c => { F with ch := chPut F.ch { c with b := c.b.set j (((c.b.getD j 0).toNat ^^^ b : Nat) : Int) } }
  | none => F

section
variable {W0 : World} {R : Hp} {M : List FileM} {g : Nat} {ds : Hp}

theorem sr_mem (h : SR M g ds) : ∃ mb es c d2, ds = (g, sobj mb) :: (mb, mobj .u64 es c) :: d2 ∧ Mok es c ∧ FsR M es d2 := h
theorem sr_none (h : SR M g ds) {id : Int} (hf : fFind M id = none) : ∃ mb es c, (g, sobj mb) ∈ ds ++ R ∧ (mb, mobj .u64 es c) ∈ ds ++ R ∧ mlook es id = none := by
  obtain ⟨mb, es, c, d2, rfl, _, hF⟩ := h
  exact ⟨mb, es, c, by simp, by simp, fsr_none hF id hf⟩
theorem sr_some (h : SR M g ds) {id : Int} {F : FileM} (hf : fFind M id = some F) : ∃ mb es c fb, (g, sobj mb) ∈ ds ++ R ∧ (mb, mobj .u64 es c) ∈ ds ++ R ∧ mlook es id = some (.pointer (some ⟨fb, 0, none⟩)) ∧ See W0 (ds ++ R) F fb := by
  obtain ⟨mb, es, c, d2, rfl, _, hF⟩ := h
  obtain ⟨fb, d1, sg, d3, _, hl, hFR, rfl, _⟩ := fsr_some hF id F hf
  refine ⟨mb, es, c, fb, by simp, by simp, hl, See.of hFR ?_⟩
  exact (((((List.sublist_append_left _ _).trans (List.sublist_append_right d1 _)).cons _).cons _)).trans (List.sublist_append_left _ _)

/-- Write of a chunk that fits. -/
theorem Write_ok (h : SR M g ds) {id i : Int} {F : FileM} (hf : fFind M id = some F) {a : Option Addr} {m cp : Nat} {l : List Int} (hw : wOk F i m) (hll : l.length = m) (hb : IsB l) (hsl : ∀ H, (∀ w, St W0 w H → St W0 w (ds ++ R)) → Sl W0 H a (iv .u8 l)) :
    CxX Try.prog W0 40 #[.pointer (some ⟨g, 0, none⟩), .int .u64 id, .int .i64 i, .slice a m cp] (ds ++ R) (fun v H' => v = .int .i64 0 ∧ ∃ ds', H' = ds' ++ R ∧ SR (fSet M (F.put i l)) g ds') := by
  obtain ⟨mb, es, c, fb, cb, ces, cc, dC, rest, hid, hM, hl, hm, hch, hp, hback⟩ := sr_focus h hf
  have hl64 : m ≤ 64 := by
    obtain ⟨_, _, h3⟩ := hw
    unfold lengthAt at h3
    split at h3 <;> omega
  have hp2 : (ds ++ R).Perm ((fb, fobj F cb) :: (cb, mobj .i64 ces cc) :: (dC ++ ((g, sobj mb) :: (mb, mobj .u64 es c) :: (rest ++ R)))) := by
    have := hp.append_right R
    simpa [List.append_assoc] using this
  have hR := WriteF_c (W0 := W0) (F := F) (cb := cb) (fb := fb) (ces := ces) (cc := cc) (id := id) (i := i) (R := dC ++ ((g, sobj mb) :: (mb, mobj .u64 es c) :: (rest ++ R))) (g := g) (mb := mb) (c := c) (es := es) (by simp) (by simp) hl (a := a) (m := m) (cp := cp) (l := l) hll (by omega) hb
    (fun d => hsl _ (fun w hS => (hS.sublist (List.sublist_append_right _ _)).perm hp2.symm))
  refine CxX.weak (fun w hS => hS.perm hp2) hR (fun v H' hv => ?_)
  obtain ⟨ca, c9, sg, rfl, rfl, hown⟩ := hv.1 hw
  have hlt : crcOf l < 4294967296 := crcOf_lt hb
  cases hk : F.look i with
  | none =>
    have hnew := chr_new hch ⟨i, l, crcOf l⟩ ca c9 sg cc hk (by show l.length ≤ 64; omega) hb hlt (by show OwnS 5 1 (.slice ca l.length c9) l.length _ sg; rw [hll]; exact hown)
    obtain ⟨ds', hs', hpe⟩ := hback (F.put i l) cb _ (mclk ces cc i) (dC ++ sg) hid (hm.put i (chV ca m c9 (crcOf l))) (by have := hnew; simp only at this; rw [hll] at this; exact this)
    refine ⟨ds' ++ R, fun w hS => ?_, rfl, ds', rfl, hs'⟩
    refine hS.perm (List.Perm.trans ?_ (hpe.append_right R))
    simp only [List.cons_append, List.append_assoc]
    refine List.Perm.cons _ (List.Perm.cons _ ?_)
    exact List.perm_append_comm_assoc sg dC _
  | some h0 =>
    obtain ⟨a2, c2, d1, sg0, d2, _, _, _, _, _, _, rfl, _, hput⟩ := chr_some hch i h0 hk
    have hnew := hput ⟨i, l, crcOf l⟩ ca c9 sg cc rfl (by show l.length ≤ 64; omega) hb hlt (by show OwnS 5 1 (.slice ca l.length c9) l.length _ sg; rw [hll]; exact hown)
    obtain ⟨ds', hs', hpe⟩ := hback (F.put i l) cb _ (mclk ces cc i) (d1 ++ (sg ++ d2)) hid (hm.put i (chV ca m c9 (crcOf l))) (by have := hnew; simp only at this; rw [hll] at this; exact this)
    refine ⟨ds' ++ R, fun w hS => ?_, rfl, ds', rfl, hs'⟩
    have hS2 := hS.sublist (H' := (fb, fobj F cb) :: (cb, mobj .i64 (mput ces cc i (chV ca m c9 (crcOf l))) (mclk ces cc i)) :: (sg ++ ((d1 ++ d2) ++ ((g, sobj mb) :: (mb, mobj .u64 es c) :: (rest ++ R)))))
      (((List.Sublist.append_left (List.Sublist.append_right (List.Sublist.append_left (List.sublist_append_right sg0 d2) d1) _) sg).cons_cons _).cons_cons _)
    refine hS2.perm (List.Perm.trans ?_ (hpe.append_right R))
    simp only [List.cons_append, List.append_assoc]
    refine List.Perm.cons _ (List.Perm.cons _ ?_)
    exact List.perm_append_comm_assoc sg d1 _
theorem Write_no (h : SR M g ds) {id i : Int} {F : FileM} (hf : fFind M id = some F) {a : Option Addr} {m cp : Nat} {l : List Int} (hw : ¬ wOk F i m) (hll : l.length = m) (hm63 : m ≤ 17592186044416) (hb : IsB l) (hsl : ∀ H, (∀ w, St W0 w H → St W0 w (ds ++ R)) → Sl W0 H a (iv .u8 l)) :
    CxD Try.prog W0 40 #[.pointer (some ⟨g, 0, none⟩), .int .u64 id, .int .i64 i, .slice a m cp] (ds ++ R) (.int .i64 1) (ds ++ R) := by
  obtain ⟨mb, es, c, fb, cb, ces, cc, dC, rest, hid, hM, hl, hm, hch, hp, hback⟩ := sr_focus h hf
  have hp2 : (ds ++ R).Perm ((fb, fobj F cb) :: (cb, mobj .i64 ces cc) :: (dC ++ ((g, sobj mb) :: (mb, mobj .u64 es c) :: (rest ++ R)))) := by
    have := hp.append_right R
    simpa [List.append_assoc] using this
  have hR := WriteF_c (W0 := W0) (F := F) (cb := cb) (fb := fb) (ces := ces) (cc := cc) (id := id) (i := i) (R := dC ++ ((g, sobj mb) :: (mb, mobj .u64 es c) :: (rest ++ R))) (g := g) (mb := mb) (c := c) (es := es) (by simp) (by simp) hl (a := a) (m := m) (cp := cp) (l := l) hll hm63 hb
    (fun d => hsl _ (fun w hS => (hS.sublist (List.sublist_append_right _ _)).perm hp2.symm))
  refine CxX.weak (fun w hS => hS.perm hp2) hR (fun v H' hv => ?_)
  obtain ⟨rfl, rfl⟩ := hv.2 hw
  exact ⟨ds ++ R, fun w hS => hS.perm hp2.symm, rfl, rfl⟩
theorem Write_none2 (h : SR M g ds) {id i : Int} {sl : Value} (hf : fFind M id = none) : CxD Try.prog W0 40 #[.pointer (some ⟨g, 0, none⟩), .int .u64 id, .int .i64 i, sl] (ds ++ R) (.int .i64 4) (ds ++ R) := by
  obtain ⟨mb, es, c, h1, h2, h3⟩ := sr_none (R := R) h hf
  exact Write_none h1 h2 h3
theorem Map2_c (h : SR M g ds) {id : Int} {F : FileM} (hf : fFind M id = some F) : CxD Try.prog W0 43 #[.pointer (some ⟨g, 0, none⟩), .int .u64 id] (ds ++ R) (.tuple #[mv (chunks F.size) ((F.mask : Nat) : Int), .int .i64 0]) (ds ++ R) := by
  obtain ⟨mb, es, c, fb, h1, h2, h3, h4⟩ := sr_some (W0 := W0) (R := R) h hf
  exact Map_c h1 h2 h3 h4
theorem Map2_none (h : SR M g ds) {id : Int} (hf : fFind M id = none) : CxD Try.prog W0 43 #[.pointer (some ⟨g, 0, none⟩), .int .u64 id] (ds ++ R) (.tuple #[mv 0 0, .int .i64 4]) (ds ++ R) := by
  obtain ⟨mb, es, c, h1, h2, h3⟩ := sr_none (R := R) h hf
  exact Map_none h1 h2 h3
theorem Whole2_c (h : SR M g ds) {id : Int} {F : FileM} (hf : fFind M id = some F) : CxX Try.prog W0 41 #[.pointer (some ⟨g, 0, none⟩), .int .u64 id] (ds ++ R)
    (fun v H' => ∃ a n c9 d, H' = d ++ (ds ++ R) ∧ v = .tuple #[.slice a n c9, .int .i64 F.wholeE] ∧ (F.wholeE = 0 → n = F.cat.length ∧ ∀ W R, Sl W (d ++ R) a (iv .u8 F.cat)) ∧ (F.wholeE ≠ 0 → n = 0)) := by
  obtain ⟨mb, es, c, fb, h1, h2, h3, h4⟩ := sr_some (W0 := W0) (R := R) h hf
  exact Whole_c h1 h2 h3 h4
theorem Whole2_none (h : SR M g ds) {id : Int} (hf : fFind M id = none) : CxD Try.prog W0 41 #[.pointer (some ⟨g, 0, none⟩), .int .u64 id] (ds ++ R) (.tuple #[.slice none 0 0, .int .i64 4]) (ds ++ R) := by
  obtain ⟨mb, es, c, h1, h2, h3⟩ := sr_none (R := R) h hf
  exact Whole_none h1 h2 h3
theorem Open2_bad (h : SR M g ds) {X : FileM} (hok : infoOk X.id X.nm X.size = false) : CxD Try.prog W0 38 #[.pointer (some ⟨g, 0, none⟩), .agg ⟨infoL X⟩] (ds ++ R) (.tuple #[mv 0 0, .int .i64 3]) (ds ++ R) := by
  obtain ⟨mb, es, c, d2, rfl, _, hF⟩ := h
  exact Open_bad (mb := mb) (by simp) hok
theorem Open2_found (h : SR M g ds) {X F : FileM} (hok : infoOk X.id X.nm X.size = true) (hf : fFind M X.id = some F) : CxD Try.prog W0 38 #[.pointer (some ⟨g, 0, none⟩), .agg ⟨infoL X⟩] (ds ++ R)
    (.tuple #[if sameInfo F X then mv (chunks F.size) ((F.mask : Nat) : Int) else mv 0 0, .int .i64 (if sameInfo F X then 0 else 7)]) (ds ++ R) := by
  obtain ⟨mb, es, c, fb, h1, h2, h3, h4⟩ := sr_some (W0 := W0) (R := R) h hf
  exact Open_found h1 h2 h3 h4 hok
theorem Open2_new (h : SR M g ds) {X : FileM} (hok : infoOk X.id X.nm X.size = true) (hf : fFind M X.id = none) (hlen : M.length < 16) : CxX Try.prog W0 38 #[.pointer (some ⟨g, 0, none⟩), .agg ⟨infoL X⟩] (ds ++ R)
    (fun v H' => v = .tuple #[mv (chunks X.size) 0, .int .i64 0] ∧ ∃ ds', H' = ds' ++ R ∧ SR (M ++ [fresh X]) g ds') := by
  obtain ⟨mb, es, c, d2, rfl, hM, hF⟩ := h
  have hl := fsr_none hF X.id hf
  have hn := fsr_len hF
  refine CxX.weak (fun w hS => hS) (Open_new (R := d2 ++ R) hl hok) (fun v H' hv => ?_)
  obtain ⟨fb, cb, rfl, rfl⟩ := hv.1 (by omega)
  have hFR : FR (fresh X) fb [(fb, fobj (fresh X) cb), (cb, mobj .i64 [] 0)] := ⟨cb, [], 0, [], rfl, Mok.nil 0, rfl⟩
  have := fsr_new hF (fresh X) fb _ c hf hFR
  refine ⟨((g, sobj mb) :: (mb, mobj .u64 (mput es c X.id (.pointer (some ⟨fb, 0, none⟩))) (mclk es c X.id)) :: (d2 ++ [(fb, fobj (fresh X) cb), (cb, mobj .i64 [] 0)])) ++ R, fun w hS => ?_, rfl, _, rfl, ⟨mb, _, _, _, rfl, hM.put X.id _, this⟩⟩
  refine hS.perm ?_
  simp only [List.cons_append, List.append_assoc]
  refine List.Perm.cons _ (List.Perm.cons _ ?_)
  exact List.perm_append_comm_assoc [(fb, fobj (fresh X) cb), (cb, mobj .i64 [] 0)] d2 R
theorem Open2_full (h : SR M g ds) {X : FileM} (hok : infoOk X.id X.nm X.size = true) (hf : fFind M X.id = none) (hlen : ¬ M.length < 16) : CxD Try.prog W0 38 #[.pointer (some ⟨g, 0, none⟩), .agg ⟨infoL X⟩] (ds ++ R) (.tuple #[mv 0 0, .int .i64 5]) (ds ++ R) := by
  obtain ⟨mb, es, c, d2, rfl, hM, hF⟩ := h
  have hl := fsr_none hF X.id hf
  have hn := fsr_len hF
  refine CxX.weak (fun w hS => hS) (Open_new (R := d2 ++ R) hl hok) (fun v H' hv => ?_)
  obtain ⟨rfl, rfl⟩ := hv.2 (by omega)
  exact ⟨_, fun w hS => hS, rfl, rfl⟩
/-- Damage. -/
theorem Damage_ok (h : SR M g ds) {id i : Int} {F : FileM} {h0 : Ch} (hf : fFind M id = some F) (hk : F.look i = some h0) {j b : Nat} (hj : j < h0.b.length) (hb : b < 256) :
    CxX Try.prog W0 42 #[.pointer (some ⟨g, 0, none⟩), .int .u64 id, .int .i64 i, .int .i64 (j : Int), .int .u8 (b : Int)] (ds ++ R) (fun v H' => v = .int .i64 0 ∧ ∃ ds', H' = ds' ++ R ∧ SR (fSet M (F.dmg i j b)) g ds') := by
  obtain ⟨mb, es, c, fb, cb, ces, cc, dC, rest, hid, hM, hl, hm, hch, hp, hback⟩ := sr_focus h hf
  obtain ⟨a, c0, d1, sg, d2, hki, hlk, hl64, hB, hs4, hown, rfl, hset, _⟩ := chr_some hch i h0 hk
  obtain ⟨bk, l, rfl, rfl, hnl⟩ := own_some hown (by omega)
  have hp2 : (ds ++ R).Perm ((fb, fobj F cb) :: (cb, mobj .i64 ces cc) :: (bk, cl l 5) :: (d1 ++ (d2 ++ ((g, sobj mb) :: (mb, mobj .u64 es c) :: (rest ++ R))))) := by
    refine List.Perm.trans (hp.append_right R) ?_
    simp only [List.cons_append, List.append_assoc, List.nil_append]
    refine List.Perm.cons _ (List.Perm.cons _ ?_)
    exact List.perm_middle
  have hR := DamageF_in (W0 := W0) (F := F) (cb := cb) (fb := fb) (ces := ces) (cc := cc) (id := id) (i := i) (R := d1 ++ (d2 ++ ((g, sobj mb) :: (mb, mobj .u64 es c) :: (rest ++ R)))) (g := g) (mb := mb) (c := c) (es := es) (by simp) (by simp) hl hlk (ofs := (j : Int)) (by omega) (by omega) hb hown hB hnl
  rw [Int.toNat_natCast] at hR
  refine CxX.weak (fun w hS => hS.perm hp2) hR (fun v H' hv => ?_)
  obtain ⟨rfl, rfl⟩ := hv
  have hbj : 0 ≤ h0.b.getD j 0 ∧ h0.b.getD j 0 < 256 := hB _ (by rw [List.getD_eq_getElem?_getD, List.getElem?_eq_getElem hj]; exact List.getElem_mem _)
  have hx : (h0.b.getD j 0).toNat ^^^ b < 2 ^ 8 := Nat.xor_lt_two_pow (by omega) (by omega)
  have hB2 : IsB (h0.b.set j (((h0.b.getD j 0).toNat ^^^ b : Nat) : Int)) := fun x hx2 => by
    rcases List.mem_or_eq_of_mem_set hx2 with q | q
    · exact hB x q
    · subst q; omega
  have hnew := hset { h0 with b := h0.b.set j (((h0.b.getD j 0).toNat ^^^ b : Nat) : Int) } _ hki (by simp) rfl hB2 (own_set hown hj _).2
  have hd : F.dmg i j b = { F with ch := chPut F.ch { h0 with b := h0.b.set j (((h0.b.getD j 0).toNat ^^^ b : Nat) : Int) } } := by
    unfold FileM.dmg; rw [hk]
  obtain ⟨ds', hs', hpe⟩ := hback (F.dmg i j b) cb ces cc _ (by rw [hd]; exact hid) hm (by rw [hd]; exact hnew)
  refine ⟨ds' ++ R, fun w hS => ?_, rfl, ds', rfl, hs'⟩
  have hfo : fobj (F.dmg i j b) cb = fobj F cb := by rw [hd]; rfl
  rw [hfo] at hpe
  refine hS.perm (List.Perm.trans ?_ (hpe.append_right R))
  simp only [List.cons_append, List.append_assoc, List.nil_append]
  refine List.Perm.cons _ (List.Perm.cons _ ?_)
  exact List.perm_middle.symm
theorem Damage_no (h : SR M g ds) {id i j : Int} {F : FileM} {b : Nat} (hf : fFind M id = some F) (hk : ∀ h0, F.look i = some h0 → j < 0 ∨ (h0.b.length : Int) ≤ j) :
    CxD Try.prog W0 42 #[.pointer (some ⟨g, 0, none⟩), .int .u64 id, .int .i64 i, .int .i64 j, .int .u8 (b : Int)] (ds ++ R) (.int .i64 1) (ds ++ R) := by
  obtain ⟨mb, es, c, fb, cb, ces, cc, dC, rest, hid, hM, hl, hm, hch, hp, hback⟩ := sr_focus h hf
  have hp2 : (ds ++ R).Perm ((fb, fobj F cb) :: (cb, mobj .i64 ces cc) :: (dC ++ ((g, sobj mb) :: (mb, mobj .u64 es c) :: (rest ++ R)))) := by
    have := hp.append_right R
    simpa [List.append_assoc] using this
  cases hq : F.look i with
  | none =>
    exact CxD.perm hp2 (DamageF_none (mb := mb) (c := c) (by simp) (by simp) hl (chr_none hch i hq))
  | some h0 =>
    obtain ⟨a, c0, d1, sg, d2, hki, hlk, _, _, _, _, _, _, _⟩ := chr_some hch i h0 hq
    exact CxD.perm hp2 (DamageF_out (mb := mb) (c := c) (by simp) (by simp) hl hlk (hk h0 hq))
theorem Damage_none2 (h : SR M g ds) {id i j : Int} {b : Nat} (hf : fFind M id = none) : CxD Try.prog W0 42 #[.pointer (some ⟨g, 0, none⟩), .int .u64 id, .int .i64 i, .int .i64 j, .int .u8 (b : Int)] (ds ++ R) (.int .i64 4) (ds ++ R) := by
  obtain ⟨mb, es, c, h1, h2, h3⟩ := sr_none (R := R) h hf
  exact Damage_none h1 h2 h3
end
end Go.Proofs.Ytmeimjpjelmchaa
