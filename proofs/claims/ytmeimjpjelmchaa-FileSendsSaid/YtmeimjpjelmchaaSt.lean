/- A store's files as plain data, and how they lie in memory. No conditions. -/
import Derived.Test.YtmeimjpjelmchaaCrc2
namespace Go.Proofs.Ytmeimjpjelmchaa
open Go.RowKit Go.Sx

/-- A chunk: its number, its bytes, the sum that they had. -/
structure Ch where
  k : Int
  b : List Int
  s : Nat
/-- A file: its description, its chunks. -/
structure FileM where
  id : Int
  nm : ByteArray
  size : Int
  sum : Nat → Int
  ch : List Ch
def FileM.look (F : FileM) (j : Int) : Option Ch := F.ch.find? fun c => decide (c.k = j)
def FileM.snd (F : FileM) (j : Int) : Bool := match F.look j with
  | some c => decide (crcOf c.b = c.s)
  | none => false
def chPut : List Ch → Ch → List Ch
  | [], c => [c]
  | d :: ds, c => if d.k = c.k then c :: ds else d :: chPut ds c

abbrev chV (a : Option Addr) (n c : Nat) (s : Nat) : Value := .agg #[.slice a n c, .int .u32 (s : Int)]
/-- The chunks of a file, and the entries of its map; each chunk's bytes lie in a segment of their own. -/
def ChR : List Ch → List Ent → Hp → Prop
  | [], [], ds => ds = []
  | h :: hs, e :: es, ds => e.key = h.k ∧ h.b.length ≤ 64 ∧ IsB h.b ∧ h.s < 4294967296 ∧ ∃ a c sg d2, e.val = chV a h.b.length c h.s ∧ OwnS 5 1 (.slice a h.b.length c) h.b.length (iv .u8 h.b) sg ∧ ds = sg ++ d2 ∧ ChR hs es d2
  | _, _, _ => False
def infoL (F : FileM) : List Value := .int .u64 F.id :: .string F.nm :: .int .i64 F.size :: sumL F.sum
abbrev fobj (F : FileM) (cb : Nat) : Obj := cl (infoL F ++ [.map (some cb)]) 101
def FR (F : FileM) (fb : Nat) (sg : Hp) : Prop := ∃ cb ces cc ds, sg = (fb, fobj F cb) :: (cb, mobj .i64 ces cc) :: ds ∧ Mok ces cc ∧ ChR F.ch ces ds
def FsR : List FileM → List Ent → Hp → Prop
  | [], [], ds => ds = []
  | F :: Fs, e :: es, ds => e.key = F.id ∧ ∃ fb sg d2, e.val = .pointer (some ⟨fb, 0, none⟩) ∧ FR F fb sg ∧ ds = sg ++ d2 ∧ FsR Fs es d2
  | _, _, _ => False
abbrev sobj (mb : Nat) : Obj := cl [.map (some mb)] 97
def SR (M : List FileM) (g : Nat) (ds : Hp) : Prop := ∃ mb es c d2, ds = (g, sobj mb) :: (mb, mobj .u64 es c) :: d2 ∧ Mok es c ∧ FsR M es d2

theorem infoL_length (F : FileM) : (infoL F).length = 35 := by simp [infoL, sumL]

theorem ChR.nil {es : List Ent} {ds : Hp} (h : ChR [] es ds) : es = [] ∧ ds = [] := by
  cases es with
  | nil => exact ⟨rfl, h⟩
  | cons e es => exact h.elim
theorem ChR.cons {h0 : Ch} {hs : List Ch} {es : List Ent} {ds : Hp} (h : ChR (h0 :: hs) es ds) : ∃ e es' a c sg d2, es = e :: es' ∧ e.key = h0.k ∧ h0.b.length ≤ 64 ∧ IsB h0.b ∧ h0.s < 4294967296 ∧ e.val = chV a h0.b.length c h0.s ∧
    OwnS 5 1 (.slice a h0.b.length c) h0.b.length (iv .u8 h0.b) sg ∧ ds = sg ++ d2 ∧ ChR hs es' d2 := by
  cases es with
  | nil => exact h.elim
  | cons e es =>
    obtain ⟨h1, h2, h3, h4, a, c, sg, d2, h5, h6, h7, h8⟩ := h
    exact ⟨e, es, a, c, sg, d2, rfl, h1, h2, h3, h4, h5, h6, h7, h8⟩
theorem chr_none : ∀ {hs : List Ch} {es : List Ent} {ds : Hp}, ChR hs es ds → ∀ j, hs.find? (fun c => decide (c.k = j)) = none → mlook es j = none
  | [], es, ds, h, j, _ => by obtain ⟨rfl, _⟩ := h.nil; rfl
  | h0 :: hs, es, ds, h, j, hf => by
    obtain ⟨e, es', a, c, sg, d2, rfl, hk, _, _, _, _, _, _, hr⟩ := h.cons
    rw [List.find?_cons] at hf
    by_cases hq : h0.k = j
    · simp [hq] at hf
    · simp only [hq, decide_false] at hf
      simp only [mlook]
      rw [if_neg (by rw [hk]; exact hq)]
      exact chr_none hr j hf
/-- A chunk that is there: what the map says, and a way to put another in its segment's place. -/
theorem chr_some : ∀ {hs : List Ch} {es : List Ent} {ds : Hp}, ChR hs es ds → ∀ j h0, hs.find? (fun c => decide (c.k = j)) = some h0 →
    ∃ a c d1 sg d2, h0.k = j ∧ mlook es j = some (chV a h0.b.length c h0.s) ∧ h0.b.length ≤ 64 ∧ IsB h0.b ∧ h0.s < 4294967296 ∧ OwnS 5 1 (.slice a h0.b.length c) h0.b.length (iv .u8 h0.b) sg ∧ ds = d1 ++ (sg ++ d2) ∧
      (∀ (h1 : Ch) sg', h1.k = j → h1.b.length = h0.b.length → h1.s = h0.s → IsB h1.b → OwnS 5 1 (.slice a h0.b.length c) h0.b.length (iv .u8 h1.b) sg' → ChR (chPut hs h1) es (d1 ++ (sg' ++ d2))) ∧
      (∀ (h1 : Ch) a' c' sg' cc, h1.k = j → h1.b.length ≤ 64 → IsB h1.b → h1.s < 4294967296 → OwnS 5 1 (.slice a' h1.b.length c') h1.b.length (iv .u8 h1.b) sg' → ChR (chPut hs h1) (mput es cc j (chV a' h1.b.length c' h1.s)) (d1 ++ (sg' ++ d2)))
  | [], es, ds, h, j, h0, hf => by simp at hf
  | g :: hs, es, ds, h, j, h0, hf => by
    obtain ⟨e, es', a, c, sg, d2, rfl, hk, hl, hb, hs4, hv, hown, rfl, hr⟩ := h.cons
    rw [List.find?_cons] at hf
    by_cases hq : g.k = j
    · simp only [hq, decide_true, Option.some.injEq] at hf
      subst hf
      refine ⟨a, c, [], sg, d2, hq, by simp only [mlook]; rw [if_pos (by rw [hk]; exact hq), hv], hl, hb, hs4, hown, rfl, fun h1 sg' h2 h3 h4 h5 h6 => ?_, fun h1 a' c' sg' cc h2 h3 h4 h5 h6 => ?_⟩
      · simp only [chPut, if_pos (show g.k = h1.k by rw [h2]; exact hq)]
        exact ⟨by rw [hk, hq, h2], by omega, h5, by rw [h4]; exact hs4, a, c, sg', d2, by rw [hv, h3, h4], by rw [h3]; exact h6, rfl, hr⟩
      · simp only [chPut, if_pos (show g.k = h1.k by rw [h2]; exact hq), mput, if_pos (show e.key = j by rw [hk]; exact hq)]
        exact ⟨by show e.key = h1.k; rw [hk, hq, h2], h3, h4, h5, a', c', sg', d2, rfl, h6, rfl, hr⟩
    · simp only [hq, decide_false] at hf
      obtain ⟨a2, c2, e1, sg2, e2, q1, q2, q3, q4, q5, q6, rfl, q8, q9⟩ := chr_some hr j h0 hf
      refine ⟨a2, c2, sg ++ e1, sg2, e2, q1, by simp only [mlook]; rw [if_neg (by rw [hk]; exact hq)]; exact q2, q3, q4, q5, q6, by simp [List.append_assoc], fun h1 sg' h2 h3 h4 h5 h6 => ?_, fun h1 a' c' sg' cc h2 h3 h4 h5 h6 => ?_⟩
      · simp only [chPut, if_neg (show ¬ g.k = h1.k by rw [h2]; exact hq)]
        exact ⟨hk, hl, hb, hs4, a, c, sg, e1 ++ (sg' ++ e2), hv, hown, by simp [List.append_assoc], q8 h1 sg' h2 h3 h4 h5 h6⟩
      · simp only [chPut, if_neg (show ¬ g.k = h1.k by rw [h2]; exact hq), mput, if_neg (show ¬ e.key = j by rw [hk]; exact hq)]
        exact ⟨hk, hl, hb, hs4, a, c, sg, e1 ++ (sg' ++ e2), hv, hown, by simp [List.append_assoc], q9 h1 a' c' sg' cc h2 h3 h4 h5 h6⟩
/-- A chunk that was not there. -/
theorem chr_new : ∀ {hs : List Ch} {es : List Ent} {ds : Hp}, ChR hs es ds → ∀ (h1 : Ch) a' c' sg' cc, hs.find? (fun c => decide (c.k = h1.k)) = none → h1.b.length ≤ 64 → IsB h1.b → h1.s < 4294967296 →
    OwnS 5 1 (.slice a' h1.b.length c') h1.b.length (iv .u8 h1.b) sg' → ChR (chPut hs h1) (mput es cc h1.k (chV a' h1.b.length c' h1.s)) (ds ++ sg')
  | [], es, ds, h, h1, a', c', sg', cc, _, h3, h4, h5, h6 => by
    obtain ⟨rfl, rfl⟩ := h.nil
    exact ⟨rfl, h3, h4, h5, a', c', sg', [], rfl, h6, by simp, rfl⟩
  | g :: hs, es, ds, h, h1, a', c', sg', cc, hf, h3, h4, h5, h6 => by
    obtain ⟨e, es', a, c, sg, d2, rfl, hk, hl, hb, hs4, hv, hown, rfl, hr⟩ := h.cons
    rw [List.find?_cons] at hf
    by_cases hq : g.k = h1.k
    · simp [hq] at hf
    · simp only [hq, decide_false] at hf
      simp only [chPut, if_neg hq, mput, if_neg (show ¬ e.key = h1.k by rw [hk]; exact hq)]
      exact ⟨hk, hl, hb, hs4, a, c, sg, d2 ++ sg', hv, hown, by simp [List.append_assoc], chr_new hr h1 a' c' sg' cc hf h3 h4 h5 h6⟩
theorem _root_.Go.Sx.OwnS.read {T : TypeId} {sz : Nat} {a : Option Addr} {m c : Nat} {cs : List Value} {sg : Hp} (h : OwnS T sz (.slice a m c) m cs sg) (W0 : World) (R : Hp) : Sl W0 (sg ++ R) a cs := by
  obtain ⟨a', c', e, _, _, hs⟩ := h.val
  cases e
  exact hs W0 R
/-- What a look at a chunk shows, wherever its segment lies. -/
theorem chr_see {hs : List Ch} {es : List Ent} {ds : Hp} (h : ChR hs es ds) (j : Int) (h0 : Ch) (hf : hs.find? (fun c => decide (c.k = j)) = some h0) :
    ∃ a c, mlook es j = some (chV a h0.b.length c h0.s) ∧ h0.b.length ≤ 64 ∧ IsB h0.b ∧ ∀ W0 H, (∀ w, St W0 w H → St W0 w ds) → Sl W0 H a (iv .u8 h0.b) := by
  obtain ⟨a, c, d1, sg, d2, _, q2, q3, q4, _, q6, rfl, _, _⟩ := chr_some h j h0 hf
  refine ⟨a, c, q2, q3, q4, fun W0 H hh => (q6.read W0 d2).of (fun w hS => (hh w hS).sublist (List.sublist_append_right _ _))⟩

/-! ### Files -/
theorem FsR.nil {es : List Ent} {ds : Hp} (h : FsR [] es ds) : es = [] ∧ ds = [] := by
  cases es with
  | nil => exact ⟨rfl, h⟩
  | cons e es => exact h.elim
theorem FsR.cons {F : FileM} {Fs : List FileM} {es : List Ent} {ds : Hp} (h : FsR (F :: Fs) es ds) : ∃ e es' fb sg d2, es = e :: es' ∧ e.key = F.id ∧ e.val = .pointer (some ⟨fb, 0, none⟩) ∧ FR F fb sg ∧ ds = sg ++ d2 ∧ FsR Fs es' d2 := by
  cases es with
  | nil => exact h.elim
  | cons e es =>
    obtain ⟨h1, fb, sg, d2, h5, h6, h7, h8⟩ := h
    exact ⟨e, es, fb, sg, d2, rfl, h1, h5, h6, h7, h8⟩
def fFind (M : List FileM) (id : Int) : Option FileM := M.find? fun F => decide (F.id = id)
def fSet : List FileM → FileM → List FileM
  | [], _ => []
  | F :: Fs, G => if F.id = G.id then G :: Fs else F :: fSet Fs G
theorem fsr_none : ∀ {Fs : List FileM} {es : List Ent} {ds : Hp}, FsR Fs es ds → ∀ id, fFind Fs id = none → mlook es id = none
  | [], es, ds, h, j, _ => by obtain ⟨rfl, _⟩ := h.nil; rfl
  | F :: Fs, es, ds, h, j, hf => by
    obtain ⟨e, es', fb, sg, d2, rfl, hk, hv, hr0, rfl, hr⟩ := h.cons
    unfold fFind at hf
    rw [List.find?_cons] at hf
    by_cases hq : F.id = j
    · simp [hq] at hf
    · simp only [hq, decide_false] at hf
      simp only [mlook]
      rw [if_neg (by rw [hk]; exact hq)]
      exact fsr_none hr j hf
theorem fsr_some : ∀ {Fs : List FileM} {es : List Ent} {ds : Hp}, FsR Fs es ds → ∀ id F, fFind Fs id = some F →
    ∃ fb d1 sg d2, F.id = id ∧ mlook es id = some (.pointer (some ⟨fb, 0, none⟩)) ∧ FR F fb sg ∧ ds = d1 ++ (sg ++ d2) ∧ ∀ (G : FileM) sg', G.id = id → FR G fb sg' → FsR (fSet Fs G) es (d1 ++ (sg' ++ d2))
  | [], es, ds, h, j, F, hf => by simp [fFind] at hf
  | E :: Fs, es, ds, h, j, F, hf => by
    obtain ⟨e, es', fb, sg, d2, rfl, hk, hv, hr0, rfl, hr⟩ := h.cons
    unfold fFind at hf
    rw [List.find?_cons] at hf
    by_cases hq : E.id = j
    · simp only [hq, decide_true, Option.some.injEq] at hf
      subst hf
      refine ⟨fb, [], sg, d2, hq, by simp only [mlook]; rw [if_pos (by rw [hk]; exact hq), hv], hr0, rfl, fun G sg' h1 h2 => ?_⟩
      simp only [fSet, if_pos (show E.id = G.id by rw [h1]; exact hq)]
      exact ⟨by rw [hk, hq, h1], fb, sg', d2, hv, h2, rfl, hr⟩
    · simp only [hq, decide_false] at hf
      obtain ⟨fb2, e1, sg2, e2, q1, q2, q3, rfl, q5⟩ := fsr_some hr j F hf
      refine ⟨fb2, sg ++ e1, sg2, e2, q1, by simp only [mlook]; rw [if_neg (by rw [hk]; exact hq)]; exact q2, q3, by simp [List.append_assoc], fun G sg' h1 h2 => ?_⟩
      simp only [fSet, if_neg (show ¬ E.id = G.id by rw [h1]; exact hq)]
      exact ⟨hk, fb, sg, e1 ++ (sg' ++ e2), hv, hr0, by simp [List.append_assoc], q5 G sg' h1 h2⟩
/-- A file that was not there. -/
theorem fsr_new : ∀ {Fs : List FileM} {es : List Ent} {ds : Hp}, FsR Fs es ds → ∀ (F : FileM) fb sg cc, fFind Fs F.id = none → FR F fb sg → FsR (Fs ++ [F]) (mput es cc F.id (.pointer (some ⟨fb, 0, none⟩))) (ds ++ sg)
  | [], es, ds, h, F, fb, sg, cc, _, h1 => by
    obtain ⟨rfl, rfl⟩ := h.nil
    exact ⟨rfl, fb, sg, [], rfl, h1, by simp, rfl⟩
  | E :: Fs, es, ds, h, F, fb, sg, cc, hf, h1 => by
    obtain ⟨e, es', fb2, sg2, d2, rfl, hk, hv, hr0, rfl, hr⟩ := h.cons
    unfold fFind at hf
    rw [List.find?_cons] at hf
    by_cases hq : E.id = F.id
    · simp [hq] at hf
    · simp only [hq, decide_false] at hf
      simp only [mput, if_neg (show ¬ e.key = F.id by rw [hk]; exact hq)]
      exact ⟨hk, fb2, sg2, d2 ++ sg, hv, hr0, by simp [List.append_assoc], fsr_new hr F fb sg cc hf h1⟩
theorem fsr_len : ∀ {Fs : List FileM} {es : List Ent} {ds : Hp}, FsR Fs es ds → es.length = Fs.length
  | [], es, ds, h => by obtain ⟨rfl, _⟩ := h.nil; rfl
  | E :: Fs, es, ds, h => by
    obtain ⟨e, es', fb2, sg2, d2, rfl, hk, hv, hr0, rfl, hr⟩ := h.cons
    simp [fsr_len hr]
end Go.Proofs.Ytmeimjpjelmchaa
