/- Crc: walks of functions of the program, each over the rules of Sx. No conditions but those in the theorems' heads. -/
import Derived.Test.YtmeimjpjelmchaaLv
import Derived.Test.YtmeimjpjelmchaaSxNat
import Derived.Test.YtmeimjpjelmchaaProg
set_option linter.unusedVariables false
set_option linter.unusedSimpArgs false
namespace Go.Proofs.Ytmeimjpjelmchaa
open Go.RowKit Go.Sx
namespace Crc
theorem fld_124_1 : fldI Try.prog 124 1 = some (0, false, 1) := by kernel_rfl
theorem fld_126_0 : fldI Try.prog 126 0 = some (0, false, 1) := by kernel_rfl
theorem fld_128_1 : fldI Try.prog 128 1 = some (0, true, 2) := by kernel_rfl
theorem fld_134_2 : fldI Try.prog 134 2 = some (0, false, 1) := by kernel_rfl
theorem k_83 : Cal Try.prog 83 := ⟨_, _, Try.func83, by kernel_rfl, rfl⟩
theorem k_84 : Cal Try.prog 84 := ⟨_, _, Try.func84, by kernel_rfl, rfl⟩
theorem k_86 : Cal Try.prog 86 := ⟨_, _, Try.func86, by kernel_rfl, rfl⟩
theorem ty_21 : tyI Try.prog 21 = some (false, 1) := by kernel_rfl
end Crc
open Crc

/-- The sum of bytes, with a table. -/
def crcStep (v : Nat) : Nat := if v % 2 = 1 then (v / 2) ^^^ 3988292384 else v / 2
def crcUp (v : Nat) : Nat → Nat
  | 0 => v
  | k + 1 => crcStep (crcUp v k)
def crcT (i : Nat) : Nat := crcUp i 8
theorem crcStep_lt {v : Nat} (h : v < 4294967296) : crcStep v < 4294967296 := by
  unfold crcStep
  split
  · have : v / 2 ^^^ 3988292384 < 2 ^ 32 := Nat.xor_lt_two_pow (by omega) (by decide)
    simpa using this
  · omega
theorem crcUp_lt {v : Nat} (h : v < 4294967296) : ∀ k, crcUp v k < 4294967296
  | 0 => h
  | k + 1 => crcStep_lt (crcUp_lt h k)
theorem crcT_lt {i : Nat} (h : i < 4294967296) : crcT i < 4294967296 := crcUp_lt h 8
def tabL : List Int := (List.range 256).map fun (i : Nat) => ((crcT i : Nat) : Int)
theorem tabL_length : tabL.length = 256 := by simp [tabL]
theorem tabL_get (i : Nat) (h : i < 256) : tabL.getD i 0 = ((crcT i : Nat) : Int) := by simp [tabL, List.getD_eq_getElem?_getD, h]
def crcOn (v c : Nat) : Nat := (v / 2 ^ 8) ^^^ crcT ((v % 256) ^^^ c)
def crcL (v : Nat) (l : List Int) : Nat := l.foldl (fun v c => crcOn v c.toNat) v
def crcOf (l : List Int) : Nat := 4294967295 ^^^ crcL 4294967295 l
theorem crcOn_lt {v c : Nat} (h : v < 4294967296) (hc : c < 256) : crcOn v c < 4294967296 := by
  unfold crcOn
  have h1 : v / 2 ^ 8 < 2 ^ 32 := by omega
  have h2 : (v % 256) ^^^ c < 2 ^ 8 := Nat.xor_lt_two_pow (by omega) (by omega)
  have h3 := crcT_lt (show (v % 256) ^^^ c < 4294967296 by omega)
  have : v / 2 ^ 8 ^^^ crcT ((v % 256) ^^^ c) < 2 ^ 32 := Nat.xor_lt_two_pow h1 (by omega)
  simpa using this
theorem crcL_lt : ∀ {l : List Int} {v : Nat}, IsB l → v < 4294967296 → crcL v l < 4294967296
  | [], v, _, h => h
  | c :: l, v, hl, h => by
    have hc := hl c (by simp)
    exact crcL_lt (l := l) (fun x hx => hl x (List.mem_cons_of_mem _ hx)) (crcOn_lt h (by omega))
theorem crcL_snoc (v : Nat) (l : List Int) (c : Int) : crcL v (l ++ [c]) = crcOn (crcL v l) c.toNat := by simp [crcL, List.foldl_append]
theorem crcOf_lt {l : List Int} (h : IsB l) : crcOf l < 4294967296 := by
  have : 4294967295 ^^^ crcL 4294967295 l < 2 ^ 32 := Nat.xor_lt_two_pow (by decide) (by have := crcL_lt h (v := 4294967295) (by decide); omega)
  unfold crcOf
  simpa using this
/-- A summer's cells. -/
def smL (d m s : Int) (tb : List Int) (r : Int) : List Value := .int .u32 d :: .int .i32 m :: .int .u32 s :: (iv .u32 tb ++ [.int .i64 r])
abbrev smO (d m s : Int) (tb : List Int) (r : Int) : Obj := cl (smL d m s tb r) 136

set_option maxRecDepth 100000 in
theorem aLoad_c {W0 : World} {H : Hp} {g i : Nat} {d m s r : Int} {tb : List Int} (hi : H[i]? = some (g, smO d m s tb r)) : CxD Try.prog W0 76 #[.pointer (some ⟨g, 0, none⟩)] H (.bool (!decide (d = 0))) H := by
  refine enter Try.func76 rfl Try.ntmps76 rfl ?_
  refine WC.seq ?_
  refine WC.region ?_
  refine WL.p (.none rfl) rfl (OpP.assign rfl) ?_
  refine WL.nil ?_
  refine EQ.sub ((Sub.cons (i := 0) rfl (Sub.cons (i := 2) rfl (Sub.nil _)))) ?_
  refine EQ.code ?_
  refine WC.seq ?_
  refine WC.region ?_
  refine WL.p (.none rfl) rfl (OpP.move rfl) ?_
  refine WL.p (.none rfl) rfl (OpP.nilCheck rfl) ?_
  refine WL.p (.none rfl) rfl (OpP.fieldAddr rfl fld_124_1) ?_
  refine WL.p (.none rfl) rfl (OpP.extern rfl (fun w hS => run_call_load (fn := Try.f79) (by kernel_rfl) (by kernel_rfl) rfl (by kernel_rfl) .u32 (by kernel_rfl) (x := d) (cell_own hS (by repeat (first | assumption | exact List.mem_cons_self | exact List.mem_of_getElem? (by assumption) | apply List.mem_cons_of_mem | apply List.mem_append_right)) rfl))) ?_
  refine WL.p (.none rfl) rfl (OpP.neqI rfl rfl) ?_
  refine WL.p (.none rfl) rfl (OpP.assign rfl) ?_
  refine WL.nil ?_
  refine EQ.sub ((Sub.cons (i := 2) rfl (Sub.nil _))) ?_
  refine EQ.code ?_
  refine WC.ret ?_
  refine EQ.fin (res1 rfl (.tmp rfl)) ?_
  exact ⟨rfl, rfl⟩

set_option maxRecDepth 100000 in
theorem b32_c {W0 : World} {H : Hp} : CxD Try.prog W0 86 #[.bool true] H (.int .u32 1) H := by
  refine enter Try.func86 rfl Try.ntmps86 rfl ?_
  refine WC.seq ?_
  refine WC.region ?_
  refine WL.p (.none rfl) rfl (OpP.assign rfl) ?_
  refine WL.nil ?_
  refine EQ.sub ((Sub.cons (i := 0) rfl (Sub.cons (i := 2) rfl (Sub.nil _)))) ?_
  refine EQ.code ?_
  refine WC.seq ?_
  refine WC.seq ?_
  refine WC.region ?_
  refine WL.p (.none rfl) rfl (OpP.move rfl) ?_
  refine WL.nil ?_
  refine EQ.sub ((Sub.cons (i := 2) rfl (Sub.cons (i := 3) rfl (Sub.nil _)))) ?_
  refine EQ.code ?_
  refine WC.condT rfl ?_
  refine WC.seq ?_
  refine WC.region ?_
  refine WL.p (.none rfl) rfl (OpP.assign rfl) ?_
  refine WL.nil ?_
  refine EQ.sub ((Sub.cons (i := 2) rfl (Sub.nil _))) ?_
  refine EQ.code ?_
  refine WC.ret ?_
  refine EQ.thenR ?_
  refine EQ.fin (res1 rfl (.tmp rfl)) ?_
  exact ⟨rfl, rfl⟩

set_option maxRecDepth 100000 in
theorem aStore_d {W0 : World} {H : Hp} {g i : Nat} {d m s r : Int} {tb : List Int} (hi : H[i]? = some (g, smO d m s tb r)) : CdX Try.prog W0 82 #[.pointer (some ⟨g, 0, none⟩), .bool true] H (.tuple #[]) (H.set i (g, smO 1 m s tb r)) := by
  refine enterD Try.func82 rfl Try.ntmps82 rfl ?_
  refine WC.drawT 5 (by kernel_rfl) (by kernel_rfl) ?_
  refine WQ.p (.none rfl) rfl (OpP.move rfl) ?_
  refine WQ.p (.none rfl) rfl (OpP.nilCheck rfl) ?_
  refine WQ.p (.none rfl) rfl (OpP.fieldAddr rfl fld_124_1) ?_
  refine WQ.p (.none rfl) rfl (OpP.move rfl) ?_
  refine WQ.callD rfl (.none rfl) rfl k_86 rfl (b32_c) ?_
  refine WQ.tail ?_
  refine WL.externS rfl (.none rfl) rfl rfl hi (c := 0) (u := .int .u32 1) (fun w hS => run_call_store (fn := Try.f85) (by kernel_rfl) (by kernel_rfl) rfl (by kernel_rfl) (by kernel_rfl) (cell_own hS (List.mem_of_getElem? hi) rfl) (frozen_own hS (List.mem_of_getElem? hi))) ?_
  refine WL.nil ?_
  refine EQ.sub ((Sub.nil _)) ?_
  refine EQ.finN (res0 rfl) ?_
  exact ⟨rfl, rfl⟩

set_option maxRecDepth 100000 in
theorem iLock_c {W0 : World} {H : Hp} {g i : Nat} {d m s r : Int} {tb : List Int} (hi : H[i]? = some (g, smO d m s tb r)) (hm0 : m = 0) : CxD Try.prog W0 83 #[.pointer (some ⟨g, 1, none⟩)] H (.tuple #[]) (H.set i (g, smO d 1 s tb r)) := by
  subst hm0
  refine enter Try.func83 rfl Try.ntmps83 rfl ?_
  refine WC.seq ?_
  refine WC.region ?_
  refine WL.p (.none rfl) rfl (OpP.extern rfl (fun w hS => run_call_mark0 (fn := Try.f87) (by kernel_rfl) (by kernel_rfl) rfl (by kernel_rfl) .disable (by kernel_rfl) w)) ?_
  refine WL.nil ?_
  refine EQ.sub ((Sub.cons (i := 0) rfl (Sub.nil _))) ?_
  refine EQ.code ?_
  refine WC.seq ?_
  refine WC.seq ?_
  refine WC.region ?_
  refine WL.p (.none rfl) rfl (OpP.move rfl) ?_
  refine WL.p (.none rfl) rfl (OpP.nilCheck rfl) ?_
  refine WL.p (.none rfl) rfl (OpP.fieldAddr rfl fld_126_0) ?_
  refine WL.externS rfl (.none rfl) rfl rfl hi (c := 1) (u := .int .i32 1) (fun w hS => run_call_cas_hit (fn := Try.f88) (by kernel_rfl) (by kernel_rfl) rfl (by kernel_rfl) .i32 (by kernel_rfl) (cell_own hS (List.mem_of_getElem? hi) rfl) (frozen_own hS (List.mem_of_getElem? hi))) ?_
  refine WL.nil ?_
  refine EQ.sub ((Sub.cons (i := 0) rfl (Sub.cons (i := 6) rfl (Sub.nil _)))) ?_
  refine EQ.code ?_
  refine WC.condT rfl ?_
  refine WC.seq ?_
  refine WC.condT rfl ?_
  refine WC.seq ?_
  refine WC.region ?_
  refine WL.p (.none rfl) rfl (OpP.extern rfl (fun w hS => run_call_mark0 (fn := Try.f89) (by kernel_rfl) (by kernel_rfl) rfl (by kernel_rfl) .enable (by kernel_rfl) w)) ?_
  refine WL.nil ?_
  refine EQ.sub ((Sub.cons (i := 0) rfl (Sub.nil _))) ?_
  refine EQ.code ?_
  refine WC.region ?_
  refine WL.p (.none rfl) rfl (OpP.move rfl) ?_
  refine WL.p (.none rfl) rfl (OpP.toUnsafe rfl Try.underlying156 Try.underlying160 (by kernel_rfl) (Rd.own (List.mem_of_getElem? (set_hit hi)) (by rfl))) ?_
  refine WL.p (.none rfl) rfl (OpP.extern rfl (fun w hS => run_call_marked (fn := Try.f90) (by kernel_rfl) (by kernel_rfl) rfl (by kernel_rfl) .acquire (by kernel_rfl) _ w)) ?_
  refine WL.nil ?_
  refine EQ.sub ((Sub.cons (i := 0) rfl (Sub.nil _))) ?_
  refine EQ.code ?_
  refine WC.ret ?_
  refine EQ.thenR ?_
  refine EQ.fin (res0 rfl) ?_
  exact ⟨rfl, rfl⟩

set_option maxRecDepth 100000 in
theorem Lock_c {W0 : World} {H : Hp} {g i : Nat} {d m s r : Int} {tb : List Int} (hi : H[i]? = some (g, smO d m s tb r)) (hm0 : m = 0) : CxD Try.prog W0 80 #[.pointer (some ⟨g, 1, none⟩)] H (.tuple #[]) (H.set i (g, smO d 1 s tb r)) := by
  refine enter Try.func80 rfl Try.ntmps80 rfl ?_
  refine WC.region ?_
  refine WL.p (.none rfl) rfl (OpP.move rfl) ?_
  refine WL.p (.none rfl) rfl (OpP.nilCheck rfl) ?_
  refine WL.p (.none rfl) rfl (OpP.fieldAddr rfl fld_128_1) ?_
  refine WL.callD rfl (.none rfl) rfl k_83 rfl (iLock_c hi hm0) ?_
  refine WL.nil ?_
  refine EQ.sub ((Sub.nil _)) ?_
  refine EQ.finN (res0 rfl) ?_
  exact ⟨rfl, rfl⟩

set_option maxRecDepth 100000 in
theorem iUnlock_c {W0 : World} {H : Hp} {g i : Nat} {d m s r : Int} {tb : List Int} (hi : H[i]? = some (g, smO d m s tb r)) (hm0 : m = 1) : CxD Try.prog W0 84 #[.pointer (some ⟨g, 1, none⟩)] H (.tuple #[]) (H.set i (g, smO d 0 s tb r)) := by
  subst hm0
  refine enter Try.func84 rfl Try.ntmps84 rfl ?_
  refine WC.seq ?_
  refine WC.condT rfl ?_
  refine WC.seq ?_
  refine WC.region ?_
  refine WL.p (.none rfl) rfl (OpP.move rfl) ?_
  refine WL.p (.none rfl) rfl (OpP.nilCheck rfl) ?_
  refine WL.p (.none rfl) rfl (OpP.fieldAddr rfl fld_126_0) ?_
  refine WL.p (.none rfl) rfl (OpP.load rfl ty_21 (Rd.own (by repeat (first | assumption | exact List.mem_cons_self | exact List.mem_of_getElem? (by assumption) | exact set_mem (by first | assumption | exact set_hit (by assumption)) | apply List.mem_cons_of_mem | apply List.mem_append_right)) (by rfl))) ?_
  refine WL.nil ?_
  refine EQ.sub ((Sub.cons (i := 0) rfl (Sub.nil _))) ?_
  refine EQ.code ?_
  refine WC.seq ?_
  refine WC.region ?_
  refine WL.p (.none rfl) rfl (OpP.move rfl) ?_
  refine WL.p (.none rfl) rfl (OpP.toUnsafe rfl Try.underlying156 Try.underlying160 (by kernel_rfl) (Rd.own (List.mem_of_getElem? hi) (by rfl))) ?_
  refine WL.p (.none rfl) rfl (OpP.extern rfl (fun w hS => run_call_marked (fn := Try.f92) (by kernel_rfl) (by kernel_rfl) rfl (by kernel_rfl) .releaseMerge (by kernel_rfl) _ w)) ?_
  refine WL.nil ?_
  refine EQ.sub ((Sub.cons (i := 0) rfl (Sub.nil _))) ?_
  refine EQ.code ?_
  refine WC.region ?_
  refine WL.p (.none rfl) rfl (OpP.extern rfl (fun w hS => run_call_mark0 (fn := Try.f87) (by kernel_rfl) (by kernel_rfl) rfl (by kernel_rfl) .disable (by kernel_rfl) w)) ?_
  refine WL.nil ?_
  refine EQ.sub ((Sub.cons (i := 0) rfl (Sub.nil _))) ?_
  refine EQ.code ?_
  refine WC.seq ?_
  refine WC.region ?_
  refine WL.p (.none rfl) rfl (OpP.move rfl) ?_
  refine WL.p (.none rfl) rfl (OpP.nilCheck rfl) ?_
  refine WL.p (.none rfl) rfl (OpP.fieldAddr rfl fld_126_0) ?_
  refine WL.externS rfl (.none rfl) rfl rfl hi (c := 1) (u := .int .i32 0) (fun w hS => run_call_add (fn := Try.f93) (by kernel_rfl) (by kernel_rfl) rfl (by kernel_rfl) .i32 (by kernel_rfl) (cell_own hS (List.mem_of_getElem? hi) rfl) (frozen_own hS (List.mem_of_getElem? hi)) (by rfl)) ?_
  refine WL.p (.none rfl) rfl (OpP.assign rfl) ?_
  refine WL.nil ?_
  refine EQ.sub ((Sub.cons (i := 0) rfl (Sub.cons (i := 2) rfl (Sub.nil _)))) ?_
  refine EQ.code ?_
  refine WC.seq ?_
  refine WC.seq ?_
  refine WC.region ?_
  refine WL.p (.none rfl) rfl (OpP.move rfl) ?_
  refine WL.p (.none rfl) rfl (OpP.neqI rfl rfl) ?_
  refine WL.nil ?_
  refine EQ.sub ((Sub.cons (i := 0) rfl (Sub.cons (i := 2) rfl (Sub.cons (i := 16) rfl (Sub.nil _))))) ?_
  refine EQ.code ?_
  refine WC.condF rfl ?_
  refine WC.skip ?_
  refine EQ.code ?_
  refine WC.region ?_
  refine WL.p (.none rfl) rfl (OpP.extern rfl (fun w hS => run_call_mark0 (fn := Try.f89) (by kernel_rfl) (by kernel_rfl) rfl (by kernel_rfl) .enable (by kernel_rfl) w)) ?_
  refine WL.nil ?_
  refine EQ.sub ((Sub.nil _)) ?_
  refine EQ.finN (res0 rfl) ?_
  exact ⟨rfl, rfl⟩

set_option maxRecDepth 100000 in
theorem Unlock_d {W0 : World} {H : Hp} {g i : Nat} {d m s r : Int} {tb : List Int} (hi : H[i]? = some (g, smO d m s tb r)) (hm0 : m = 1) : CdX Try.prog W0 81 #[.pointer (some ⟨g, 1, none⟩)] H (.tuple #[]) (H.set i (g, smO d 0 s tb r)) := by
  refine enterD Try.func81 rfl Try.ntmps81 rfl ?_
  refine WC.region ?_
  refine WL.p (.none rfl) rfl (OpP.move rfl) ?_
  refine WL.p (.none rfl) rfl (OpP.nilCheck rfl) ?_
  refine WL.p (.none rfl) rfl (OpP.fieldAddr rfl fld_128_1) ?_
  refine WL.callD rfl (.none rfl) rfl k_84 rfl (iUnlock_c hi hm0) ?_
  refine WL.nil ?_
  refine EQ.sub ((Sub.nil _)) ?_
  refine EQ.finN (res0 rfl) ?_
  exact ⟨rfl, rfl⟩

set_option maxRecDepth 100000 in
theorem aAdd_c {W0 : World} {H : Hp} {g i : Nat} {d m s r : Int} {tb : List Int} (hi : H[i]? = some (g, smO d m s tb r)) (htb : tb.length = 256) (hr0 : r = 0) : CxD Try.prog W0 74 #[.pointer (some ⟨g, 259, none⟩), .int .i64 1] H (.int .i64 1) (H.set i (g, smO d m s tb 1)) := by
  subst hr0
  have hg259 : (smL d m s tb 0)[259]? = some (.int .i64 0) := by simp [smL, htb]
  have hs259 : (smL d m s tb 0).set 259 (.int .i64 1) = smL d m s tb 1 := by simp only [smL, List.set_cons_succ]; rw [List.set_append_right _ _ (by simp [htb])]; simp [htb]
  refine enter Try.func74 rfl Try.ntmps74 rfl ?_
  refine WC.seq ?_
  refine WC.region ?_
  refine WL.p (.none rfl) rfl (OpP.assign rfl) ?_
  refine WL.nil ?_
  refine EQ.sub ((Sub.cons (i := 0) rfl (Sub.cons (i := 1) rfl (Sub.cons (i := 4) rfl (Sub.nil _))))) ?_
  refine EQ.code ?_
  refine WC.seq ?_
  refine WC.region ?_
  refine WL.p (.none rfl) rfl (OpP.move rfl) ?_
  refine WL.p (.none rfl) rfl (OpP.nilCheck rfl) ?_
  refine WL.p (.none rfl) rfl (OpP.fieldAddr rfl fld_134_2) ?_
  refine WL.p (.none rfl) rfl (OpP.move rfl) ?_
  refine WL.externS rfl (.none rfl) rfl rfl hi (c := 259) (u := .int .i64 1) (fun w hS => run_call_add (fn := Try.f78) (by kernel_rfl) (by kernel_rfl) rfl (by kernel_rfl) .i64 (by kernel_rfl) (cell_own hS (List.mem_of_getElem? hi) hg259) (frozen_own hS (List.mem_of_getElem? hi)) (by rfl)) ?_
  rw [hs259]
  refine WL.p (.none rfl) rfl (OpP.assign rfl) ?_
  refine WL.nil ?_
  refine EQ.sub ((Sub.cons (i := 4) rfl (Sub.nil _))) ?_
  refine EQ.code ?_
  refine WC.ret ?_
  refine EQ.fin (res1 rfl (.tmp rfl)) ?_
  exact ⟨rfl, rfl⟩

end Go.Proofs.Ytmeimjpjelmchaa
