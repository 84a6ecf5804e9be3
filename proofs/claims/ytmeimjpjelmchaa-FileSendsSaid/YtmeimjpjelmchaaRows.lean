/-
  No cell of these rows narrows 'for every input' (looked for: loops, veiled, ifaces, maps, wideKeys, modest, calm, conditions, laid).
  DERIVED. THE GIVEN ROWS OF THIS SEAT. 5 by the template 'for every input the law returns true; each argument reads behind the call as it read before'; 0 by the template 'total and deterministic' (their statements: YtmeimjpjelmchaaTotals.lean).
  GIVEN WITH THE SEED: the statements are not yours to turn. If you find one false, say at which input.
  Laid BY PROGRAM, IN A SANDBOX (cutbox-rows.mjs): the forced cells as the released guide's own fill.sh prints them over the translation 8397ae9f3d86ce74… (all of the seat's roots in one cut). By AI agents, Wed Nov 11 2026. No macro, syntax, notation, axiom, sorry.
-/
import Derived.Test.YtmeimjpjelmchaaChecked
import GoSem.Claim
import GoSem.ClaimJoined
import GoSem.ClaimMapViews
import Derived.JoinedTies
import Derived.KernelRfl
namespace Go.Proofs.Ytmeimjpjelmchaa
/- THE CELL 'sum', in the pinned program and in every row, IS THE sha256 OF THE DUMP (.gsa) THAT YtmeimjpjelmchaaProg.lean LOADS. Nothing in Lean hashes anything: it is a label: what it is worth is what the hold of that sum in a sandbox is worth. -/
noncomputable def Try.pinned : Pinned := { name := "ytmeimjpjelmchaa", sum := "8397ae9f3d86ce74cbca7c7b384cee73fc516355a5cf063d85d0371065fc7312", checked := Try.checked }
namespace Rows
def none {H : Type} : Left H := { results := [], args := [] }

/-- 'longlinelaw26.FileLives': WHATEVER THE INPUT: true; the input reads as it did. -/
def fileLivesSpec : ChangeSpec := { name := "fileLives", fn := fun _ => fun
  | [d1, d2, d3, d4] => { results := [.lit (.bool true)], args := [d1, d2, d3, d4] }
  | _ => none }
def fileLivesRow : OpenClaim := { program := "ytmeimjpjelmchaa", sum := "8397ae9f3d86ce74cbca7c7b384cee73fc516355a5cf063d85d0371065fc7312", func := "longline/longlinelaw26.FileLives", spec := "fileLives", apart := false }
def FileLivesSaid : Prop := fileLivesRow.holds Try.pinned (OpenSpec.ofChange fileLivesSpec)

/-- ITS FALSE NEIGHBOUR: 'it returns false'. Refute it at one input. -/
def fileLivesWrong : ChangeSpec := { name := "fileLives", fn := fun _ => fun
  | [d1, d2, d3, d4] => { results := [.lit (.bool false)], args := [d1, d2, d3, d4] }
  | _ => none }
def FileLivesWrongFalsely : Prop := fileLivesRow.holds Try.pinned (OpenSpec.ofChange fileLivesWrong)

/-- 'longlinelaw26.FileCancels': WHATEVER THE INPUT: true; the input reads as it did. -/
def fileCancelsSpec : ChangeSpec := { name := "fileCancels", fn := fun _ => fun
  | [d1, d2] => { results := [.lit (.bool true)], args := [d1, d2] }
  | _ => none }
def fileCancelsRow : OpenClaim := { program := "ytmeimjpjelmchaa", sum := "8397ae9f3d86ce74cbca7c7b384cee73fc516355a5cf063d85d0371065fc7312", func := "longline/longlinelaw26.FileCancels", spec := "fileCancels", apart := false }
def FileCancelsSaid : Prop := fileCancelsRow.holds Try.pinned (OpenSpec.ofChange fileCancelsSpec)

/-- ITS FALSE NEIGHBOUR: 'it returns false'. Refute it at one input. -/
def fileCancelsWrong : ChangeSpec := { name := "fileCancels", fn := fun _ => fun
  | [d1, d2] => { results := [.lit (.bool false)], args := [d1, d2] }
  | _ => none }
def FileCancelsWrongFalsely : Prop := fileCancelsRow.holds Try.pinned (OpenSpec.ofChange fileCancelsWrong)

/-- 'longlinelaw25.StoreSizes': WHATEVER THE INPUT: true; the input reads as it did. -/
def storeSizesSpec : ChangeSpec := { name := "storeSizes", fn := fun _ => fun
  | [d1, d2] => { results := [.lit (.bool true)], args := [d1, d2] }
  | _ => none }
def storeSizesRow : OpenClaim := { program := "ytmeimjpjelmchaa", sum := "8397ae9f3d86ce74cbca7c7b384cee73fc516355a5cf063d85d0371065fc7312", func := "longline/longlinelaw25.StoreSizes", spec := "storeSizes", inPlace := ["sync/atomic.LoadUint32", "(*internal/sync.Mutex).Lock", "internal/race.Disable", "sync/atomic.CompareAndSwapInt32", "internal/race.Enable", "internal/race.Acquire", "(*internal/sync.Mutex).lockSlow", "internal/sync.runtime_canSpin", "internal/sync.runtime_doSpin", "internal/sync.throw", "internal/sync.runtime_nanotime", "internal/sync.runtime_SemacquireMutex", "sync/atomic.AddInt32", "(*internal/sync.Mutex).Unlock", "internal/race.ReleaseMerge", "(*internal/sync.Mutex).unlockSlow", "internal/sync.fatal", "internal/sync.runtime_Semrelease", "sync/atomic.StoreUint32", "sync/atomic.AddInt64"], unfollowed := true, recurses := true, apart := false }
def StoreSizesSaid : Prop := storeSizesRow.holds Try.pinned (OpenSpec.ofChange storeSizesSpec)

/-- ITS FALSE NEIGHBOUR: 'it returns false'. Refute it at one input. -/
def storeSizesWrong : ChangeSpec := { name := "storeSizes", fn := fun _ => fun
  | [d1, d2] => { results := [.lit (.bool false)], args := [d1, d2] }
  | _ => none }
def StoreSizesWrongFalsely : Prop := storeSizesRow.holds Try.pinned (OpenSpec.ofChange storeSizesWrong)

/-- 'longlinelaw25.StoreKeeps': WHATEVER THE INPUT: true; the input reads as it did. -/
def storeKeepsSpec : ChangeSpec := { name := "storeKeeps", fn := fun _ => fun
  | [d1, d2, d3, d4, d5, d6] => { results := [.lit (.bool true)], args := [d1, d2, d3, d4, d5, d6] }
  | _ => none }
def storeKeepsRow : OpenClaim := { program := "ytmeimjpjelmchaa", sum := "8397ae9f3d86ce74cbca7c7b384cee73fc516355a5cf063d85d0371065fc7312", func := "longline/longlinelaw25.StoreKeeps", spec := "storeKeeps", inPlace := ["sync/atomic.LoadUint32", "(*internal/sync.Mutex).Lock", "internal/race.Disable", "sync/atomic.CompareAndSwapInt32", "internal/race.Enable", "internal/race.Acquire", "(*internal/sync.Mutex).lockSlow", "internal/sync.runtime_canSpin", "internal/sync.runtime_doSpin", "internal/sync.throw", "internal/sync.runtime_nanotime", "internal/sync.runtime_SemacquireMutex", "sync/atomic.AddInt32", "(*internal/sync.Mutex).Unlock", "internal/race.ReleaseMerge", "(*internal/sync.Mutex).unlockSlow", "internal/sync.fatal", "internal/sync.runtime_Semrelease", "sync/atomic.StoreUint32", "sync/atomic.AddInt64"], unfollowed := true, recurses := true, apart := false }
def StoreKeepsSaid : Prop := storeKeepsRow.holds Try.pinned (OpenSpec.ofChange storeKeepsSpec)

/-- ITS FALSE NEIGHBOUR: 'it returns false'. Refute it at one input. -/
def storeKeepsWrong : ChangeSpec := { name := "storeKeeps", fn := fun _ => fun
  | [d1, d2, d3, d4, d5, d6] => { results := [.lit (.bool false)], args := [d1, d2, d3, d4, d5, d6] }
  | _ => none }
def StoreKeepsWrongFalsely : Prop := storeKeepsRow.holds Try.pinned (OpenSpec.ofChange storeKeepsWrong)

/-- 'longlinelaw26.FileSends': WHATEVER THE INPUT: true; the input reads as it did. -/
def fileSendsSpec : ChangeSpec := { name := "fileSends", fn := fun _ => fun
  | [d1, d2, d3] => { results := [.lit (.bool true)], args := [d1, d2, d3] }
  | _ => none }
def fileSendsRow : OpenClaim := { program := "ytmeimjpjelmchaa", sum := "8397ae9f3d86ce74cbca7c7b384cee73fc516355a5cf063d85d0371065fc7312", func := "longline/longlinelaw26.FileSends", spec := "fileSends", inPlace := ["sync/atomic.LoadUint32", "(*internal/sync.Mutex).Lock", "internal/race.Disable", "sync/atomic.CompareAndSwapInt32", "internal/race.Enable", "internal/race.Acquire", "(*internal/sync.Mutex).lockSlow", "internal/sync.runtime_canSpin", "internal/sync.runtime_doSpin", "internal/sync.throw", "internal/sync.runtime_nanotime", "internal/sync.runtime_SemacquireMutex", "sync/atomic.AddInt32", "(*internal/sync.Mutex).Unlock", "internal/race.ReleaseMerge", "(*internal/sync.Mutex).unlockSlow", "internal/sync.fatal", "internal/sync.runtime_Semrelease", "sync/atomic.StoreUint32", "sync/atomic.AddInt64"], unfollowed := true, recurses := true, apart := false }
def FileSendsSaid : Prop := fileSendsRow.holds Try.pinned (OpenSpec.ofChange fileSendsSpec)

/-- ITS FALSE NEIGHBOUR: 'it returns false'. Refute it at one input. -/
def fileSendsWrong : ChangeSpec := { name := "fileSends", fn := fun _ => fun
  | [d1, d2, d3] => { results := [.lit (.bool false)], args := [d1, d2, d3] }
  | _ => none }
def FileSendsWrongFalsely : Prop := fileSendsRow.holds Try.pinned (OpenSpec.ofChange fileSendsWrong)

/- THE SECOND FORM. 'bulk': how many values and letters a reading holds, each counted each time it is reached (what is shared counts as often as it is met; a slice's spare places count too). A statement '..UptoSaid' is the law's where the arguments, and the package variables that the reading takes, are together of bulk at most 1048576: NARROWER than '..Said'. Prove '..Said' where nothing that the law and all that it calls make is longer than what came in: it says more and counts as full. Else prove '..UptoSaid'. A law counts once. -/
mutual
def uptoBulk {H : Type} : DataW H → Nat
  | .lit (.string bytes) => bytes.length + 1
  | .lit _ => 1
  | .nil => 1
  | .ptr d => uptoBulk d + 1
  | .slice elems spare => uptoBulkAll elems + uptoBulkAll spare + 1
  | .agg parts => uptoBulkAll parts + 1
  | .iface _ d => uptoBulk d + 1
  | .map entries => uptoBulkEntries entries + 1
  | .held _ => 1
def uptoBulkAll {H : Type} : List (DataW H) → Nat
  | [] => 0
  | d :: r => uptoBulk d + uptoBulkAll r
def uptoBulkEntries {H : Type} : List (Lit × DataW H) → Nat
  | [] => 0
  | x :: r => uptoBulkEntry x + uptoBulkEntries r
def uptoBulkEntry {H : Type} : Lit × DataW H → Nat
  | (.string bytes, d) => bytes.length + uptoBulk d + 1
  | (_, d) => uptoBulk d + 1
 end
def uptoSmall : (H : Type) → List (DataW H) → Bool := fun _ ds => decide (uptoBulkAll ds ≤ 1048576)
def OpenSpec.upto (s : _root_.Go.ChangeSpec) : _root_.Go.OpenSpec := { _root_.Go.OpenSpec.ofChange s with cond := some uptoSmall }

/-- 'longlinelaw26.FileLives', WHERE WHAT IT READS IS OF BULK AT MOST 1048576: true; the input reads as it did. -/
def fileLivesUptoRow : OpenClaim := { program := "ytmeimjpjelmchaa", sum := "8397ae9f3d86ce74cbca7c7b384cee73fc516355a5cf063d85d0371065fc7312", func := "longline/longlinelaw26.FileLives", spec := "fileLives", apart := false, narrowed := true }
def FileLivesUptoSaid : Prop := fileLivesUptoRow.holds Try.pinned (OpenSpec.upto fileLivesSpec)

/-- 'longlinelaw26.FileCancels', WHERE WHAT IT READS IS OF BULK AT MOST 1048576: true; the input reads as it did. -/
def fileCancelsUptoRow : OpenClaim := { program := "ytmeimjpjelmchaa", sum := "8397ae9f3d86ce74cbca7c7b384cee73fc516355a5cf063d85d0371065fc7312", func := "longline/longlinelaw26.FileCancels", spec := "fileCancels", apart := false, narrowed := true }
def FileCancelsUptoSaid : Prop := fileCancelsUptoRow.holds Try.pinned (OpenSpec.upto fileCancelsSpec)

/-- 'longlinelaw25.StoreSizes', WHERE WHAT IT READS IS OF BULK AT MOST 1048576: true; the input reads as it did. -/
def storeSizesUptoRow : OpenClaim := { program := "ytmeimjpjelmchaa", sum := "8397ae9f3d86ce74cbca7c7b384cee73fc516355a5cf063d85d0371065fc7312", func := "longline/longlinelaw25.StoreSizes", spec := "storeSizes", inPlace := ["sync/atomic.LoadUint32", "(*internal/sync.Mutex).Lock", "internal/race.Disable", "sync/atomic.CompareAndSwapInt32", "internal/race.Enable", "internal/race.Acquire", "(*internal/sync.Mutex).lockSlow", "internal/sync.runtime_canSpin", "internal/sync.runtime_doSpin", "internal/sync.throw", "internal/sync.runtime_nanotime", "internal/sync.runtime_SemacquireMutex", "sync/atomic.AddInt32", "(*internal/sync.Mutex).Unlock", "internal/race.ReleaseMerge", "(*internal/sync.Mutex).unlockSlow", "internal/sync.fatal", "internal/sync.runtime_Semrelease", "sync/atomic.StoreUint32", "sync/atomic.AddInt64"], unfollowed := true, recurses := true, apart := false, narrowed := true }
def StoreSizesUptoSaid : Prop := storeSizesUptoRow.holds Try.pinned (OpenSpec.upto storeSizesSpec)

/-- 'longlinelaw25.StoreKeeps', WHERE WHAT IT READS IS OF BULK AT MOST 1048576: true; the input reads as it did. -/
def storeKeepsUptoRow : OpenClaim := { program := "ytmeimjpjelmchaa", sum := "8397ae9f3d86ce74cbca7c7b384cee73fc516355a5cf063d85d0371065fc7312", func := "longline/longlinelaw25.StoreKeeps", spec := "storeKeeps", inPlace := ["sync/atomic.LoadUint32", "(*internal/sync.Mutex).Lock", "internal/race.Disable", "sync/atomic.CompareAndSwapInt32", "internal/race.Enable", "internal/race.Acquire", "(*internal/sync.Mutex).lockSlow", "internal/sync.runtime_canSpin", "internal/sync.runtime_doSpin", "internal/sync.throw", "internal/sync.runtime_nanotime", "internal/sync.runtime_SemacquireMutex", "sync/atomic.AddInt32", "(*internal/sync.Mutex).Unlock", "internal/race.ReleaseMerge", "(*internal/sync.Mutex).unlockSlow", "internal/sync.fatal", "internal/sync.runtime_Semrelease", "sync/atomic.StoreUint32", "sync/atomic.AddInt64"], unfollowed := true, recurses := true, apart := false, narrowed := true }
def StoreKeepsUptoSaid : Prop := storeKeepsUptoRow.holds Try.pinned (OpenSpec.upto storeKeepsSpec)

/-- 'longlinelaw26.FileSends', WHERE WHAT IT READS IS OF BULK AT MOST 1048576: true; the input reads as it did. -/
def fileSendsUptoRow : OpenClaim := { program := "ytmeimjpjelmchaa", sum := "8397ae9f3d86ce74cbca7c7b384cee73fc516355a5cf063d85d0371065fc7312", func := "longline/longlinelaw26.FileSends", spec := "fileSends", inPlace := ["sync/atomic.LoadUint32", "(*internal/sync.Mutex).Lock", "internal/race.Disable", "sync/atomic.CompareAndSwapInt32", "internal/race.Enable", "internal/race.Acquire", "(*internal/sync.Mutex).lockSlow", "internal/sync.runtime_canSpin", "internal/sync.runtime_doSpin", "internal/sync.throw", "internal/sync.runtime_nanotime", "internal/sync.runtime_SemacquireMutex", "sync/atomic.AddInt32", "(*internal/sync.Mutex).Unlock", "internal/race.ReleaseMerge", "(*internal/sync.Mutex).unlockSlow", "internal/sync.fatal", "internal/sync.runtime_Semrelease", "sync/atomic.StoreUint32", "sync/atomic.AddInt64"], unfollowed := true, recurses := true, apart := false, narrowed := true }
def FileSendsUptoSaid : Prop := fileSendsUptoRow.holds Try.pinned (OpenSpec.upto fileSendsSpec)

end Rows
end Go.Proofs.Ytmeimjpjelmchaa
