/- crc: the table and what nibbles does -/
import Derived.Test.YtncfjogmggofgaaProg
import Derived.Below
import Derived.Deep.Draws
import Derived.Deep.AppendLies
import Derived.Maps.AppendAt
import Derived.OwnWalk
import Derived.Laws.BytesArg
import Derived.Laws.MakeOwn
import Derived.Laws.OwnMore
import Derived.Deep.OwnRows
import Derived.Tactics
import Derived.Lib.ConvBytes
import Derived.Laws.Slices
import Derived.WalkKit
import Derived.KernelRfl
import Derived.RowKit3
import Derived.Deep.LoopGhost
import Derived.Deep.QuietTactic
import Derived.BigQuiet
import Derived.WideLaws
import Derived.Deep.DeepCutAuto
import Derived.Deep.CutBlock
import Derived.Deep.RegionHeld3
import Derived.Laws.Rows
import Derived.Lib.AppendStr
import Derived.ArgAppend
import Derived.Laws.IdiomCopy
import Derived.OrdersHeld
import Derived.Laws.BitsLemmas
import Derived.RowKit
import Derived.Test.YtncfjogmggofgaaWWords
import Derived.Test.YtncfjogmggofgaaWLast
import Derived.Test.YtncfjogmggofgaaWTab
import Derived.Test.YtncfjogmggofgaaWFour
import Derived.Test.YtncfjogmggofgaaWQPut
import Derived.Test.YtncfjogmggofgaaWApart
import Derived.Test.YtncfjogmggofgaaWArr
import Derived.Test.YtncfjogmggofgaaWZeros
import Derived.Test.YtncfjogmggofgaaWFoot
import Derived.Test.YtncfjogmggofgaaWKept
import Derived.Test.YtncfjogmggofgaaWShare
import Derived.Test.YtncfjogmggofgaaWN
import Derived.Test.YtncfjogmggofgaaWFootNe
import Derived.Test.YtncfjogmggofgaaWAt
import Derived.Test.YtncfjogmggofgaaWEqStruct
import Derived.Test.YtncfjogmggofgaaWRepsOne
import Derived.Test.YtncfjogmggofgaaWInv
import Derived.Test.YtncfjogmggofgaaWInvWords
import Derived.Test.YtncfjogmggofgaaWGuard
import Derived.Test.YtncfjogmggofgaaWNEv
import Derived.Test.YtncfjogmggofgaaWMore
namespace Go.Proofs.Ytncfjogmggofgaa.G
open Go.RowKit Go.Proofs.YtncfjogmggofgaaW.PrintWords Go.Proofs.YtncfjogmggofgaaW.PrintLast Go.Proofs.YtncfjogmggofgaaW.PrintMore
set_option linter.unusedVariables false
set_option linter.unusedSimpArgs false
def tbl : List Int := [0, 498536548, 997073096, 651767980, 1994146192, 1802195444, 1303535960, 1342533948, 3988292384, 4027552580, 3604390888, 3412177804, 2607071920, 2262029012, 2685067896, 3183342108]
def tb (i : Int) : Int := tbl.getD i.toNat 0

set_option maxHeartbeats 4000000 in
set_option maxRecDepth 100000 in
theorem nibbles_calls (w : World) : Calls Try.prog 21 #[] w fun e w' => e = .returned (.agg #[.int .u32 0, .int .u32 498536548, .int .u32 997073096, .int .u32 651767980, .int .u32 1994146192, .int .u32 1802195444, .int .u32 1303535960, .int .u32 1342533948, .int .u32 3988292384, .int .u32 4027552580, .int .u32 3604390888, .int .u32 3412177804, .int .u32 2607071920, .int .u32 2262029012, .int .u32 2685067896, .int .u32 3183342108]) ∧ Below w.heap.size w w' := by
  go_enter Try.func21, Try.ntmps21
  go_wp2
  exact bodyPost_ret (v := .agg #[.int .u32 0, .int .u32 498536548, .int .u32 997073096, .int .u32 651767980, .int .u32 1994146192, .int .u32 1802195444, .int .u32 1303535960, .int .u32 1342533948, .int .u32 3988292384, .int .u32 4027552580, .int .u32 3604390888, .int .u32 3412177804, .int .u32 2607071920, .int .u32 2262029012, .int .u32 2685067896, .int .u32 3183342108]) (by simp [results, Try.results21, go_sem]) rfl ⟨rfl, (Below.refl _ _).alloc (Nat.le_refl _) _⟩

def nibI (x : Int) : Int := Go.bits .xor .u32 (tb (Go.bits .and .u32 x 15)) (x / 16)
def stepI (x c : Int) : Int := nibI (nibI (Go.bits .xor .u32 x c))
def runF (x : Int) (l : List Int) : Int := l.foldl stepI x

theorem nib_idx (x : Int) : 0 ≤ Go.bits .and .u32 x 15 ∧ Go.bits .and .u32 x 15 < 16 := by
  have h : Go.bits .and .u32 x 15 = (((BitVec.ofInt 32 x).toNat &&& 15 : Nat) : Int) % 4294967296 := by
    show IntKind.u32.wrap ((BitVec.ofInt 32 x &&& BitVec.ofInt 32 15).toNat : Int) = _
    rw [IntKind.wrap_u32, BitVec.toNat_and]
    rfl
  have := Nat.and_le_right (n := (BitVec.ofInt 32 x).toNat) (m := 15)
  omega
theorem tab_cell (W : World) (e : TypeId) (i : Int) (h0 : 0 ≤ i) (h1 : i < 16) : (W.alloc (.cells #[.int .u32 0, .int .u32 498536548, .int .u32 997073096, .int .u32 651767980, .int .u32 1994146192, .int .u32 1802195444, .int .u32 1303535960, .int .u32 1342533948, .int .u32 3988292384, .int .u32 4027552580, .int .u32 3604390888, .int .u32 3412177804, .int .u32 2607071920, .int .u32 2262029012, .int .u32 2685067896, .int .u32 3183342108] e)).cell? ⟨W.heap.size, i.toNat, none⟩ = some (.int .u32 (tb i)) := by
  rw [World.cell?_alloc_new]
  obtain ⟨j, rfl⟩ := Int.eq_ofNat_of_zero_le h0
  have hj : j < 16 := by omega
  simp only [Int.toNat_natCast, tb]
  rcases j with _|_|_|_|_|_|_|_|_|_|_|_|_|_|_|_|j <;> first | rfl | omega

end Go.Proofs.Ytncfjogmggofgaa.G
