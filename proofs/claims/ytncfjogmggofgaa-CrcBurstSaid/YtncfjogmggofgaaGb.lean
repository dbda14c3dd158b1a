/- crc: what run and the method of do -/
import Derived.Test.YtncfjogmggofgaaGa
import Derived.Test.YtncfjogmggofgaaProg
import Derived.Below
import Derived.Deep.Draws
import Derived.Deep.AppendLies
import Derived.Maps.AppendAt
import Derived.OwnWalk
import Derived.Laws.BytesArg
import Derived.Laws.MakeOwn
import Derived.Laws.OwnMore
import Derived.Deep.OwnRows
import Derived.Tactics
import Derived.Lib.ConvBytes
import Derived.Laws.Slices
import Derived.WalkKit
import Derived.KernelRfl
import Derived.RowKit3
import Derived.Deep.LoopGhost
import Derived.Deep.QuietTactic
import Derived.BigQuiet
import Derived.WideLaws
import Derived.Deep.DeepCutAuto
import Derived.Deep.CutBlock
import Derived.Deep.RegionHeld3
import Derived.Laws.Rows
import Derived.Lib.AppendStr
import Derived.ArgAppend
import Derived.Laws.IdiomCopy
import Derived.OrdersHeld
import Derived.Laws.BitsLemmas
import Derived.RowKit
import Derived.Test.YtncfjogmggofgaaWWords
import Derived.Test.YtncfjogmggofgaaWLast
import Derived.Test.YtncfjogmggofgaaWTab
import Derived.Test.YtncfjogmggofgaaWFour
import Derived.Test.YtncfjogmggofgaaWQPut
import Derived.Test.YtncfjogmggofgaaWApart
import Derived.Test.YtncfjogmggofgaaWArr
import Derived.Test.YtncfjogmggofgaaWZeros
import Derived.Test.YtncfjogmggofgaaWFoot
import Derived.Test.YtncfjogmggofgaaWKept
import Derived.Test.YtncfjogmggofgaaWShare
import Derived.Test.YtncfjogmggofgaaWN
import Derived.Test.YtncfjogmggofgaaWFootNe
import Derived.Test.YtncfjogmggofgaaWAt
import Derived.Test.YtncfjogmggofgaaWEqStruct
import Derived.Test.YtncfjogmggofgaaWRepsOne
import Derived.Test.YtncfjogmggofgaaWInv
import Derived.Test.YtncfjogmggofgaaWInvWords
import Derived.Test.YtncfjogmggofgaaWGuard
import Derived.Test.YtncfjogmggofgaaWNEv
import Derived.Test.YtncfjogmggofgaaWMore
namespace Go.Proofs.Ytncfjogmggofgaa.G
open Go.RowKit Go.Proofs.YtncfjogmggofgaaW.PrintWords Go.Proofs.YtncfjogmggofgaaW.PrintLast Go.Proofs.YtncfjogmggofgaaW.PrintMore
set_option linter.unusedVariables false
set_option linter.unusedSimpArgs false
set_option maxHeartbeats 4000000 in
set_option maxRecDepth 100000 in
theorem run_calls (x : Int) (s : ByteArray) (w : World) (hs : s.size ≤ 140737488355328) : Calls Try.prog 14 #[.int .u32 x, .string s] w fun e w' => e = .returned (.int .u32 (runF x (bytesOf s))) ∧ Below w.heap.size w w' := by
  have HS := Aside0.mk hs
  clear hs
  go_enter Try.func14, Try.ntmps14
  go_wp2_with (go_at_call 21; refine (nibbles_calls _).mono ?_; rintro e w1 ⟨rfl, hb1⟩)
  have HT := Aside0.mk (tab_cell w1 48)
  have HB := Aside0.mk (below_alloc hb1 (.cells #[.int .u32 0, .int .u32 498536548, .int .u32 997073096, .int .u32 651767980, .int .u32 1994146192, .int .u32 1802195444, .int .u32 1303535960, .int .u32 1342533948, .int .u32 3988292384, .int .u32 4027552580, .int .u32 3604390888, .int .u32 3412177804, .int .u32 2607071920, .int .u32 2262029012, .int .u32 2685067896, .int .u32 3183342108] 48))
  clear hb1
  generalize (w1.alloc _) = W at HT HB ⊢
  generalize w1.heap.size = g at HT ⊢
  go_loopg [0, 10] s.size (fun kq v0 v10 w' => ∃ (i : Nat), v0 = .int .u32 (runF x ((bytesOf s).take i)) ∧ v10 = .int .i64 i ∧ Aside0 (i + kq = s.size) ∧ Aside0 (w' = W))
  case atStart => exact ⟨0, rfl, rfl, ⟨by omega⟩, ⟨rfl⟩⟩
  case round =>
    obtain ⟨i, rfl, rfl, HI, HW⟩ := hrel
    have hw := HW.out
    subst hw
    by_cases hlt : i < s.size
    · have q : (i : Int) < (s.size : Int) := by omega
      have i9 : wrap64 ((i : Int) + 1) = (i : Int) + 1 := by have := HS.out; unfold wrap64; omega
      obtain ⟨k1, rfl⟩ : ∃ k1, gk = k1 + 1 := ⟨gk - 1, by have := HI.out; omega⟩
      obtain ⟨c, hc, hcb⟩ : ∃ c : Int, (s[i].toNat : Int) = c ∧ c = bt s i := ⟨_, rfl, by rw [bt]; simp [hlt]⟩
      have hc9 := bt_range s i
      rw [← hcb] at hc9
      have hm : c % 4294967296 = c := by omega
      have hstep : runF x ((bytesOf s).take (i + 1)) = stepI (runF x ((bytesOf s).take i)) c := by
        have hl : i < (bytesOf s).length := by rw [bytesOf_length]; exact hlt
        rw [List.take_succ_eq_append_getElem hl]
        have e : (bytesOf s)[i] = c := by
          rw [hcb, ← rd_bytesOf]
          simp [rd, hl]
        rw [e]
        simp [runF, List.foldl_append]
      have HST := Aside0.mk hstep
      clear hstep hcb hc9
      generalize runF x ((bytesOf s).take i) = y at *
      obtain ⟨x1, hx1⟩ : ∃ x1, Go.bits .xor .u32 y c = x1 := ⟨_, rfl⟩
      obtain ⟨i1, hi1⟩ : ∃ i1, Go.bits .and .u32 x1 15 = i1 := ⟨_, rfl⟩
      have p1 := nib_idx x1
      rw [hi1] at p1
      obtain ⟨p1, q1⟩ := p1
      have hc1 := HT.out i1 p1 q1
      obtain ⟨t1, ht1⟩ : ∃ t1, tb i1 = t1 := ⟨_, rfl⟩
      rw [ht1] at hc1
      obtain ⟨x2, hx2⟩ : ∃ x2, Go.bits .xor .u32 t1 (x1 / 16) = x2 := ⟨_, rfl⟩
      obtain ⟨i2, hi2⟩ : ∃ i2, Go.bits .and .u32 x2 15 = i2 := ⟨_, rfl⟩
      have p2 := nib_idx x2
      rw [hi2] at p2
      obtain ⟨p2, q2⟩ := p2
      have hc2 := HT.out i2 p2 q2
      obtain ⟨t2, ht2⟩ : ∃ t2, tb i2 = t2 := ⟨_, rfl⟩
      rw [ht2] at hc2
      obtain ⟨x3, hx3⟩ : ∃ x3, Go.bits .xor .u32 t2 (x2 / 16) = x3 := ⟨_, rfl⟩
      have hfin : stepI y c = x3 := by unfold stepI nibI; rw [hx1, hi1, ht1, hx2, hi2, ht2, hx3]
      rw [hfin] at HST
      clear hfin ht1 ht2
      go_wp2
      go_roundg k1
      case measure => have := HI.out; omega
      case rel => exact ⟨i + 1, by rw [HST.out], by go_num, ⟨by have := HI.out; omega⟩, ⟨rfl⟩⟩
    · have hd : (bytesOf s).take i = bytesOf s := List.take_of_length_le (by rw [bytesOf_length]; omega)
      rw [hd]
      go_wp2
      go_ret
      exact ⟨rfl, HB.out⟩
def vals (l : List Int) : Array Value := (nums .u32 l).toArray
theorem vals_size (l : List Int) : (vals l).size = l.length := by simp [vals, nums]
theorem info45 : (Try.prog.info? 45).map (·.size) = some 32 := by kernel_rfl
theorem vals_cell (W : World) (e : TypeId) (l : List Int) (i : Nat) (hi : i < l.length) : (W.alloc (.cells (vals l) e)).cell? ⟨W.heap.size, i, none⟩ = some (.int .u32 (l.getD i 0)) := by
  rw [World.cell?_alloc_new]
  simp [vals, nums, List.getD_eq_getElem?_getD, List.getElem?_eq_getElem hi]
def bitI (x : Int) (i : Nat) : Int := Go.bits .and .u32 (x / 2 ^ i) 1
def ofR (x : Int) : Nat → List Int → Int → Int
  | _, [], y => y
  | i, m :: r, y => ofR x (i + 1) r (if bitI x i = 1 then Go.bits .xor .u32 y m else y)

set_option maxHeartbeats 4000000 in
set_option maxRecDepth 100000 in
theorem of_calls (l : List Int) (hl : l.length = 32) (x : Int) (w : World) : Calls Try.prog 19 #[.agg (vals l), .int .u32 x] w fun e w' => e = .returned (.int .u32 (ofR x 0 l 0)) ∧ Below w.heap.size w w' := by
  have HL := Aside0.mk hl
  clear hl
  go_enter Try.func19, Try.ntmps19
  go_wp2
  have HT := Aside0.mk (fun i hi => vals_cell w 45 l i hi)
  have HB := Aside0.mk (below_alloc (Below.refl w.heap.size w) (.cells (vals l) 45))
  generalize (w.alloc _) = W at HT HB ⊢
  generalize hg : w.heap.size = g at HT ⊢
  have HG := Aside0.mk hg
  clear hg
  go_loopg [5, 7] 32 (fun kq v5 v7 w' => ∃ (y : Int) (i : Nat), v5 = .int .u32 y ∧ v7 = .int .i64 i ∧ Aside0 (i + kq = 32) ∧ Aside0 (ofR x i (l.drop i) y = ofR x 0 l 0) ∧ Aside0 (w' = W))
  case atStart => exact ⟨0, 0, rfl, rfl, ⟨by omega⟩, ⟨rfl⟩, ⟨rfl⟩⟩
  case round =>
    obtain ⟨y, i, rfl, rfl, HI, HR, HW⟩ := hrel
    have hw := HW.out
    subst hw
    by_cases hlt : i < 32
    · have h0 : (0 : Int) ≤ (i : Int) := by omega
      have h32 : (i : Int) ≤ 32 := by omega
      obtain ⟨k1, rfl⟩ : ∃ k1, gk = k1 + 1 := ⟨gk - 1, by have := HI.out; omega⟩
      have hc := HT.out i (by rw [HL.out]; exact hlt)
      have hd : l.drop i = l.getD i 0 :: l.drop (i + 1) := by
        have hi : i < l.length := by rw [HL.out]; exact hlt
        rw [List.drop_eq_getElem_cons hi, List.getD_eq_getElem?_getD, List.getElem?_eq_getElem hi]
        rfl
      have hr := HR.out
      rw [hd] at hr
      simp only [ofR] at hr
      generalize l.getD i 0 = m at hc hr
      clear hd HR
      by_cases hb : Go.bits .and .u32 (x / 2 ^ i) 1 = 1
      · have hb1 : (Go.bits .and .u32 (x / 2 ^ i) 1 == 1) = true := by simpa using hb
        rw [if_pos (show bitI x i = 1 from hb)] at hr
        have HR := Aside0.mk hr
        clear hr hb
        go_wp2
        go_roundg k1
        case measure => have := HI.out; omega
        case rel => exact ⟨_, i + 1, rfl, by go_num, ⟨by have := HI.out; omega⟩, HR, ⟨rfl⟩⟩
      · have hb1 : (Go.bits .and .u32 (x / 2 ^ i) 1 == 1) = false := by simpa using hb
        rw [if_neg (show ¬ bitI x i = 1 from hb)] at hr
        have HR := Aside0.mk hr
        clear hr hb
        go_wp2
        go_roundg k1
        case measure => have := HI.out; omega
        case rel => exact ⟨_, i + 1, rfl, by go_num, ⟨by have := HI.out; omega⟩, HR, ⟨rfl⟩⟩
    · have hr := HR.out
      rw [List.drop_of_length_le (by have := HL.out; omega)] at hr
      simp only [ofR] at hr
      have HR := Aside0.mk hr
      clear hr
      go_wp2
      go_ret
      exact ⟨by rw [HR.out]; rfl, HB.out⟩
end Go.Proofs.Ytncfjogmggofgaa.G
