/- crc: what Join does -/
import Derived.Test.YtncfjogmggofgaaGd
import Derived.Test.YtncfjogmggofgaaProg
import Derived.Below
import Derived.Deep.Draws
import Derived.Deep.AppendLies
import Derived.Maps.AppendAt
import Derived.OwnWalk
import Derived.Laws.BytesArg
import Derived.Laws.MakeOwn
import Derived.Laws.OwnMore
import Derived.Deep.OwnRows
import Derived.Tactics
import Derived.Lib.ConvBytes
import Derived.Laws.Slices
import Derived.WalkKit
import Derived.KernelRfl
import Derived.RowKit3
import Derived.Deep.LoopGhost
import Derived.Deep.QuietTactic
import Derived.BigQuiet
import Derived.WideLaws
import Derived.Deep.DeepCutAuto
import Derived.Deep.CutBlock
import Derived.Deep.RegionHeld3
import Derived.Laws.Rows
import Derived.Lib.AppendStr
import Derived.ArgAppend
import Derived.Laws.IdiomCopy
import Derived.OrdersHeld
import Derived.Laws.BitsLemmas
import Derived.RowKit
import Derived.Test.YtncfjogmggofgaaWWords
import Derived.Test.YtncfjogmggofgaaWLast
import Derived.Test.YtncfjogmggofgaaWTab
import Derived.Test.YtncfjogmggofgaaWFour
import Derived.Test.YtncfjogmggofgaaWQPut
import Derived.Test.YtncfjogmggofgaaWApart
import Derived.Test.YtncfjogmggofgaaWArr
import Derived.Test.YtncfjogmggofgaaWZeros
import Derived.Test.YtncfjogmggofgaaWFoot
import Derived.Test.YtncfjogmggofgaaWKept
import Derived.Test.YtncfjogmggofgaaWShare
import Derived.Test.YtncfjogmggofgaaWN
import Derived.Test.YtncfjogmggofgaaWFootNe
import Derived.Test.YtncfjogmggofgaaWAt
import Derived.Test.YtncfjogmggofgaaWEqStruct
import Derived.Test.YtncfjogmggofgaaWRepsOne
import Derived.Test.YtncfjogmggofgaaWInv
import Derived.Test.YtncfjogmggofgaaWInvWords
import Derived.Test.YtncfjogmggofgaaWGuard
import Derived.Test.YtncfjogmggofgaaWNEv
import Derived.Test.YtncfjogmggofgaaWMore
namespace Go.Proofs.Ytncfjogmggofgaa.G
open Go.RowKit Go.Proofs.YtncfjogmggofgaaW.PrintWords Go.Proofs.YtncfjogmggofgaaW.PrintLast Go.Proofs.YtncfjogmggofgaaW.PrintMore
set_option linter.unusedVariables false
set_option linter.unusedSimpArgs false
def joinL : Nat → Int → Int → List Int → Int
  | 0, _, x, _ => x
  | k + 1, n, x, m => if 0 < n then joinL k (n / 2) (if Go.bits .and .i64 n 1 = 1 then ofR x 0 m 0 else x) (twice m) else x
def Join.f (a b n : Int) : Option (Int × Int) :=
  if a < 0 then some (0, 3) else if 4294967295 < a then some (0, 3) else if b < 0 then some (0, 3) else if 4294967295 < b then some (0, 3) else if n < 0 then some (0, 3) else
    some (wrap64 (Go.bits .xor .u32 (joinL 64 n (a % 4294967296) bsteps) (b % 4294967296)), 0)
theorem is_calls (a : Int) (w : World) : Calls Try.prog 16 #[.int .i64 a] w fun e w' => e = .returned (.bool (decide (0 ≤ a ∧ a ≤ 4294967295))) ∧ w = w' := by
  by_cases h0 : 0 ≤ a
  · have h1 : decide (0 ≤ a) = true := decide_eq_true h0
    by_cases h2 : a ≤ 4294967295
    · have h3 : decide (a ≤ 4294967295) = true := decide_eq_true h2
      go_enter Try.func16, Try.ntmps16
      go_wp2
      go_ret
      exact ⟨by simp [h0, h2], rfl⟩
    · have h3 : decide (a ≤ 4294967295) = false := decide_eq_false h2
      go_enter Try.func16, Try.ntmps16
      go_wp2
      go_ret
      exact ⟨by simp [h0, h2], rfl⟩
  · have h1 : decide (0 ≤ a) = false := decide_eq_false h0
    go_enter Try.func16, Try.ntmps16
    go_wp2
    go_ret
    exact ⟨by simp [h0], rfl⟩
theorem is_yes (a : Int) (w : World) (h : 0 ≤ a ∧ a ≤ 4294967295) : Calls Try.prog 16 #[.int .i64 a] w fun e w' => e = .returned (.bool true) ∧ w = w' := by
  have := is_calls a w; rw [decide_eq_true h] at this; exact this
theorem is_no (a : Int) (w : World) (h : ¬ (0 ≤ a ∧ a ≤ 4294967295)) : Calls Try.prog 16 #[.int .i64 a] w fun e w' => e = .returned (.bool false) ∧ w = w' := by
  have := is_calls a w; rw [decide_eq_false h] at this; exact this

set_option maxHeartbeats 4000000 in
set_option maxRecDepth 100000 in
theorem join_yes (a b n : Int) (w : World) (ha : 0 ≤ a ∧ a ≤ 4294967295) (hb : 0 ≤ b ∧ b ≤ 4294967295) (hn : 0 ≤ n) (hn2 : n < 9223372036854775808) :
    Calls Try.prog 12 #[.int .i64 a, .int .i64 b, .int .i64 n] w fun e w' => e = .returned (.tuple #[.int .i64 (wrap64 (Go.bits .xor .u32 (joinL 64 n (a % 4294967296) bsteps) (b % 4294967296))), .int .i64 0]) ∧ Below w.heap.size w w' := by
  have HN := Aside0.mk hn2
  have HA := Aside0.mk ha
  have HB0 := Aside0.mk hb
  have hn1 : ¬ n < 0 := by omega
  have hn3 : decide (n < 0) = false := decide_eq_false hn1
  have HNN := Aside0.mk hn
  clear ha hb hn2 hn1 hn
  have hzb : (Try.prog.info? 45).map (·.size) = some (vals bsteps).size := info45
  have hallb : (vals bsteps).all (·.oneCell') = true := by simp [vals, nums, Value.oneCell']
  have hsz : (vals zeros).size = (vals bsteps).size := rfl
  go_enter Try.func12, Try.ntmps12
  go_wp2_with (first | (go_at_call 16; (first | (with_reducible refine (is_yes a _ HA.out).mono ?_) | (with_reducible refine (is_yes b _ HB0.out).mono ?_)); rintro e w0 ⟨rfl, rfl⟩) | (go_at_call 18; refine (byteSteps_calls _).mono ?_; rintro e w1 ⟨rfl, hb1⟩) | (refine wpList_store_row rfl 45 (.tmp 9) (.tmp 24) rfl _ (vals bsteps) rfl rfl 45 (vals zeros) (heap_alloc_new _ _) hzb hsz hallb ?_))
  clear hzb hallb hsz
  simp only [Act.put, List.setIfInBounds_toArray, List.set_cons_zero, List.set_cons_succ]
  change Code.wp Try.prog _ _ _ ((w1.alloc (.cells (vals zeros) 45)).setRow w1.heap.size (vals bsteps))
  have hbl : (List.length bsteps) = 32 := by simp [bsteps]
  have HM := Aside0.mk ((Blk.new w1 zeros zeros_len).row (l' := bsteps) hbl)
  have HB := Aside0.mk (below_setRow (below_alloc hb1 (.cells (vals zeros) 45)) hb1.size (vals bsteps))
  obtain ⟨g, hg⟩ : ∃ g, w1.heap.size = g := ⟨_, rfl⟩
  have HG := Aside0.mk (show w.heap.size ≤ g from hg ▸ hb1.size)
  rw [hg] at HM HB ⊢
  generalize (w1.alloc (.cells (vals zeros) 45)).setRow g (vals bsteps) = W at HM HB ⊢
  clear hg hb1 hbl
  clear hn3
  go_loopg [2, 8] 64 (fun kq v2 v8 w' => ∃ (n' x' : Int) (m : List Int), v2 = .int .i64 n' ∧ v8 = .int .u32 x' ∧ Aside0 (0 ≤ n' ∧ n' < 2 ^ kq ∧ n' < 9223372036854775808) ∧ Aside0 (joinL kq n' x' m = joinL 64 n (a % 4294967296) bsteps) ∧ Aside0 (Blk w' g m) ∧ Aside0 (Below w.heap.size w w'))
  case atStart => exact ⟨n, _, bsteps, rfl, rfl, ⟨HNN.out, Int.lt_of_lt_of_le HN.out (by decide), HN.out⟩, ⟨rfl⟩, HM, HB⟩
  case round =>
    clear HM HB
    obtain ⟨n', x', m, rfl, rfl, HI, HJ, HM, HB⟩ := hrel
    by_cases hlt : 0 < n'
    · obtain ⟨k1, rfl⟩ : ∃ k1, gk = k1 + 1 := ⟨gk - 1, by
        have := HI.out
        cases gk with
        | zero => simp at this; omega
        | succ k => rfl⟩
      have hz : (Try.prog.info? 45).map (·.size) = some (vals m).size := by rw [vals_size, HM.out.len]; exact info45
      have hzt : (Try.prog.info? 45).map (·.size) = some (vals (twice m)).size := by rw [vals_size, twice_len]; exact info45
      have hall : (vals (twice m)).all (·.oneCell') = true := by simp [vals, nums, Value.oneCell']
      have hsz : (vals m).size = (vals (twice m)).size := by rw [vals_size, vals_size, twice_len, HM.out.len]
      have hg1 := HM.out.heap
      have HZ := Aside0.mk hz
      have HZT := Aside0.mk hzt
      have HAL := Aside0.mk hall
      have HSZ := Aside0.mk hsz
      have HG1 := Aside0.mk hg1
      clear hz hzt hall hsz hg1
      have hj := HJ.out
      rw [joinL, if_pos hlt] at hj
      clear HJ
      have HD : Aside0 (0 ≤ n' / 2 ∧ n' / 2 < 2 ^ k1 ∧ n' / 2 < 9223372036854775808) := ⟨by
        have := HI.out
        have e : (2 : Int) ^ (k1 + 1) = 2 ^ k1 * 2 := Int.pow_succ ..
        refine ⟨by omega, by omega, by omega⟩⟩
      by_cases hb : Go.bits .and .i64 n' 1 = 1
      · have hb1 : (Go.bits .and .i64 n' 1 == 1) = true := by simpa using hb
        rw [if_pos hb] at hj
        have HJ := Aside0.mk hj
        clear hj hb
        go_wp2_with (first | (refine wpList_load_row rfl 45 (.tmp 9) rfl g rfl 45 (vals m) (0, 0) _ ?hh Try.underlying45 rfl HZ.out ?_; (case hh => first | exact HG2.out | exact HG1.out)) | (go_at_call 19; refine (of_calls m HM.out.len _ _).mono ?_; rintro e w2 ⟨rfl, hb2⟩; have HB2 := Aside0.mk hb2; clear hb2; have HG2 := Aside0.mk (HM.out.below HB2.out).heap) | (go_at_call 20; refine (twice_calls m HM.out.len _).mono ?_; rintro e w3 ⟨rfl, hb3⟩; have HB3 := Aside0.mk hb3; clear hb3; have HG3 := Aside0.mk ((HM.out.below HB2.out).below HB3.out).heap) | (refine wpList_store_row rfl 45 (.tmp 9) (.tmp 36) rfl g (vals (twice m)) rfl rfl 45 (vals m) HG3.out HZT.out HSZ.out HAL.out ?_))
        go_roundg k1
        case measure => omega
        case rel =>
          have hs := HB.out.size
          have t2 := below_then HB.out hs HB2.out
          have t3 := below_then t2 t2.size HB3.out
          exact ⟨_, _, twice m, rfl, rfl, HD, HJ, ⟨((HM.out.below HB2.out).below HB3.out).row (twice_len m)⟩, ⟨below_setRow t3 HG.out _⟩⟩
      · have hb1 : (Go.bits .and .i64 n' 1 == 1) = false := by simpa using hb
        rw [if_neg hb] at hj
        have HJ := Aside0.mk hj
        clear hj hb
        go_wp2_with (first | (refine wpList_load_row rfl 45 (.tmp 9) rfl g rfl 45 (vals m) (0, 0) _ HG1.out Try.underlying45 rfl HZ.out ?_) | (go_at_call 20; refine (twice_calls m HM.out.len _).mono ?_; rintro e w3 ⟨rfl, hb3⟩; have HB3 := Aside0.mk hb3; clear hb3; have HG3 := Aside0.mk (HM.out.below HB3.out).heap) | (refine wpList_store_row rfl 45 (.tmp 9) (.tmp 36) rfl g (vals (twice m)) rfl rfl 45 (vals m) HG3.out HZT.out HSZ.out HAL.out ?_))
        go_roundg k1
        case measure => omega
        case rel =>
          have hs := HB.out.size
          have t3 := below_then HB.out hs HB3.out
          exact ⟨_, _, twice m, rfl, rfl, HD, HJ, ⟨(HM.out.below HB3.out).row (twice_len m)⟩, ⟨below_setRow t3 HG.out _⟩⟩
    · have hj := HJ.out
      have hx : x' = joinL 64 n (a % 4294967296) bsteps := by
        rw [← hj]
        cases gk with
        | zero => rfl
        | succ k => rw [joinL, if_neg hlt]
      have HX := Aside0.mk hx
      clear hj hx
      go_wp2
      go_ret2
      exact ⟨by rw [HX.out]; rfl, HB.out⟩

set_option maxHeartbeats 4000000 in
set_option maxRecDepth 100000 in
theorem join_calls (a b n r1 r2 : Int) (w : World) (hn : n < 9223372036854775808) (h : Join.f a b n = some (r1, r2)) :
    Calls Try.prog 12 #[.int .i64 a, .int .i64 b, .int .i64 n] w fun e w' => e = .returned (.tuple #[.int .i64 r1, .int .i64 r2]) ∧ Below w.heap.size w w' := by
  unfold Join.f at h
  have HB := Aside0.mk (Below.refl w.heap.size w)
  by_cases ha : 0 ≤ a ∧ a ≤ 4294967295
  · rw [if_neg (by omega), if_neg (by omega)] at h
    by_cases hb : 0 ≤ b ∧ b ≤ 4294967295
    · rw [if_neg (by omega), if_neg (by omega)] at h
      by_cases h0 : n < 0
      · rw [if_pos h0] at h
        obtain ⟨rfl, rfl⟩ := by simpa using h
        have hd : decide (n < 0) = true := decide_eq_true h0
        have HA := Aside0.mk ha
        have HB0 := Aside0.mk hb
        clear ha hb h h0 hn
        go_enter Try.func12, Try.ntmps12
        go_wp2_with (first | (go_at_call 16; (first | (with_reducible refine (is_yes a _ HA.out).mono ?_) | (with_reducible refine (is_yes b _ HB0.out).mono ?_)); rintro e w0 ⟨rfl, rfl⟩))
        go_ret2
        exact ⟨rfl, HB.out⟩
      · rw [if_neg h0] at h
        obtain ⟨rfl, rfl⟩ := by simpa using h
        exact join_yes a b n w ha hb (by omega) hn
    · have h3 : some ((0 : Int), (3 : Int)) = some (r1, r2) := by
        rw [← h]
        by_cases hb0 : b < 0
        · rw [if_pos hb0]
        · rw [if_neg hb0, if_pos (by omega)]
      obtain ⟨rfl, rfl⟩ := by simpa using h3
      have HA := Aside0.mk ha
      have HB0 := Aside0.mk hb
      clear ha hb h h3 hn
      go_enter Try.func12, Try.ntmps12
      go_wp2_with (first | (go_at_call 16; (first | (with_reducible refine (is_yes a _ HA.out).mono ?_) | (with_reducible refine (is_no b _ HB0.out).mono ?_)); rintro e w0 ⟨rfl, rfl⟩))
      go_ret2
      exact ⟨rfl, HB.out⟩
  · have h3 : some ((0 : Int), (3 : Int)) = some (r1, r2) := by
      rw [← h]
      by_cases ha0 : a < 0
      · rw [if_pos ha0]
      · rw [if_neg ha0, if_pos (by omega)]
    obtain ⟨rfl, rfl⟩ := by simpa using h3
    have HA := Aside0.mk ha
    clear ha h h3 hn
    go_enter Try.func12, Try.ntmps12
    go_wp2_with (first | (go_at_call 16; (first | (with_reducible refine (is_no a _ HA.out).mono ?_)); rintro e w0 ⟨rfl, rfl⟩))
    go_ret2
    exact ⟨rfl, HB.out⟩
end Go.Proofs.Ytncfjogmggofgaa.G
