/- Parts of the proof: what the theorem reaches, put together by a program of this session. -/
import Derived.ArgAppend
import Derived.Below
import Derived.BigGuardPart
import Derived.BigQuiet
import Derived.BigRegion
import Derived.Deep.AppendLies
import Derived.Deep.CutBlock
import Derived.Deep.DeepCutAuto
import Derived.Deep.Draws
import Derived.Deep.LoopGhost
import Derived.Deep.OwnRows
import Derived.Deep.QuietTactic
import Derived.Deep.RegionHeld3
import Derived.Deep.RegionLaw
import Derived.KernelRfl
import Derived.Laws.BitsLemmas
import Derived.Laws.BytesArg
import Derived.Laws.EntriesVeiled
import Derived.Laws.IdiomCopy
import Derived.Laws.MakeOwn
import Derived.Laws.OwnMore
import Derived.Laws.Rows
import Derived.Laws.Slices
import Derived.Laws.StructEq
import Derived.Lib.AppendIntMem
import Derived.Lib.AppendStr
import Derived.Lib.Bytealg
import Derived.Lib.ConvBytes
import Derived.Lib.Hide
import Derived.Lib.OwnBridge
import Derived.Lib.SliceRun
import Derived.Maps.AppendAt
import Derived.Maps.OwnOps
import Derived.Maps.Views
import Derived.OpenShut
import Derived.OrdersHeld
import Derived.Outline
import Derived.OwnWalk
import Derived.RowKit
import Derived.RowKit3
import Derived.Shelf.SlSortCmp.KitK
import Derived.Shelf.Spec.SlicesInsertGrow
import Derived.Sort.LotA
import Derived.Sort.WalkB12
import Derived.Sort.WalkB2
import Derived.Tactics
import Derived.Test.YtogpnkkoablmiaaProg
import Derived.WalkKit
import Derived.WalkLawsBesides
import Derived.WideLaws
import Derived.Test.YtogpnkkoablmiaaBT1
import Derived.Test.YtogpnkkoablmiaaBT2
import Derived.Test.YtogpnkkoablmiaaBT3
import Derived.Test.YtogpnkkoablmiaaBT4
import Derived.Test.YtogpnkkoablmiaaBT5
import Derived.Test.YtogpnkkoablmiaaBT6
import Derived.Test.YtogpnkkoablmiaaBT7
import Derived.Test.YtogpnkkoablmiaaBT9
import Derived.Test.YtogpnkkoablmiaaBT10
import Derived.Test.YtogpnkkoablmiaaBT11
import Derived.Test.YtogpnkkoablmiaaBT12
import Derived.Test.YtogpnkkoablmiaaBT13
import Derived.Test.YtogpnkkoablmiaaBT14
import Derived.Test.YtogpnkkoablmiaaBT15
import Derived.Test.YtogpnkkoablmiaaBT16
import Derived.Test.YtogpnkkoablmiaaBT17
import Derived.Test.YtogpnkkoablmiaaBT18
import Derived.Test.YtogpnkkoablmiaaBT19
namespace Go.Proofs.Ytogpnkkoablmiaa.H
open Go.RowKit Go.Proofs.Ytogpnkkoablmiaa.R Go.Proofs.Ytogpnkkoablmiaa.Q Go.Proofs.YtogpnkkoablmiaaW.PrintWords Go.Proofs.YtogpnkkoablmiaaW.PrintLast
def be : Int → Nat → List Int
  | _, 0 => []
  | n, w + 1 => be (n / 256) w ++ [n % 256]
theorem str_append (xs ys : List Int) : strOfNums xs ++ strOfNums ys = strOfNums (xs ++ ys) := by
  apply ByteArray.ext
  simp [strOfNums]
theorem str_size (xs : List Int) : (strOfNums xs).size = xs.length := strOfNums_size xs
theorem str_nil : strOfNums [] = (⟨#[]⟩ : ByteArray) := rfl
def putS (n w : Int) : ByteArray × Int :=
  if w < 0 then (⟨#[]⟩, 2) else if 8 < w then (⟨#[]⟩, 2) else if n < 0 then (⟨#[]⟩, 3) else if n < 256 ^ w.toNat then (strOfNums (be n w.toNat), 0) else (⟨#[]⟩, 3)
theorem wd_bounds (n : Int) (h0 : 0 ≤ n) (h1 : n < 9223372036854775808) : (G.wd n = 0 ∧ n < 1) ∨ (G.wd n = 1 ∧ 1 ≤ n ∧ n < 256) ∨ (G.wd n = 2 ∧ 256 ≤ n ∧ n < 65536) ∨ (G.wd n = 3 ∧ 65536 ≤ n ∧ n < 16777216)
    ∨ (G.wd n = 4 ∧ 16777216 ≤ n ∧ n < 4294967296) ∨ (G.wd n = 5 ∧ 4294967296 ≤ n ∧ n < 1099511627776) ∨ (G.wd n = 6 ∧ 1099511627776 ≤ n ∧ n < 281474976710656)
    ∨ (G.wd n = 7 ∧ 281474976710656 ≤ n ∧ n < 72057594037927936) ∨ (G.wd n = 8 ∧ 72057594037927936 ≤ n) := by
  have z0 : (G.b0 n != 0) = false → n < 72057594037927936 := by intro h; simp [G.b0] at h; omega
  have z1 : (G.b1 n != 0) = false → n < 72057594037927936 → n < 281474976710656 := by intro h; simp [G.b1] at h; omega
  have z2 : (G.b2 n != 0) = false → n < 281474976710656 → n < 1099511627776 := by intro h; simp [G.b2] at h; omega
  have z3 : (G.b3 n != 0) = false → n < 1099511627776 → n < 4294967296 := by intro h; simp [G.b3] at h; omega
  have z4 : (G.b4 n != 0) = false → n < 4294967296 → n < 16777216 := by intro h; simp [G.b4] at h; omega
  have z5 : (G.b5 n != 0) = false → n < 16777216 → n < 65536 := by intro h; simp [G.b5] at h; omega
  have z6 : (G.b6 n != 0) = false → n < 65536 → n < 256 := by intro h; simp [G.b6] at h; omega
  have z7 : (G.b7 n != 0) = false → n < 256 → n < 1 := by intro h; simp [G.b7] at h; omega
  have y0 : (G.b0 n != 0) = true → 72057594037927936 ≤ n := by intro h; simp [G.b0] at h; omega
  have y1 : (G.b1 n != 0) = true → 281474976710656 ≤ n := by intro h; simp [G.b1] at h; omega
  have y2 : (G.b2 n != 0) = true → 1099511627776 ≤ n := by intro h; simp [G.b2] at h; omega
  have y3 : (G.b3 n != 0) = true → 4294967296 ≤ n := by intro h; simp [G.b3] at h; omega
  have y4 : (G.b4 n != 0) = true → 16777216 ≤ n := by intro h; simp [G.b4] at h; omega
  have y5 : (G.b5 n != 0) = true → 65536 ≤ n := by intro h; simp [G.b5] at h; omega
  have y6 : (G.b6 n != 0) = true → 256 ≤ n := by intro h; simp [G.b6] at h; omega
  have y7 : (G.b7 n != 0) = true → 1 ≤ n := by intro h; simp [G.b7] at h; omega
  rcases G.wd_cases n with ⟨hw, f0⟩ | ⟨hw, f0, f1⟩ | ⟨hw, f0, f1, f2⟩ | ⟨hw, f0, f1, f2, f3⟩ | ⟨hw, f0, f1, f2, f3, f4⟩ | ⟨hw, f0, f1, f2, f3, f4, f5⟩ | ⟨hw, f0, f1, f2, f3, f4, f5, f6⟩ | ⟨hw, f0, f1, f2, f3, f4, f5, f6, f7⟩ | ⟨hw, f0, f1, f2, f3, f4, f5, f6, f7⟩
  · have := y0 f0; clear z0 z1 z2 z3 z4 z5 z6 z7 y0 y1 y2 y3 y4 y5 y6 y7; omega
  · have := y1 f1; have := z0 f0; clear z0 z1 z2 z3 z4 z5 z6 z7 y0 y1 y2 y3 y4 y5 y6 y7; omega
  · have := y2 f2; have := z1 f1 (z0 f0); clear z0 z1 z2 z3 z4 z5 z6 z7 y0 y1 y2 y3 y4 y5 y6 y7; omega
  · have := y3 f3; have := z2 f2 (z1 f1 (z0 f0)); clear z0 z1 z2 z3 z4 z5 z6 z7 y0 y1 y2 y3 y4 y5 y6 y7; omega
  · have := y4 f4; have := z3 f3 (z2 f2 (z1 f1 (z0 f0))); clear z0 z1 z2 z3 z4 z5 z6 z7 y0 y1 y2 y3 y4 y5 y6 y7; omega
  · have := y5 f5; have := z4 f4 (z3 f3 (z2 f2 (z1 f1 (z0 f0)))); clear z0 z1 z2 z3 z4 z5 z6 z7 y0 y1 y2 y3 y4 y5 y6 y7; omega
  · have := y6 f6; have := z5 f5 (z4 f4 (z3 f3 (z2 f2 (z1 f1 (z0 f0))))); clear z0 z1 z2 z3 z4 z5 z6 z7 y0 y1 y2 y3 y4 y5 y6 y7; omega
  · have := y7 f7; have := z6 f6 (z5 f5 (z4 f4 (z3 f3 (z2 f2 (z1 f1 (z0 f0)))))); clear z0 z1 z2 z3 z4 z5 z6 z7 y0 y1 y2 y3 y4 y5 y6 y7; omega
  · have := z7 f7 (z6 f6 (z5 f5 (z4 f4 (z3 f3 (z2 f2 (z1 f1 (z0 f0))))))); clear z0 z1 z2 z3 z4 z5 z6 z7 y0 y1 y2 y3 y4 y5 y6 y7; omega
theorem wd_iff (n : Int) (h0 : 0 ≤ n) (h1 : n < 9223372036854775808) (w : Nat) (hw : w ≤ 8) : G.wd n ≤ w ↔ n < 256 ^ w := by
  have hc : w = 0 ∨ w = 1 ∨ w = 2 ∨ w = 3 ∨ w = 4 ∨ w = 5 ∨ w = 6 ∨ w = 7 ∨ w = 8 := by omega
  have hb := wd_bounds n h0 h1
  rcases hc with rfl | rfl | rfl | rfl | rfl | rfl | rfl | rfl | rfl <;> simp <;> omega
theorem drop_be (n : Int) (w : Nat) (hw : w ≤ 8) : (G.b8 n).drop (8 - w) = be n w := by
  have hc : w = 0 ∨ w = 1 ∨ w = 2 ∨ w = 3 ∨ w = 4 ∨ w = 5 ∨ w = 6 ∨ w = 7 ∨ w = 8 := by omega
  unfold G.b8 G.b0 G.b1 G.b2 G.b3 G.b4 G.b5 G.b6 G.b7
  rcases hc with rfl | rfl | rfl | rfl | rfl | rfl | rfl | rfl | rfl <;> simp [be] <;> omega
theorem need_one (n : Int) : G.need [n] 0 = if n < 0 then -1 else G.wd n := by
  have := G.wd_lo n
  unfold G.need G.need
  split
  · rfl
  · omega
theorem put_eq (n w : Int) (h1 : n < 9223372036854775808) : fields_Put.f n w = some (putS n w) := by
  unfold fields_Put.f G.Put.f putS
  rw [need_one]
  by_cases hw : w < 0
  · rw [if_pos hw, if_pos hw]
  rw [if_neg hw, if_neg hw]
  by_cases hw8 : 8 < w
  · rw [if_pos hw8, if_pos hw8]
  rw [if_neg hw8, if_neg hw8]
  by_cases hn : n < 0
  · simp [hn]
  have hl := G.wd_lo n
  have hi := wd_iff n (by omega) h1 w.toNat (by omega)
  rw [if_neg hn, if_neg (by omega), if_neg hn]
  have ew : ((w.toNat : Nat) : Int) = w := by omega
  rw [ew] at hi
  by_cases h : n < 256 ^ w.toNat
  · have := hi.mpr h
    rw [if_pos h, if_neg (by omega)]
    have hd := drop_be n w.toNat (by omega)
    have e8 : (8 - w).toNat = 8 - w.toNat := by omega
    rw [e8, hd]
  · rw [if_neg h, if_pos]
    have : ¬ G.wd n ≤ w := fun h' => h (hi.mp h')
    omega
theorem refPut_l0 (w : Int) (hw : w ≤ 8) (d : Nat) : ∀ (k : Nat) (x i : Int) (acc : ByteArray), 0 ≤ x → x < 9223372036854775808 → 0 ≤ i → w - i = d → d < k → acc.size + d ≤ 8 →
    binderyref03_Put.l0 k x w acc i = some (if x < 256 ^ d then (strOfNums (be x d) ++ acc, 0) else (⟨#[]⟩, 3)) := by
  induction d with
  | zero =>
    intro k x i acc h0 h1 hi hd hk hs
    obtain ⟨k, rfl⟩ : ∃ m, k = m + 1 := ⟨k - 1, by omega⟩
    simp only [binderyref03_Put.l0]
    rw [if_neg (by omega)]
    by_cases hx : x > 0
    · rw [if_pos hx, if_neg (by simp; omega)]
    · rw [if_neg hx, if_pos (by simp; omega)]
      simp [be, str_nil]
      apply ByteArray.ext
      simp
  | succ d ih =>
    intro k x i acc h0 h1 hi hd hk hs
    obtain ⟨k, rfl⟩ : ∃ m, k = m + 1 := ⟨k - 1, by omega⟩
    have e : (256 : Int) ^ (d + 1) = 256 ^ d * 256 := Int.pow_succ ..
    simp only [binderyref03_Put.l0]
    rw [if_pos (by omega)]
    simp only [Option.bind_some]
    have e1 : Int.tmod x 256 = x % 256 := Int.tmod_eq_emod_of_nonneg h0
    have e2 : Int.tdiv x 256 = x / 256 := Int.tdiv_eq_ediv_of_nonneg h0
    have e3 : wrap64 (x / 256) = x / 256 := by unfold wrap64; omega
    have e4 : wrap64 (i + 1) = i + 1 := by unfold wrap64; omega
    have e5 : x % 256 % 256 = x % 256 := by omega
    rw [e1, e2, e3, e4, e5, str_size, if_pos (by simp; omega), ih k (x / 256) (i + 1) _ (by omega) (by omega) (by omega) (by omega) (by omega) (by rw [ByteArray.size_append, str_size]; simp; omega)]
    have hiff : x / 256 < 256 ^ d ↔ x < 256 ^ (d + 1) := by omega
    by_cases hx : x < 256 ^ (d + 1)
    · rw [if_pos hx, if_pos (hiff.mpr hx), be, ← str_append, ByteArray.append_assoc]
    · rw [if_neg hx, if_neg (fun h => hx (hiff.mp h))]
theorem refPut_eq (n w : Int) (h1 : n < 9223372036854775808) (k : Nat) (hk : 10 ≤ k) : binderyref03_Put.f k n w = some (putS n w) := by
  obtain ⟨k, rfl⟩ : ∃ m, k = m + 1 := ⟨k - 1, by omega⟩
  unfold binderyref03_Put.f putS
  by_cases hw : w < 0
  · rw [if_pos hw, if_pos hw]; rfl
  rw [if_neg hw, if_neg hw]
  simp only [binderyref03_Put.j0]
  by_cases hw8 : 8 < w
  · rw [if_pos hw8, if_pos (by simpa using hw8)]
  rw [if_neg hw8, if_neg (by simpa using hw8)]
  by_cases hn : n < 0
  · rw [if_pos hn, if_pos hn]
  rw [if_neg hn, if_neg hn, refPut_l0 w (by omega) w.toNat k n 0 _ (by omega) h1 (by omega) (by omega) (by omega) (by show (0 : Nat) + _ ≤ 8; omega)]
  by_cases h : n < 256 ^ w.toNat
  · rw [if_pos h, if_pos h]
    congr 2
    apply ByteArray.ext
    simp
  · rw [if_neg h, if_neg h]
end Go.Proofs.Ytogpnkkoablmiaa.H
