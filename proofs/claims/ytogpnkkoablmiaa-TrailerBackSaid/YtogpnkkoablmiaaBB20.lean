/- Parts of the proof: what the theorem reaches, put together by a program of this session. -/
import Derived.ArgAppend
import Derived.Below
import Derived.BigGuardPart
import Derived.BigQuiet
import Derived.BigRegion
import Derived.Deep.AppendLies
import Derived.Deep.CutBlock
import Derived.Deep.DeepCutAuto
import Derived.Deep.Draws
import Derived.Deep.LoopGhost
import Derived.Deep.OwnRows
import Derived.Deep.QuietTactic
import Derived.Deep.RegionHeld3
import Derived.Deep.RegionLaw
import Derived.KernelRfl
import Derived.Laws.BitsLemmas
import Derived.Laws.BytesArg
import Derived.Laws.EntriesVeiled
import Derived.Laws.IdiomCopy
import Derived.Laws.MakeOwn
import Derived.Laws.OwnMore
import Derived.Laws.Rows
import Derived.Laws.Slices
import Derived.Laws.StructEq
import Derived.Lib.AppendIntMem
import Derived.Lib.AppendStr
import Derived.Lib.Bytealg
import Derived.Lib.ConvBytes
import Derived.Lib.Hide
import Derived.Lib.OwnBridge
import Derived.Lib.SliceRun
import Derived.Maps.AppendAt
import Derived.Maps.OwnOps
import Derived.Maps.Views
import Derived.OpenShut
import Derived.OrdersHeld
import Derived.Outline
import Derived.OwnWalk
import Derived.RowKit
import Derived.RowKit3
import Derived.Shelf.SlSortCmp.KitK
import Derived.Shelf.Spec.SlicesInsertGrow
import Derived.Sort.LotA
import Derived.Sort.WalkB12
import Derived.Sort.WalkB2
import Derived.Tactics
import Derived.Test.YtogpnkkoablmiaaProg
import Derived.WalkKit
import Derived.WalkLawsBesides
import Derived.WideLaws
import Derived.Test.YtogpnkkoablmiaaBB1
import Derived.Test.YtogpnkkoablmiaaBB2
import Derived.Test.YtogpnkkoablmiaaBB3
import Derived.Test.YtogpnkkoablmiaaBB4
import Derived.Test.YtogpnkkoablmiaaBB5
import Derived.Test.YtogpnkkoablmiaaBB6
import Derived.Test.YtogpnkkoablmiaaBB7
import Derived.Test.YtogpnkkoablmiaaBB9
import Derived.Test.YtogpnkkoablmiaaBB10
import Derived.Test.YtogpnkkoablmiaaBB11
import Derived.Test.YtogpnkkoablmiaaBB12
import Derived.Test.YtogpnkkoablmiaaBB13
import Derived.Test.YtogpnkkoablmiaaBB14
import Derived.Test.YtogpnkkoablmiaaBB15
import Derived.Test.YtogpnkkoablmiaaBB16
import Derived.Test.YtogpnkkoablmiaaBB17
import Derived.Test.YtogpnkkoablmiaaBB18
import Derived.Test.YtogpnkkoablmiaaBB19
namespace Go.Proofs.Ytogpnkkoablmiaa.H
open Go.RowKit Go.Proofs.Ytogpnkkoablmiaa.R Go.Proofs.Ytogpnkkoablmiaa.Q Go.Proofs.YtogpnkkoablmiaaW.PrintWords Go.Proofs.YtogpnkkoablmiaaW.PrintLast
def be : Int → Nat → List Int
  | _, 0 => []
  | n, w + 1 => be (n / 256) w ++ [n % 256]
def val (l : List Int) : Int := l.foldl (fun a b => 256 * a + b) 0
theorem be_length (w : Nat) : ∀ n, (be n w).length = w := by
  induction w with
  | zero => intro n; rfl
  | succ w ih => intro n; simp [be, ih]
theorem be_range (w : Nat) : ∀ n, ∀ x ∈ be n w, 0 ≤ x ∧ x < 256 := by
  induction w with
  | zero => intro n x hx; simp [be] at hx
  | succ w ih =>
    intro n x hx
    simp only [be, List.mem_append, List.mem_singleton] at hx
    rcases hx with hx | rfl
    · exact ih _ x hx
    · omega
theorem val_snoc (l : List Int) (b : Int) : val (l ++ [b]) = 256 * val l + b := by simp [val, List.foldl_append]
theorem val_be (w : Nat) : ∀ n, 0 ≤ n → n < 256 ^ w → val (be n w) = n := by
  induction w with
  | zero => intro n h0 h1; simp [be, val]; simp at h1; omega
  | succ w ih =>
    intro n h0 h1
    have e : (256 : Int) ^ (w + 1) = 256 ^ w * 256 := Int.pow_succ ..
    rw [be, val_snoc, ih (n / 256) (by omega) (by omega)]
    omega
theorem bytes_str (xs : List Int) (h : ∀ x ∈ xs, 0 ≤ x ∧ x < 256) : bytesOf (strOfNums xs) = xs := by
  simp only [bytesOf, strOfNums, List.map_map, List.toList_toArray]
  refine (List.map_congr_left (fun x hx => ?_)).trans (List.map_id _)
  have := h x hx
  simp
  omega
theorem str_size (xs : List Int) : (strOfNums xs).size = xs.length := strOfNums_size xs
def putS (n w : Int) : ByteArray × Int :=
  if w < 0 then (⟨#[]⟩, 2) else if 8 < w then (⟨#[]⟩, 2) else if n < 0 then (⟨#[]⟩, 3) else if n < 256 ^ w.toNat then (strOfNums (be n w.toNat), 0) else (⟨#[]⟩, 3)
theorem wd_bounds (n : Int) (h0 : 0 ≤ n) (h1 : n < 9223372036854775808) : (G.wd n = 0 ∧ n < 1) ∨ (G.wd n = 1 ∧ 1 ≤ n ∧ n < 256) ∨ (G.wd n = 2 ∧ 256 ≤ n ∧ n < 65536) ∨ (G.wd n = 3 ∧ 65536 ≤ n ∧ n < 16777216)
    ∨ (G.wd n = 4 ∧ 16777216 ≤ n ∧ n < 4294967296) ∨ (G.wd n = 5 ∧ 4294967296 ≤ n ∧ n < 1099511627776) ∨ (G.wd n = 6 ∧ 1099511627776 ≤ n ∧ n < 281474976710656)
    ∨ (G.wd n = 7 ∧ 281474976710656 ≤ n ∧ n < 72057594037927936) ∨ (G.wd n = 8 ∧ 72057594037927936 ≤ n) := by
  have z0 : (G.b0 n != 0) = false → n < 72057594037927936 := by intro h; simp [G.b0] at h; omega
  have z1 : (G.b1 n != 0) = false → n < 72057594037927936 → n < 281474976710656 := by intro h; simp [G.b1] at h; omega
  have z2 : (G.b2 n != 0) = false → n < 281474976710656 → n < 1099511627776 := by intro h; simp [G.b2] at h; omega
  have z3 : (G.b3 n != 0) = false → n < 1099511627776 → n < 4294967296 := by intro h; simp [G.b3] at h; omega
  have z4 : (G.b4 n != 0) = false → n < 4294967296 → n < 16777216 := by intro h; simp [G.b4] at h; omega
  have z5 : (G.b5 n != 0) = false → n < 16777216 → n < 65536 := by intro h; simp [G.b5] at h; omega
  have z6 : (G.b6 n != 0) = false → n < 65536 → n < 256 := by intro h; simp [G.b6] at h; omega
  have z7 : (G.b7 n != 0) = false → n < 256 → n < 1 := by intro h; simp [G.b7] at h; omega
  have y0 : (G.b0 n != 0) = true → 72057594037927936 ≤ n := by intro h; simp [G.b0] at h; omega
  have y1 : (G.b1 n != 0) = true → 281474976710656 ≤ n := by intro h; simp [G.b1] at h; omega
  have y2 : (G.b2 n != 0) = true → 1099511627776 ≤ n := by intro h; simp [G.b2] at h; omega
  have y3 : (G.b3 n != 0) = true → 4294967296 ≤ n := by intro h; simp [G.b3] at h; omega
  have y4 : (G.b4 n != 0) = true → 16777216 ≤ n := by intro h; simp [G.b4] at h; omega
  have y5 : (G.b5 n != 0) = true → 65536 ≤ n := by intro h; simp [G.b5] at h; omega
  have y6 : (G.b6 n != 0) = true → 256 ≤ n := by intro h; simp [G.b6] at h; omega
  have y7 : (G.b7 n != 0) = true → 1 ≤ n := by intro h; simp [G.b7] at h; omega
  rcases G.wd_cases n with ⟨hw, f0⟩ | ⟨hw, f0, f1⟩ | ⟨hw, f0, f1, f2⟩ | ⟨hw, f0, f1, f2, f3⟩ | ⟨hw, f0, f1, f2, f3, f4⟩ | ⟨hw, f0, f1, f2, f3, f4, f5⟩ | ⟨hw, f0, f1, f2, f3, f4, f5, f6⟩ | ⟨hw, f0, f1, f2, f3, f4, f5, f6, f7⟩ | ⟨hw, f0, f1, f2, f3, f4, f5, f6, f7⟩
  · have := y0 f0; clear z0 z1 z2 z3 z4 z5 z6 z7 y0 y1 y2 y3 y4 y5 y6 y7; omega
  · have := y1 f1; have := z0 f0; clear z0 z1 z2 z3 z4 z5 z6 z7 y0 y1 y2 y3 y4 y5 y6 y7; omega
  · have := y2 f2; have := z1 f1 (z0 f0); clear z0 z1 z2 z3 z4 z5 z6 z7 y0 y1 y2 y3 y4 y5 y6 y7; omega
  · have := y3 f3; have := z2 f2 (z1 f1 (z0 f0)); clear z0 z1 z2 z3 z4 z5 z6 z7 y0 y1 y2 y3 y4 y5 y6 y7; omega
  · have := y4 f4; have := z3 f3 (z2 f2 (z1 f1 (z0 f0))); clear z0 z1 z2 z3 z4 z5 z6 z7 y0 y1 y2 y3 y4 y5 y6 y7; omega
  · have := y5 f5; have := z4 f4 (z3 f3 (z2 f2 (z1 f1 (z0 f0)))); clear z0 z1 z2 z3 z4 z5 z6 z7 y0 y1 y2 y3 y4 y5 y6 y7; omega
  · have := y6 f6; have := z5 f5 (z4 f4 (z3 f3 (z2 f2 (z1 f1 (z0 f0))))); clear z0 z1 z2 z3 z4 z5 z6 z7 y0 y1 y2 y3 y4 y5 y6 y7; omega
  · have := y7 f7; have := z6 f6 (z5 f5 (z4 f4 (z3 f3 (z2 f2 (z1 f1 (z0 f0)))))); clear z0 z1 z2 z3 z4 z5 z6 z7 y0 y1 y2 y3 y4 y5 y6 y7; omega
  · have := z7 f7 (z6 f6 (z5 f5 (z4 f4 (z3 f3 (z2 f2 (z1 f1 (z0 f0))))))); clear z0 z1 z2 z3 z4 z5 z6 z7 y0 y1 y2 y3 y4 y5 y6 y7; omega
theorem wd_iff (n : Int) (h0 : 0 ≤ n) (h1 : n < 9223372036854775808) (w : Nat) (hw : w ≤ 8) : G.wd n ≤ w ↔ n < 256 ^ w := by
  have hc : w = 0 ∨ w = 1 ∨ w = 2 ∨ w = 3 ∨ w = 4 ∨ w = 5 ∨ w = 6 ∨ w = 7 ∨ w = 8 := by omega
  have hb := wd_bounds n h0 h1
  rcases hc with rfl | rfl | rfl | rfl | rfl | rfl | rfl | rfl | rfl <;> simp <;> omega
theorem drop_be (n : Int) (w : Nat) (hw : w ≤ 8) : (G.b8 n).drop (8 - w) = be n w := by
  have hc : w = 0 ∨ w = 1 ∨ w = 2 ∨ w = 3 ∨ w = 4 ∨ w = 5 ∨ w = 6 ∨ w = 7 ∨ w = 8 := by omega
  unfold G.b8 G.b0 G.b1 G.b2 G.b3 G.b4 G.b5 G.b6 G.b7
  rcases hc with rfl | rfl | rfl | rfl | rfl | rfl | rfl | rfl | rfl <;> simp [be] <;> omega
theorem need_one (n : Int) : G.need [n] 0 = if n < 0 then -1 else G.wd n := by
  have := G.wd_lo n
  unfold G.need G.need
  split
  · rfl
  · omega
theorem put_eq (n w : Int) (h1 : n < 9223372036854775808) : fields_Put.f n w = some (putS n w) := by
  unfold fields_Put.f G.Put.f putS
  rw [need_one]
  by_cases hw : w < 0
  · rw [if_pos hw, if_pos hw]
  rw [if_neg hw, if_neg hw]
  by_cases hw8 : 8 < w
  · rw [if_pos hw8, if_pos hw8]
  rw [if_neg hw8, if_neg hw8]
  by_cases hn : n < 0
  · simp [hn]
  have hl := G.wd_lo n
  have hi := wd_iff n (by omega) h1 w.toNat (by omega)
  rw [if_neg hn, if_neg (by omega), if_neg hn]
  have ew : ((w.toNat : Nat) : Int) = w := by omega
  rw [ew] at hi
  by_cases h : n < 256 ^ w.toNat
  · have := hi.mpr h
    rw [if_pos h, if_neg (by omega)]
    have hd := drop_be n w.toNat (by omega)
    have e8 : (8 - w).toNat = 8 - w.toNat := by omega
    rw [e8, hd]
  · rw [if_neg h, if_pos]
    have : ¬ G.wd n ≤ w := fun h' => h (hi.mp h')
    omega
end Go.Proofs.Ytogpnkkoablmiaa.H
