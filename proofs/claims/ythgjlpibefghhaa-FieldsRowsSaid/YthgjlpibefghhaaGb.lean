/- What the machine does in fields.Put. -/
import Derived.Test.YthgjlpibefghhaaGa
import Derived.Test.YthgjlpibefghhaaProg
import Derived.Below
import Derived.Deep.Draws
import Derived.Deep.AppendLies
import Derived.Maps.AppendAt
import Derived.OwnWalk
import Derived.Laws.BytesArg
import Derived.Laws.MakeOwn
import Derived.Laws.OwnMore
import Derived.Deep.OwnRows
import Derived.Tactics
import Derived.Lib.ConvBytes
import Derived.Laws.Slices
import Derived.WalkKit
import Derived.KernelRfl
import Derived.RowKit3
import Derived.Deep.LoopGhost
import Derived.Deep.QuietTactic
import Derived.BigQuiet
import Derived.WideLaws
import Derived.Deep.DeepCutAuto
import Derived.Deep.CutBlock
import Derived.Deep.RegionHeld3
import Derived.Laws.Rows
import Derived.Lib.AppendStr
import Derived.ArgAppend
import Derived.Laws.IdiomCopy
import Derived.OrdersHeld
import Derived.Laws.BitsLemmas
import Derived.RowKit
import Derived.Test.YthgjlpibefghhaaWWords
import Derived.Test.YthgjlpibefghhaaWLast
import Derived.Test.YthgjlpibefghhaaWTab
import Derived.Test.YthgjlpibefghhaaWFour
import Derived.Test.YthgjlpibefghhaaWQPut
import Derived.Test.YthgjlpibefghhaaWApart
import Derived.Test.YthgjlpibefghhaaWArr
import Derived.Test.YthgjlpibefghhaaWZeros
import Derived.Test.YthgjlpibefghhaaWFoot
import Derived.Test.YthgjlpibefghhaaWKept
import Derived.Test.YthgjlpibefghhaaWShare
import Derived.Test.YthgjlpibefghhaaWN
import Derived.Test.YthgjlpibefghhaaWFootNe
import Derived.Test.YthgjlpibefghhaaWAt
import Derived.Test.YthgjlpibefghhaaWEqStruct
import Derived.Test.YthgjlpibefghhaaWRepsOne
import Derived.Test.YthgjlpibefghhaaWInv
import Derived.Test.YthgjlpibefghhaaWInvWords
import Derived.Test.YthgjlpibefghhaaWGuard
import Derived.Test.YthgjlpibefghhaaWNEv
import Derived.Test.YthgjlpibefghhaaWMore
namespace Go.Proofs.Ythgjlpibefghhaa.G
open Go.RowKit Go.Proofs.YthgjlpibefghhaaW.PrintWords Go.Proofs.YthgjlpibefghhaaW.PrintLast Go.Proofs.YthgjlpibefghhaaW.PrintMore
set_option linter.unusedVariables false
set_option linter.unusedSimpArgs false
theorem fits_yes (a : Int) (w : World) (h0 : decide (0 ≤ a) = true) (h1 : decide (a ≤ 8) = true) : Calls Try.prog 19 #[.int .i64 a] w fun e w' => e = .returned (.bool true) ∧ w = w' := by
  go_enter Try.func19, Try.ntmps19
  go_wp2
  go_ret
  exact ⟨rfl, rfl⟩
theorem C_one (W : World) (n : Int) : Kd.C (Kd.int .i64) (W.alloc (.cells #[.int .i64 n] 3)) (some ⟨W.heap.size, 0, none⟩) [n].length [n] := by
  refine ⟨rfl, by simp, fun _ => ⟨_, rfl, fun j p hj => ?_⟩⟩
  cases j with
  | zero =>
    obtain rfl : n = p := by simpa using hj
    refine ⟨[.int .i64 n], rfl, rfl, fun i u hu => ?_⟩
    cases i with
    | zero =>
      obtain rfl : Value.int .i64 n = u := by simpa using hu
      have e : ((⟨W.heap.size, 0, none⟩ : Addr).add (0 * (Kd.int .i64).sz + 0)) = ⟨W.heap.size, 0, none⟩ := by rw [add_plain]; rfl
      rw [e]
      rw [World.cell?_alloc_new]; rfl
    | succ i => simp at hu
  | succ j => simp at hj
theorem need1_calls (n m : Int) (W : World) (hm : need [n] 0 = m) : Calls Try.prog 12 #[.slice (some ⟨W.heap.size, 0, none⟩) 1 1] (W.alloc (.cells #[.int .i64 n] 3)) fun e w' => e = .returned (.int .i64 m) ∧ Below (W.alloc (.cells #[.int .i64 n] 3)).heap.size (W.alloc (.cells #[.int .i64 n] 3)) w' :=
  need_calls (some ⟨W.heap.size, 0, none⟩) 1 [n] m _ (C_one W n) (by simp) (by rw [← hm]; rfl)

def b8 (n : Int) : List Int := [b0 n, b1 n, b2 n, b3 n, b4 n, b5 n, b6 n, b7 n]
theorem cv (W : World) (n : Int) (off len cap : Nat) (xs : List Int) (hl : xs.length = len)
    (hx : ∀ i, i < len → (#[.int .u8 (b0 n), .int .u8 (b1 n), .int .u8 (b2 n), .int .u8 (b3 n), .int .u8 (b4 n), .int .u8 (b5 n), .int .u8 (b6 n), .int .u8 (b7 n)] : Array Value)[off + i]? = some (.int .u8 (xs.getD i 0))) :
    (convert 48 9 (.slice (some ⟨W.heap.size, off, none⟩) len cap)).run Try.prog (W.alloc (.cells #[.int .u8 (b0 n), .int .u8 (b1 n), .int .u8 (b2 n), .int .u8 (b3 n), .int .u8 (b4 n), .int .u8 (b5 n), .int .u8 (b6 n), .int .u8 (b7 n)] 46)) = .ok (.string (strOfNums xs)) (W.alloc (.cells #[.int .u8 (b0 n), .int .u8 (b1 n), .int .u8 (b2 n), .int .u8 (b3 n), .int .u8 (b4 n), .int .u8 (b5 n), .int .u8 (b6 n), .int .u8 (b7 n)] 46)) :=
  run_convert_bytes_arg _ 48 5 Try.underlying48 Try.underlying5 _ off len cap xs hl (fun i hi => by rw [World.cell?_alloc_new]; exact hx i hi) 9 Try.underlying9
theorem cv0 (W : World) (n : Int) : (convert 48 9 (.slice (some ⟨W.heap.size, 0, none⟩) 0 0)).run Try.prog (W.alloc (.cells #[.int .u8 (b0 n), .int .u8 (b1 n), .int .u8 (b2 n), .int .u8 (b3 n), .int .u8 (b4 n), .int .u8 (b5 n), .int .u8 (b6 n), .int .u8 (b7 n)] 46)) = .ok (.string (strOfNums ((b8 n).drop 8))) (W.alloc (.cells #[.int .u8 (b0 n), .int .u8 (b1 n), .int .u8 (b2 n), .int .u8 (b3 n), .int .u8 (b4 n), .int .u8 (b5 n), .int .u8 (b6 n), .int .u8 (b7 n)] 46)) :=
  cv W n 0 0 0 _ rfl (fun i hi => by rcases i with _|_|_|_|_|_|_|_|i <;> first | rfl | (exact absurd hi (by simp)) | omega)
theorem cv1 (W : World) (n : Int) : (convert 48 9 (.slice (some ⟨W.heap.size, 7, none⟩) 1 1)).run Try.prog (W.alloc (.cells #[.int .u8 (b0 n), .int .u8 (b1 n), .int .u8 (b2 n), .int .u8 (b3 n), .int .u8 (b4 n), .int .u8 (b5 n), .int .u8 (b6 n), .int .u8 (b7 n)] 46)) = .ok (.string (strOfNums ((b8 n).drop 7))) (W.alloc (.cells #[.int .u8 (b0 n), .int .u8 (b1 n), .int .u8 (b2 n), .int .u8 (b3 n), .int .u8 (b4 n), .int .u8 (b5 n), .int .u8 (b6 n), .int .u8 (b7 n)] 46)) :=
  cv W n 7 1 1 _ rfl (fun i hi => by rcases i with _|_|_|_|_|_|_|_|i <;> first | rfl | (exact absurd hi (by simp)) | omega)
theorem cv2 (W : World) (n : Int) : (convert 48 9 (.slice (some ⟨W.heap.size, 6, none⟩) 2 2)).run Try.prog (W.alloc (.cells #[.int .u8 (b0 n), .int .u8 (b1 n), .int .u8 (b2 n), .int .u8 (b3 n), .int .u8 (b4 n), .int .u8 (b5 n), .int .u8 (b6 n), .int .u8 (b7 n)] 46)) = .ok (.string (strOfNums ((b8 n).drop 6))) (W.alloc (.cells #[.int .u8 (b0 n), .int .u8 (b1 n), .int .u8 (b2 n), .int .u8 (b3 n), .int .u8 (b4 n), .int .u8 (b5 n), .int .u8 (b6 n), .int .u8 (b7 n)] 46)) :=
  cv W n 6 2 2 _ rfl (fun i hi => by rcases i with _|_|_|_|_|_|_|_|i <;> first | rfl | (exact absurd hi (by simp)) | omega)
theorem cv3 (W : World) (n : Int) : (convert 48 9 (.slice (some ⟨W.heap.size, 5, none⟩) 3 3)).run Try.prog (W.alloc (.cells #[.int .u8 (b0 n), .int .u8 (b1 n), .int .u8 (b2 n), .int .u8 (b3 n), .int .u8 (b4 n), .int .u8 (b5 n), .int .u8 (b6 n), .int .u8 (b7 n)] 46)) = .ok (.string (strOfNums ((b8 n).drop 5))) (W.alloc (.cells #[.int .u8 (b0 n), .int .u8 (b1 n), .int .u8 (b2 n), .int .u8 (b3 n), .int .u8 (b4 n), .int .u8 (b5 n), .int .u8 (b6 n), .int .u8 (b7 n)] 46)) :=
  cv W n 5 3 3 _ rfl (fun i hi => by rcases i with _|_|_|_|_|_|_|_|i <;> first | rfl | (exact absurd hi (by simp)) | omega)
theorem cv4 (W : World) (n : Int) : (convert 48 9 (.slice (some ⟨W.heap.size, 4, none⟩) 4 4)).run Try.prog (W.alloc (.cells #[.int .u8 (b0 n), .int .u8 (b1 n), .int .u8 (b2 n), .int .u8 (b3 n), .int .u8 (b4 n), .int .u8 (b5 n), .int .u8 (b6 n), .int .u8 (b7 n)] 46)) = .ok (.string (strOfNums ((b8 n).drop 4))) (W.alloc (.cells #[.int .u8 (b0 n), .int .u8 (b1 n), .int .u8 (b2 n), .int .u8 (b3 n), .int .u8 (b4 n), .int .u8 (b5 n), .int .u8 (b6 n), .int .u8 (b7 n)] 46)) :=
  cv W n 4 4 4 _ rfl (fun i hi => by rcases i with _|_|_|_|_|_|_|_|i <;> first | rfl | (exact absurd hi (by simp)) | omega)
theorem cv5 (W : World) (n : Int) : (convert 48 9 (.slice (some ⟨W.heap.size, 3, none⟩) 5 5)).run Try.prog (W.alloc (.cells #[.int .u8 (b0 n), .int .u8 (b1 n), .int .u8 (b2 n), .int .u8 (b3 n), .int .u8 (b4 n), .int .u8 (b5 n), .int .u8 (b6 n), .int .u8 (b7 n)] 46)) = .ok (.string (strOfNums ((b8 n).drop 3))) (W.alloc (.cells #[.int .u8 (b0 n), .int .u8 (b1 n), .int .u8 (b2 n), .int .u8 (b3 n), .int .u8 (b4 n), .int .u8 (b5 n), .int .u8 (b6 n), .int .u8 (b7 n)] 46)) :=
  cv W n 3 5 5 _ rfl (fun i hi => by rcases i with _|_|_|_|_|_|_|_|i <;> first | rfl | (exact absurd hi (by simp)) | omega)
theorem cv6 (W : World) (n : Int) : (convert 48 9 (.slice (some ⟨W.heap.size, 2, none⟩) 6 6)).run Try.prog (W.alloc (.cells #[.int .u8 (b0 n), .int .u8 (b1 n), .int .u8 (b2 n), .int .u8 (b3 n), .int .u8 (b4 n), .int .u8 (b5 n), .int .u8 (b6 n), .int .u8 (b7 n)] 46)) = .ok (.string (strOfNums ((b8 n).drop 2))) (W.alloc (.cells #[.int .u8 (b0 n), .int .u8 (b1 n), .int .u8 (b2 n), .int .u8 (b3 n), .int .u8 (b4 n), .int .u8 (b5 n), .int .u8 (b6 n), .int .u8 (b7 n)] 46)) :=
  cv W n 2 6 6 _ rfl (fun i hi => by rcases i with _|_|_|_|_|_|_|_|i <;> first | rfl | (exact absurd hi (by simp)) | omega)
theorem cv7 (W : World) (n : Int) : (convert 48 9 (.slice (some ⟨W.heap.size, 1, none⟩) 7 7)).run Try.prog (W.alloc (.cells #[.int .u8 (b0 n), .int .u8 (b1 n), .int .u8 (b2 n), .int .u8 (b3 n), .int .u8 (b4 n), .int .u8 (b5 n), .int .u8 (b6 n), .int .u8 (b7 n)] 46)) = .ok (.string (strOfNums ((b8 n).drop 1))) (W.alloc (.cells #[.int .u8 (b0 n), .int .u8 (b1 n), .int .u8 (b2 n), .int .u8 (b3 n), .int .u8 (b4 n), .int .u8 (b5 n), .int .u8 (b6 n), .int .u8 (b7 n)] 46)) :=
  cv W n 1 7 7 _ rfl (fun i hi => by rcases i with _|_|_|_|_|_|_|_|i <;> first | rfl | (exact absurd hi (by simp)) | omega)
theorem cv8 (W : World) (n : Int) : (convert 48 9 (.slice (some ⟨W.heap.size, 0, none⟩) 8 8)).run Try.prog (W.alloc (.cells #[.int .u8 (b0 n), .int .u8 (b1 n), .int .u8 (b2 n), .int .u8 (b3 n), .int .u8 (b4 n), .int .u8 (b5 n), .int .u8 (b6 n), .int .u8 (b7 n)] 46)) = .ok (.string (strOfNums ((b8 n).drop 0))) (W.alloc (.cells #[.int .u8 (b0 n), .int .u8 (b1 n), .int .u8 (b2 n), .int .u8 (b3 n), .int .u8 (b4 n), .int .u8 (b5 n), .int .u8 (b6 n), .int .u8 (b7 n)] 46)) :=
  cv W n 0 8 8 _ rfl (fun i hi => by rcases i with _|_|_|_|_|_|_|_|i <;> first | rfl | (exact absurd hi (by simp)) | omega)
attribute [local go_sem] cv0 cv1 cv2 cv3 cv4 cv5 cv6 cv7 cv8
def Put.f (a0 a1 : Int) : Option (ByteArray × Int) :=
  if a1 < 0 then some (⟨#[]⟩, 2) else if 8 < a1 then some (⟨#[]⟩, 2) else if need [a0] 0 < 0 then some (⟨#[]⟩, 3) else if a1 < need [a0] 0 then some (⟨#[]⟩, 3) else some (strOfNums ((b8 a0).drop (8 - a1).toNat), 0)

set_option maxHeartbeats 8000000 in
set_option maxRecDepth 100000 in
theorem put_calls (a0 a1 : Int) (r1 : ByteArray) (r2 : Int) (w : World) (h : Put.f a0 a1 = some (r1, r2)) :
    Calls Try.prog 7 #[.int .i64 a0, .int .i64 a1] w fun e w' => e = .returned (.tuple #[.string r1, .int .i64 r2]) ∧ Below w.heap.size w w' := by
  have HB := Aside0.mk (Below.refl w.heap.size w)
  unfold Put.f at h
  by_cases h1 : a1 < 0
  · rw [if_pos h1] at h
    obtain ⟨rfl, rfl⟩ := by simpa using h
    clear h
    go_enter Try.func7, Try.ntmps7
    go_wp2
    go_ret2
    exact ⟨rfl, HB.out⟩
  rw [if_neg h1] at h
  by_cases h2 : 8 < a1
  · rw [if_pos h2] at h
    obtain ⟨rfl, rfl⟩ := by simpa using h
    clear h
    have t2 : decide (a1 ≤ 8) = false := decide_eq_false (by omega)
    have t3 : decide (0 ≤ a1) = true := decide_eq_true (by omega)
    go_enter Try.func7, Try.ntmps7
    go_wp2
    go_ret2
    exact ⟨rfl, HB.out⟩
  rw [if_neg h2] at h
  have t2 : decide (a1 ≤ 8) = true := decide_eq_true (by omega)
  have t3 : decide (0 ≤ a1) = true := decide_eq_true (by omega)
  obtain ⟨m, hm⟩ : ∃ m, m = need [a0] 0 := ⟨_, rfl⟩
  have HM := Aside0.mk hm.symm
  rw [← hm] at h
  clear hm
  by_cases h3 : m < 0
  · rw [if_pos h3] at h
    obtain ⟨rfl, rfl⟩ := by simpa using h
    clear h
    go_enter Try.func7, Try.ntmps7
    go_wp2_with (first | (go_at_call 19; refine (fits_yes a1 _ t3 t2).mono ?_; rintro e w0 ⟨rfl, rfl⟩) | (go_at_call 12; go_loud (refine (need1_calls a0 m _ HM.out).mono ?_); rintro e w1 ⟨rfl, hb1⟩))
    go_ret2
    exact ⟨rfl, by first | exact ((HB.out.alloc (Nat.le_refl _) _).trans (hb1.mono (by simp)))⟩
  rw [if_neg h3] at h
  by_cases h4 : a1 < m
  · rw [if_pos h4] at h
    obtain ⟨rfl, rfl⟩ := by simpa using h
    clear h
    go_enter Try.func7, Try.ntmps7
    go_wp2_with (first | (go_at_call 19; refine (fits_yes a1 _ t3 t2).mono ?_; rintro e w0 ⟨rfl, rfl⟩) | (go_at_call 12; go_loud (refine (need1_calls a0 m _ HM.out).mono ?_); rintro e w1 ⟨rfl, hb1⟩))
    go_ret2
    exact ⟨rfl, by first | exact ((HB.out.alloc (Nat.le_refl _) _).trans (hb1.mono (by simp)))⟩
  rw [if_neg h4] at h
  obtain ⟨rfl, rfl⟩ := by simpa using h
  clear h
  have hc : a1 = 0 ∨ a1 = 1 ∨ a1 = 2 ∨ a1 = 3 ∨ a1 = 4 ∨ a1 = 5 ∨ a1 = 6 ∨ a1 = 7 ∨ a1 = 8 := by omega
  clear h1 h2 t2 t3
  rcases hc with rfl | rfl | rfl | rfl | rfl | rfl | rfl | rfl | rfl
  all_goals
    go_enter Try.func7, Try.ntmps7
    go_wp2_with (first | (go_at_call 19; refine (fits_yes _ _ rfl rfl).mono ?_; rintro e w0 ⟨rfl, rfl⟩) | (go_at_call 12; go_loud (refine (need1_calls a0 m _ HM.out).mono ?_); rintro e w1 ⟨rfl, hb1⟩) | (go_at_call 20; refine (whole_calls _ _).mono ?_; rintro e w2 ⟨rfl, hb2⟩))
    go_ret2
    exact ⟨rfl, ((((HB.out.alloc (Nat.le_refl _) _).trans (hb1.mono (by simp))).trans (hb2.mono (by have := hb1.size; simp at this; omega))).alloc (by have := hb1.size; have := hb2.size; simp at *; omega) _)⟩
end Go.Proofs.Ythgjlpibefghhaa.G
