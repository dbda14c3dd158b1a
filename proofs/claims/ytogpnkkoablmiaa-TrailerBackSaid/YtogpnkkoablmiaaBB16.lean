/- Parts of the proof: what the theorem reaches, put together by a program of this session. -/
import Derived.ArgAppend
import Derived.Below
import Derived.BigQuiet
import Derived.Deep.AppendLies
import Derived.Deep.CutBlock
import Derived.Deep.DeepCutAuto
import Derived.Deep.Draws
import Derived.Deep.LoopGhost
import Derived.Deep.OwnRows
import Derived.Deep.QuietTactic
import Derived.Deep.RegionHeld3
import Derived.KernelRfl
import Derived.Laws.BitsLemmas
import Derived.Laws.BytesArg
import Derived.Laws.IdiomCopy
import Derived.Laws.MakeOwn
import Derived.Laws.OwnMore
import Derived.Laws.Rows
import Derived.Laws.Slices
import Derived.Laws.StructEq
import Derived.Lib.AppendStr
import Derived.Lib.ConvBytes
import Derived.Maps.AppendAt
import Derived.OrdersHeld
import Derived.OwnWalk
import Derived.RowKit
import Derived.RowKit3
import Derived.Tactics
import Derived.Test.YtogpnkkoablmiaaProg
import Derived.WalkKit
import Derived.WideLaws
import Derived.Test.YtogpnkkoablmiaaBB1
import Derived.Test.YtogpnkkoablmiaaBB2
import Derived.Test.YtogpnkkoablmiaaBB3
import Derived.Test.YtogpnkkoablmiaaBB4
import Derived.Test.YtogpnkkoablmiaaBB5
import Derived.Test.YtogpnkkoablmiaaBB6
import Derived.Test.YtogpnkkoablmiaaBB7
section
namespace Go.Proofs.Ytogpnkkoablmiaa.G
open Go.RowKit Go.Proofs.YtogpnkkoablmiaaW.PrintWords Go.Proofs.YtogpnkkoablmiaaW.PrintLast Go.Proofs.YtogpnkkoablmiaaW.PrintMore
set_option linter.unusedVariables false
set_option linter.unusedSimpArgs false
def b0 (n : Int) : Int := n / 72057594037927936 % 256
def b1 (n : Int) : Int := n / 281474976710656 % 256
def b2 (n : Int) : Int := n / 1099511627776 % 256
def b3 (n : Int) : Int := n / 4294967296 % 256
def b4 (n : Int) : Int := n / 16777216 % 256
def b5 (n : Int) : Int := n / 65536 % 256
def b6 (n : Int) : Int := n / 256 % 256
def b7 (n : Int) : Int := n % 256
set_option maxHeartbeats 4000000 in
set_option maxRecDepth 100000 in
theorem whole_calls (n : Int) (w : World) :
    Calls Try.prog 147 #[.int .i64 n] w fun e w' => e = .returned (.agg #[.int .u8 (b0 n), .int .u8 (b1 n), .int .u8 (b2 n), .int .u8 (b3 n), .int .u8 (b4 n), .int .u8 (b5 n), .int .u8 (b6 n), .int .u8 (b7 n)]) ∧ Below w.heap.size w w' := by
  go_enter Try.func147, Try.ntmps147
  go_wp2
  refine wp_loop_rounds 9 ?_
  repeat (rw [rounds_succ]; go_wp2)
  exact bodyPost_ret (v := .agg #[.int .u8 (b0 n), .int .u8 (b1 n), .int .u8 (b2 n), .int .u8 (b3 n), .int .u8 (b4 n), .int .u8 (b5 n), .int .u8 (b6 n), .int .u8 (b7 n)]) (by simp [results, Try.results147, go_sem]; exact ⟨rfl, rfl, rfl, rfl, rfl, rfl, rfl, rfl⟩) rfl ⟨rfl, ((Below.refl _ _).alloc (Nat.le_refl _) _).alloc (by simp) _⟩
def wd (n : Int) : Int := if b0 n = 0 then if b1 n = 0 then if b2 n = 0 then if b3 n = 0 then if b4 n = 0 then if b5 n = 0 then if b6 n = 0 then if b7 n = 0 then 0 else 1 else 2 else 3 else 4 else 5 else 6 else 7 else 8
def need : List Int → Int → Int
  | [], a => a
  | n :: r, a => if n < 0 then -1 else need r (max a (wd n))
theorem wd_lo (n : Int) : 0 ≤ wd n ∧ wd n ≤ 8 := by unfold wd; repeat (first | split | omega)
theorem ret_int {k : IntKind} {a b : Int} (h : a = b) : Ending.returned (.int k a) = .returned (.int k b) := by rw [h]
def Need.f (l0 : List Int) : Option Int := some (need l0 0)
theorem wd_cases (n : Int) : (wd n = 8 ∧ (b0 n != 0) = true) ∨ (wd n = 7 ∧ (b0 n != 0) = false ∧ (b1 n != 0) = true) ∨ (wd n = 6 ∧ (b0 n != 0) = false ∧ (b1 n != 0) = false ∧ (b2 n != 0) = true)
    ∨ (wd n = 5 ∧ (b0 n != 0) = false ∧ (b1 n != 0) = false ∧ (b2 n != 0) = false ∧ (b3 n != 0) = true)
    ∨ (wd n = 4 ∧ (b0 n != 0) = false ∧ (b1 n != 0) = false ∧ (b2 n != 0) = false ∧ (b3 n != 0) = false ∧ (b4 n != 0) = true)
    ∨ (wd n = 3 ∧ (b0 n != 0) = false ∧ (b1 n != 0) = false ∧ (b2 n != 0) = false ∧ (b3 n != 0) = false ∧ (b4 n != 0) = false ∧ (b5 n != 0) = true)
    ∨ (wd n = 2 ∧ (b0 n != 0) = false ∧ (b1 n != 0) = false ∧ (b2 n != 0) = false ∧ (b3 n != 0) = false ∧ (b4 n != 0) = false ∧ (b5 n != 0) = false ∧ (b6 n != 0) = true)
    ∨ (wd n = 1 ∧ (b0 n != 0) = false ∧ (b1 n != 0) = false ∧ (b2 n != 0) = false ∧ (b3 n != 0) = false ∧ (b4 n != 0) = false ∧ (b5 n != 0) = false ∧ (b6 n != 0) = false ∧ (b7 n != 0) = true)
    ∨ (wd n = 0 ∧ (b0 n != 0) = false ∧ (b1 n != 0) = false ∧ (b2 n != 0) = false ∧ (b3 n != 0) = false ∧ (b4 n != 0) = false ∧ (b5 n != 0) = false ∧ (b6 n != 0) = false ∧ (b7 n != 0) = false) := by
  by_cases h0 : b0 n = 0
  · by_cases h1 : b1 n = 0
    · by_cases h2 : b2 n = 0
      · by_cases h3 : b3 n = 0
        · by_cases h4 : b4 n = 0
          · by_cases h5 : b5 n = 0
            · by_cases h6 : b6 n = 0
              · by_cases h7 : b7 n = 0 <;> simp [wd, h0, h1, h2, h3, h4, h5, h6, h7]
              · simp [wd, h0, h1, h2, h3, h4, h5, h6]
            · simp [wd, h0, h1, h2, h3, h4, h5]
          · simp [wd, h0, h1, h2, h3, h4]
        · simp [wd, h0, h1, h2, h3]
      · simp [wd, h0, h1, h2]
    · simp [wd, h0, h1]
  · simp [wd, h0]
attribute [local go_sem] max2_int min2_int max_two min_two max_three min_three max_four min_four
set_option maxHeartbeats 8000000 in
set_option maxRecDepth 100000 in
theorem need_calls (A0 : Option Addr) (c0 : Nat) (l0 : List Int) (r1 : Int) (w : World) (hr0 : Kd.C (Kd.int .i64) w A0 l0.length l0) (hc0 : l0.length ≤ c0) (h : Need.f l0 = some r1) :
    Calls Try.prog 146 #[.slice A0 l0.length c0] w fun e w' => e = .returned (.int .i64 r1) ∧ Below w.heap.size w w' := by
  have HR0 := Aside0.mk hr0
  have HC0 := Aside0.mk hc0
  have hl9 : l0.length ≤ 9223372036854775807 := hr0.2.1
  have HL9 := Aside0.mk hl9
  clear hl9
  clear hr0 hc0
  obtain rfl : need l0 0 = r1 := by simpa [Need.f] using h
  clear h
  have HB := Aside0.mk (Below.refl w.heap.size w)
  go_enter Try.func146, Try.ntmps146
  go_wp2
  go_loopg [3, 10] l0.length (fun kq v3 v10 w' => ∃ (a : Int) (i : Nat), v3 = .int .i64 a ∧ v10 = .int .i64 i ∧ Aside0 (i + kq = l0.length) ∧ Aside0 (0 ≤ a ∧ a ≤ 8) ∧ Aside0 (need (l0.drop i) a = need l0 0) ∧ Aside0 (Below w.heap.size w w'))
  case atStart => exact ⟨0, 0, rfl, rfl, ⟨by omega⟩, ⟨by omega⟩, ⟨rfl⟩, HB⟩
  case round =>
    clear HB
    obtain ⟨a, i, rfl, rfl, HI, HA, HN, HB⟩ := hrel
    by_cases hlt : i < l0.length
    · have q : (i : Int) < (l0.length : Int) := by omega
      have i9 : wrap64 ((i : Int) + 1) = (i : Int) + 1 := by have := HL9.out; unfold wrap64; omega
      obtain ⟨ad, e, hx⟩ := Kd.at_int HR0.out (i : Int) (by omega) q
      cases e
      replace hx := (HB.out.cell (World.block_lt_of_cell? w _ hx)).trans hx
      have hd : l0.drop i = l0[i] :: l0.drop (i + 1) := List.drop_eq_getElem_cons hlt
      have hrd : rd l0 (i : Int) = l0[i] := by simp [rd, hlt]
      rw [hrd, Int.toNat_natCast] at hx
      obtain ⟨n, hn⟩ : ∃ n, n = l0[i] := ⟨_, rfl⟩
      rw [← hn] at hx hd
      have HN2 : Aside0 (need (n :: l0.drop (i + 1)) a = need l0 0) := ⟨by rw [← hd]; exact HN.out⟩
      clear hd hrd hn HN
      by_cases hneg : n < 0
      · have e1 : need l0 0 = -1 := by rw [← HN2.out]; simp [need, hneg]
        have e2 := Aside0.mk e1
        clear e1
        go_wp2
        go_ret
        exact ⟨ret_int e2.out.symm, HB.out⟩
      · have HN3 : Aside0 (need (l0.drop (i + 1)) (max a (wd n)) = need l0 0) := ⟨by rw [← HN2.out]; simp [need, hneg]⟩
        have ha : 0 ≤ a := HA.out.1
        have ha2 : a ≤ 8 := HA.out.2
        clear HN2 HR0
        obtain ⟨k1, rfl⟩ : ∃ k1, gk = k1 + 1 := ⟨gk - 1, by have := HI.out; omega⟩
        have step : ∀ x : Int, wd n = x → ∀ y, y = max a x → (0 ≤ y ∧ y ≤ 8) ∧ (need (l0.drop (i + 1)) y = need l0 0) := by
          intro x hx y hy
          have := wd_lo n
          subst hx hy
          exact ⟨by omega, HN3.out⟩
        have ST := Aside0.mk step
        clear step HN3 HA
        rcases wd_cases n with ⟨hw, f0⟩ | ⟨hw, f0, f1⟩ | ⟨hw, f0, f1, f2⟩ | ⟨hw, f0, f1, f2, f3⟩ | ⟨hw, f0, f1, f2, f3, f4⟩ | ⟨hw, f0, f1, f2, f3, f4, f5⟩ | ⟨hw, f0, f1, f2, f3, f4, f5, f6⟩ | ⟨hw, f0, f1, f2, f3, f4, f5, f6, f7⟩ | ⟨hw, f0, f1, f2, f3, f4, f5, f6, f7⟩
        all_goals
          have sx := Aside0.mk (ST.out _ hw)
          clear ST hw
          go_wp2_with (go_at_call 147; refine (whole_calls _ _).mono ?_; rintro e w1 ⟨rfl, hb1⟩)
          refine wp_loop_rounds 9 ?_
          repeat any_goals (rw [rounds_succ]; go_wp2)
          all_goals
            go_roundg k1
            case measure => have := HI.out; omega
            case rel =>
              have hs := HB.out.size
              refine ⟨_, i + 1, rfl, by go_num, ?_, ?_, ?_, ?_⟩
              rotate_left 3
              · exact ⟨((HB.out.trans (hb1.mono hs))).alloc (by have := hb1.size; omega) _⟩
              · exact ⟨by have := HI.out; omega⟩
              · exact ⟨(sx.out _ (by omega)).1⟩
              · exact ⟨(sx.out _ (by omega)).2⟩
    · have e1 : need l0 0 = a := by rw [← HN.out, List.drop_of_length_le (by omega)]; rfl
      have e2 := Aside0.mk e1
      clear e1
      go_wp2
      go_ret
      exact ⟨ret_int e2.out.symm, HB.out⟩
end Go.Proofs.Ytogpnkkoablmiaa.G
end
section
namespace Go.Proofs.Ytogpnkkoablmiaa.G
open Go.RowKit Go.Proofs.YtogpnkkoablmiaaW.PrintWords Go.Proofs.YtogpnkkoablmiaaW.PrintLast Go.Proofs.YtogpnkkoablmiaaW.PrintMore
set_option linter.unusedVariables false
set_option linter.unusedSimpArgs false
theorem fits_yes (a : Int) (w : World) (h0 : decide (0 ≤ a) = true) (h1 : decide (a ≤ 8) = true) : Calls Try.prog 145 #[.int .i64 a] w fun e w' => e = .returned (.bool true) ∧ w = w' := by
  go_enter Try.func145, Try.ntmps145
  go_wp2
  go_ret
  exact ⟨rfl, rfl⟩
theorem C_one (W : World) (n : Int) : Kd.C (Kd.int .i64) (W.alloc (.cells #[.int .i64 n] 3)) (some ⟨W.heap.size, 0, none⟩) [n].length [n] := by
  refine ⟨rfl, by simp, fun _ => ⟨_, rfl, fun j p hj => ?_⟩⟩
  cases j with
  | zero =>
    obtain rfl : n = p := by simpa using hj
    refine ⟨[.int .i64 n], rfl, rfl, fun i u hu => ?_⟩
    cases i with
    | zero =>
      obtain rfl : Value.int .i64 n = u := by simpa using hu
      have e : ((⟨W.heap.size, 0, none⟩ : Addr).add (0 * (Kd.int .i64).sz + 0)) = ⟨W.heap.size, 0, none⟩ := by rw [add_plain]; rfl
      rw [e]
      rw [World.cell?_alloc_new]; rfl
    | succ i => simp at hu
  | succ j => simp at hj
theorem need1_calls (n m : Int) (W : World) (hm : need [n] 0 = m) : Calls Try.prog 146 #[.slice (some ⟨W.heap.size, 0, none⟩) 1 1] (W.alloc (.cells #[.int .i64 n] 3)) fun e w' => e = .returned (.int .i64 m) ∧ Below (W.alloc (.cells #[.int .i64 n] 3)).heap.size (W.alloc (.cells #[.int .i64 n] 3)) w' :=
  need_calls (some ⟨W.heap.size, 0, none⟩) 1 [n] m _ (C_one W n) (by simp) (by rw [← hm]; rfl)
def b8 (n : Int) : List Int := [b0 n, b1 n, b2 n, b3 n, b4 n, b5 n, b6 n, b7 n]
theorem cv (W : World) (n : Int) (off len cap : Nat) (xs : List Int) (hl : xs.length = len)
    (hx : ∀ i, i < len → (#[.int .u8 (b0 n), .int .u8 (b1 n), .int .u8 (b2 n), .int .u8 (b3 n), .int .u8 (b4 n), .int .u8 (b5 n), .int .u8 (b6 n), .int .u8 (b7 n)] : Array Value)[off + i]? = some (.int .u8 (xs.getD i 0))) :
    (convert 184 9 (.slice (some ⟨W.heap.size, off, none⟩) len cap)).run Try.prog (W.alloc (.cells #[.int .u8 (b0 n), .int .u8 (b1 n), .int .u8 (b2 n), .int .u8 (b3 n), .int .u8 (b4 n), .int .u8 (b5 n), .int .u8 (b6 n), .int .u8 (b7 n)] 182)) = .ok (.string (strOfNums xs)) (W.alloc (.cells #[.int .u8 (b0 n), .int .u8 (b1 n), .int .u8 (b2 n), .int .u8 (b3 n), .int .u8 (b4 n), .int .u8 (b5 n), .int .u8 (b6 n), .int .u8 (b7 n)] 182)) :=
  run_convert_bytes_arg _ 184 5 Try.underlying184 Try.underlying5 _ off len cap xs hl (fun i hi => by rw [World.cell?_alloc_new]; exact hx i hi) 9 Try.underlying9
theorem cv0 (W : World) (n : Int) : (convert 184 9 (.slice (some ⟨W.heap.size, 0, none⟩) 0 0)).run Try.prog (W.alloc (.cells #[.int .u8 (b0 n), .int .u8 (b1 n), .int .u8 (b2 n), .int .u8 (b3 n), .int .u8 (b4 n), .int .u8 (b5 n), .int .u8 (b6 n), .int .u8 (b7 n)] 182)) = .ok (.string (strOfNums ((b8 n).drop 8))) (W.alloc (.cells #[.int .u8 (b0 n), .int .u8 (b1 n), .int .u8 (b2 n), .int .u8 (b3 n), .int .u8 (b4 n), .int .u8 (b5 n), .int .u8 (b6 n), .int .u8 (b7 n)] 182)) :=
  cv W n 0 0 0 _ rfl (fun i hi => by rcases i with _|_|_|_|_|_|_|_|i <;> first | rfl | (exact absurd hi (by simp)) | omega)
theorem cv1 (W : World) (n : Int) : (convert 184 9 (.slice (some ⟨W.heap.size, 7, none⟩) 1 1)).run Try.prog (W.alloc (.cells #[.int .u8 (b0 n), .int .u8 (b1 n), .int .u8 (b2 n), .int .u8 (b3 n), .int .u8 (b4 n), .int .u8 (b5 n), .int .u8 (b6 n), .int .u8 (b7 n)] 182)) = .ok (.string (strOfNums ((b8 n).drop 7))) (W.alloc (.cells #[.int .u8 (b0 n), .int .u8 (b1 n), .int .u8 (b2 n), .int .u8 (b3 n), .int .u8 (b4 n), .int .u8 (b5 n), .int .u8 (b6 n), .int .u8 (b7 n)] 182)) :=
  cv W n 7 1 1 _ rfl (fun i hi => by rcases i with _|_|_|_|_|_|_|_|i <;> first | rfl | (exact absurd hi (by simp)) | omega)
theorem cv2 (W : World) (n : Int) : (convert 184 9 (.slice (some ⟨W.heap.size, 6, none⟩) 2 2)).run Try.prog (W.alloc (.cells #[.int .u8 (b0 n), .int .u8 (b1 n), .int .u8 (b2 n), .int .u8 (b3 n), .int .u8 (b4 n), .int .u8 (b5 n), .int .u8 (b6 n), .int .u8 (b7 n)] 182)) = .ok (.string (strOfNums ((b8 n).drop 6))) (W.alloc (.cells #[.int .u8 (b0 n), .int .u8 (b1 n), .int .u8 (b2 n), .int .u8 (b3 n), .int .u8 (b4 n), .int .u8 (b5 n), .int .u8 (b6 n), .int .u8 (b7 n)] 182)) :=
  cv W n 6 2 2 _ rfl (fun i hi => by rcases i with _|_|_|_|_|_|_|_|i <;> first | rfl | (exact absurd hi (by simp)) | omega)
theorem cv3 (W : World) (n : Int) : (convert 184 9 (.slice (some ⟨W.heap.size, 5, none⟩) 3 3)).run Try.prog (W.alloc (.cells #[.int .u8 (b0 n), .int .u8 (b1 n), .int .u8 (b2 n), .int .u8 (b3 n), .int .u8 (b4 n), .int .u8 (b5 n), .int .u8 (b6 n), .int .u8 (b7 n)] 182)) = .ok (.string (strOfNums ((b8 n).drop 5))) (W.alloc (.cells #[.int .u8 (b0 n), .int .u8 (b1 n), .int .u8 (b2 n), .int .u8 (b3 n), .int .u8 (b4 n), .int .u8 (b5 n), .int .u8 (b6 n), .int .u8 (b7 n)] 182)) :=
  cv W n 5 3 3 _ rfl (fun i hi => by rcases i with _|_|_|_|_|_|_|_|i <;> first | rfl | (exact absurd hi (by simp)) | omega)
theorem cv4 (W : World) (n : Int) : (convert 184 9 (.slice (some ⟨W.heap.size, 4, none⟩) 4 4)).run Try.prog (W.alloc (.cells #[.int .u8 (b0 n), .int .u8 (b1 n), .int .u8 (b2 n), .int .u8 (b3 n), .int .u8 (b4 n), .int .u8 (b5 n), .int .u8 (b6 n), .int .u8 (b7 n)] 182)) = .ok (.string (strOfNums ((b8 n).drop 4))) (W.alloc (.cells #[.int .u8 (b0 n), .int .u8 (b1 n), .int .u8 (b2 n), .int .u8 (b3 n), .int .u8 (b4 n), .int .u8 (b5 n), .int .u8 (b6 n), .int .u8 (b7 n)] 182)) :=
  cv W n 4 4 4 _ rfl (fun i hi => by rcases i with _|_|_|_|_|_|_|_|i <;> first | rfl | (exact absurd hi (by simp)) | omega)
theorem cv5 (W : World) (n : Int) : (convert 184 9 (.slice (some ⟨W.heap.size, 3, none⟩) 5 5)).run Try.prog (W.alloc (.cells #[.int .u8 (b0 n), .int .u8 (b1 n), .int .u8 (b2 n), .int .u8 (b3 n), .int .u8 (b4 n), .int .u8 (b5 n), .int .u8 (b6 n), .int .u8 (b7 n)] 182)) = .ok (.string (strOfNums ((b8 n).drop 3))) (W.alloc (.cells #[.int .u8 (b0 n), .int .u8 (b1 n), .int .u8 (b2 n), .int .u8 (b3 n), .int .u8 (b4 n), .int .u8 (b5 n), .int .u8 (b6 n), .int .u8 (b7 n)] 182)) :=
  cv W n 3 5 5 _ rfl (fun i hi => by rcases i with _|_|_|_|_|_|_|_|i <;> first | rfl | (exact absurd hi (by simp)) | omega)
theorem cv6 (W : World) (n : Int) : (convert 184 9 (.slice (some ⟨W.heap.size, 2, none⟩) 6 6)).run Try.prog (W.alloc (.cells #[.int .u8 (b0 n), .int .u8 (b1 n), .int .u8 (b2 n), .int .u8 (b3 n), .int .u8 (b4 n), .int .u8 (b5 n), .int .u8 (b6 n), .int .u8 (b7 n)] 182)) = .ok (.string (strOfNums ((b8 n).drop 2))) (W.alloc (.cells #[.int .u8 (b0 n), .int .u8 (b1 n), .int .u8 (b2 n), .int .u8 (b3 n), .int .u8 (b4 n), .int .u8 (b5 n), .int .u8 (b6 n), .int .u8 (b7 n)] 182)) :=
  cv W n 2 6 6 _ rfl (fun i hi => by rcases i with _|_|_|_|_|_|_|_|i <;> first | rfl | (exact absurd hi (by simp)) | omega)
theorem cv7 (W : World) (n : Int) : (convert 184 9 (.slice (some ⟨W.heap.size, 1, none⟩) 7 7)).run Try.prog (W.alloc (.cells #[.int .u8 (b0 n), .int .u8 (b1 n), .int .u8 (b2 n), .int .u8 (b3 n), .int .u8 (b4 n), .int .u8 (b5 n), .int .u8 (b6 n), .int .u8 (b7 n)] 182)) = .ok (.string (strOfNums ((b8 n).drop 1))) (W.alloc (.cells #[.int .u8 (b0 n), .int .u8 (b1 n), .int .u8 (b2 n), .int .u8 (b3 n), .int .u8 (b4 n), .int .u8 (b5 n), .int .u8 (b6 n), .int .u8 (b7 n)] 182)) :=
  cv W n 1 7 7 _ rfl (fun i hi => by rcases i with _|_|_|_|_|_|_|_|i <;> first | rfl | (exact absurd hi (by simp)) | omega)
theorem cv8 (W : World) (n : Int) : (convert 184 9 (.slice (some ⟨W.heap.size, 0, none⟩) 8 8)).run Try.prog (W.alloc (.cells #[.int .u8 (b0 n), .int .u8 (b1 n), .int .u8 (b2 n), .int .u8 (b3 n), .int .u8 (b4 n), .int .u8 (b5 n), .int .u8 (b6 n), .int .u8 (b7 n)] 182)) = .ok (.string (strOfNums ((b8 n).drop 0))) (W.alloc (.cells #[.int .u8 (b0 n), .int .u8 (b1 n), .int .u8 (b2 n), .int .u8 (b3 n), .int .u8 (b4 n), .int .u8 (b5 n), .int .u8 (b6 n), .int .u8 (b7 n)] 182)) :=
  cv W n 0 8 8 _ rfl (fun i hi => by rcases i with _|_|_|_|_|_|_|_|i <;> first | rfl | (exact absurd hi (by simp)) | omega)
attribute [local go_sem] cv0 cv1 cv2 cv3 cv4 cv5 cv6 cv7 cv8
def Put.f (a0 a1 : Int) : Option (ByteArray × Int) :=
  if a1 < 0 then some (⟨#[]⟩, 2) else if 8 < a1 then some (⟨#[]⟩, 2) else if need [a0] 0 < 0 then some (⟨#[]⟩, 3) else if a1 < need [a0] 0 then some (⟨#[]⟩, 3) else some (strOfNums ((b8 a0).drop (8 - a1).toNat), 0)
set_option maxHeartbeats 8000000 in
set_option maxRecDepth 100000 in
theorem put_calls (a0 a1 : Int) (r1 : ByteArray) (r2 : Int) (w : World) (h : Put.f a0 a1 = some (r1, r2)) :
    Calls Try.prog 101 #[.int .i64 a0, .int .i64 a1] w fun e w' => e = .returned (.tuple #[.string r1, .int .i64 r2]) ∧ Below w.heap.size w w' := by
  have HB := Aside0.mk (Below.refl w.heap.size w)
  unfold Put.f at h
  by_cases h1 : a1 < 0
  · rw [if_pos h1] at h
    obtain ⟨rfl, rfl⟩ := by simpa using h
    clear h
    go_enter Try.func101, Try.ntmps101
    go_wp2
    go_ret2
    exact ⟨rfl, HB.out⟩
  rw [if_neg h1] at h
  by_cases h2 : 8 < a1
  · rw [if_pos h2] at h
    obtain ⟨rfl, rfl⟩ := by simpa using h
    clear h
    have t2 : decide (a1 ≤ 8) = false := decide_eq_false (by omega)
    have t3 : decide (0 ≤ a1) = true := decide_eq_true (by omega)
    go_enter Try.func101, Try.ntmps101
    go_wp2
    go_ret2
    exact ⟨rfl, HB.out⟩
  rw [if_neg h2] at h
  have t2 : decide (a1 ≤ 8) = true := decide_eq_true (by omega)
  have t3 : decide (0 ≤ a1) = true := decide_eq_true (by omega)
  obtain ⟨m, hm⟩ : ∃ m, m = need [a0] 0 := ⟨_, rfl⟩
  have HM := Aside0.mk hm.symm
  rw [← hm] at h
  clear hm
  by_cases h3 : m < 0
  · rw [if_pos h3] at h
    obtain ⟨rfl, rfl⟩ := by simpa using h
    clear h
    go_enter Try.func101, Try.ntmps101
    go_wp2_with (first | (go_at_call 145; refine (fits_yes a1 _ t3 t2).mono ?_; rintro e w0 ⟨rfl, rfl⟩) | (go_at_call 146; go_loud (refine (need1_calls a0 m _ HM.out).mono ?_); rintro e w1 ⟨rfl, hb1⟩))
    go_ret2
    exact ⟨rfl, by first | exact ((HB.out.alloc (Nat.le_refl _) _).trans (hb1.mono (by simp)))⟩
  rw [if_neg h3] at h
  by_cases h4 : a1 < m
  · rw [if_pos h4] at h
    obtain ⟨rfl, rfl⟩ := by simpa using h
    clear h
    go_enter Try.func101, Try.ntmps101
    go_wp2_with (first | (go_at_call 145; refine (fits_yes a1 _ t3 t2).mono ?_; rintro e w0 ⟨rfl, rfl⟩) | (go_at_call 146; go_loud (refine (need1_calls a0 m _ HM.out).mono ?_); rintro e w1 ⟨rfl, hb1⟩))
    go_ret2
    exact ⟨rfl, by first | exact ((HB.out.alloc (Nat.le_refl _) _).trans (hb1.mono (by simp)))⟩
  rw [if_neg h4] at h
  obtain ⟨rfl, rfl⟩ := by simpa using h
  clear h
  have hc : a1 = 0 ∨ a1 = 1 ∨ a1 = 2 ∨ a1 = 3 ∨ a1 = 4 ∨ a1 = 5 ∨ a1 = 6 ∨ a1 = 7 ∨ a1 = 8 := by omega
  clear h1 h2 t2 t3
  rcases hc with rfl | rfl | rfl | rfl | rfl | rfl | rfl | rfl | rfl
  all_goals
    go_enter Try.func101, Try.ntmps101
    go_wp2_with (first | (go_at_call 145; refine (fits_yes _ _ rfl rfl).mono ?_; rintro e w0 ⟨rfl, rfl⟩) | (go_at_call 146; go_loud (refine (need1_calls a0 m _ HM.out).mono ?_); rintro e w1 ⟨rfl, hb1⟩) | (go_at_call 147; refine (whole_calls _ _).mono ?_; rintro e w2 ⟨rfl, hb2⟩))
    go_ret2
    exact ⟨rfl, ((((HB.out.alloc (Nat.le_refl _) _).trans (hb1.mono (by simp))).trans (hb2.mono (by have := hb1.size; simp at this; omega))).alloc (by have := hb1.size; have := hb2.size; simp at *; omega) _)⟩
end Go.Proofs.Ytogpnkkoablmiaa.G
end
section
namespace Go.Proofs.Ytogpnkkoablmiaa.Q
open Go.RowKit Go.Proofs.YtogpnkkoablmiaaW.PrintWords Go.Proofs.YtogpnkkoablmiaaW.PrintLast Go.Proofs.YtogpnkkoablmiaaW.PrintMore
attribute [local go_sem] max2_int min2_int max_two min_two max_three min_three max_four min_four   -- for this text's walks alone
set_option linter.unusedVariables false
set_option linter.unusedSimpArgs false
theorem eqA28 (d : Nat) (w : World) (x0 y0 : Int) (x1 y1 : Int) :
    (Op.equalIn (d + 2) 28 (.agg #[.int .i64 x0, .int .i64 x1]) (.agg #[.int .i64 y0, .int .i64 y1])).run Try.prog w = .ok (x0 == y0 && (x1 == y1)) w := by
  refine eqA_of Try.underlying28 (by kernel_rfl) ?_
  refine eqf_cons (by rfl) (by go_simp; rfl) (by go_simp; rfl) (by go_simp) ?_
  exact eqf_last (by rfl) (by go_simp; rfl) (by go_simp; rfl) (by go_simp)
end Go.Proofs.Ytogpnkkoablmiaa.Q
end
section
namespace Go.Proofs.Ytogpnkkoablmiaa.Q
open Go.RowKit Go.Proofs.YtogpnkkoablmiaaW.PrintWords Go.Proofs.YtogpnkkoablmiaaW.PrintLast Go.Proofs.YtogpnkkoablmiaaW.PrintMore
attribute [local go_sem] max2_int min2_int max_two min_two max_three min_three max_four min_four   -- for this text's walks alone
set_option linter.unusedVariables false
set_option linter.unusedSimpArgs false
attribute [local go_sem high] eqA28
def trailer_in.f (a0 : Int) (a1 : Int) (a2 : Int) : Option (Bool) := if a0 ≥ a1 then (some (decide (a0 ≤ a2))) else (some false)
set_option maxHeartbeats 8000000 in
set_option maxRecDepth 100000 in
theorem trailer_in.calls (a0 : Int) (a1 : Int) (a2 : Int) (r : Bool) (w : World) (h : trailer_in.f a0 a1 a2 = some r) :
    Calls Try.prog 104 #[.int .i64 a0, .int .i64 a1, .int .i64 a2] w fun e w' => e = .returned (.bool r) ∧ Drawn0 w w' := by
  have H : (if a0 ≥ a1 then (some (decide (a0 ≤ a2))) else (some false)) = some r := h
  clear h
  by_cases c4 : a0 ≥ a1
  · rw [if_pos c4] at H
    have c4b0 : decide (a1 ≤ a0) = true := decide_eq_true c4
    clear c4
    obtain rfl := Option.some.inj H
    go_enter Try.func104, Try.ntmps104
    go_wp2
    go_ret
    exact ⟨by first | rfl | (simp; done) | (simp [*]; done), by repeat (first | exact Drawn0.refl _ | apply Drawn0.step)⟩
  · rw [if_neg c4] at H
    have c4b0 : decide (a1 ≤ a0) = false := decide_eq_false c4
    clear c4
    obtain rfl := Option.some.inj H
    go_enter Try.func104, Try.ntmps104
    go_wp2
    go_ret
    exact ⟨by first | rfl | (simp; done) | (simp [*]; done), by repeat (first | exact Drawn0.refl _ | apply Drawn0.step)⟩
def trailer_Check.j0 : Nat → Bool → Int → Int → Int → Int → Int → Int → Option (Int)
  | 0, _, _, _, _, _, _, _ => none
  | k + 1, x3, x385000, x385001, x385002, x385003, x385004, x385005 => if x3 = true then ((trailer_in.f x385000 1 8388608).bind fun t387 => (if t387 = true then ((trailer_in.f x385001 (-1) 67108864).bind fun t388 => (if t388 = true then ((trailer_in.f x385004 0 67108864).bind fun t389 => (if t389 = true then ((trailer_in.f x385005 0 4294967295).bind fun t390 => (if t390 = true then (some 0) else (some 3))) else (some 3))) else (some 3))) else (some 3))) else (some 3)
def trailer_Check.f (k : Nat) (a0_0 : Int) (a0_1 : Int) (a0_2 : Int) (a0_3 : Int) (a0_4 : Int) (a0_5 : Int) : Option (Int) := if (a0_2 == 0 && (a0_3 == 0)) = true then (trailer_Check.j0 k true a0_0 a0_1 a0_2 a0_3 a0_4 a0_5) else ((trailer_in.f a0_2 1 8388607).bind fun t385 => (if t385 = true then ((trailer_in.f a0_3 0 65535).bind fun t386 => (trailer_Check.j0 k t386 a0_0 a0_1 a0_2 a0_3 a0_4 a0_5)) else (trailer_Check.j0 k false a0_0 a0_1 a0_2 a0_3 a0_4 a0_5)))
theorem trailer_Check.mono_l : ∀ k, (∀ y0 y1 y2 y3 y4 y5 y6, LeO (trailer_Check.j0 k y0 y1 y2 y3 y4 y5 y6) (trailer_Check.j0 (k + 1) y0 y1 y2 y3 y4 y5 y6))
  | 0 => fun _ _ _ _ _ _ _ r h => by simp [trailer_Check.j0] at h
  | k + 1 => by
    have ih0 := trailer_Check.mono_l k
    · intro y0 y1 y2 y3 y4 y5 y6
      unfold trailer_Check.j0
      repeat' first
      | (with_reducible exact ih0 _ _ _ _ _ _ _)
      | (with_reducible exact LeO.refl _)
      | (with_reducible exact LeO.none _)
      | (with_reducible refine LeO.ite ?_ ?_)
      | (with_reducible refine LeO.bind ?_ (fun _ => ?_))
      | exact ih0 _ _ _ _ _ _ _
      | exact LeO.none _
      | refine LeO.ite ?_ ?_
      | refine LeO.bind ?_ (fun _ => ?_)
theorem trailer_Check.mono : ∀ a0 a1 a2 a3 a4 a5 k, LeO (trailer_Check.f k a0 a1 a2 a3 a4 a5) (trailer_Check.f (k + 1) a0 a1 a2 a3 a4 a5) := by
  intro a0 a1 a2 a3 a4 a5 k
  have ih0 := trailer_Check.mono_l k
  unfold trailer_Check.f
  repeat' first
      | (with_reducible exact ih0 _ _ _ _ _ _ _)
      | (with_reducible exact LeO.refl _)
      | (with_reducible exact LeO.none _)
      | (with_reducible refine LeO.ite ?_ ?_)
      | (with_reducible refine LeO.bind ?_ (fun _ => ?_))
      | exact ih0 _ _ _ _ _ _ _
      | exact LeO.none _
      | refine LeO.ite ?_ ?_
      | refine LeO.bind ?_ (fun _ => ?_)
set_option maxHeartbeats 8000000 in
set_option maxRecDepth 100000 in
theorem trailer_Check.calls (k : Nat) (a0_0 : Int) (a0_1 : Int) (a0_2 : Int) (a0_3 : Int) (a0_4 : Int) (a0_5 : Int) (r : Int) (w : World) (h : trailer_Check.f k a0_0 a0_1 a0_2 a0_3 a0_4 a0_5 = some r) :
    Calls Try.prog 42 #[.agg #[.int .i64 a0_0, .int .i64 a0_1, .int .i64 a0_2, .int .i64 a0_3, .int .i64 a0_4, .int .i64 a0_5]] w fun e w' => e = .returned (.int .i64 r) ∧ Below w.heap.size w w' := by
  have hu72 := Try.underlying72
  have hu28 := Try.underlying28
  have HB := Aside0.mk (Below.refl w.heap.size w)
  have H : (if (a0_2 == 0 && (a0_3 == 0)) = true then (trailer_Check.j0 k true a0_0 a0_1 a0_2 a0_3 a0_4 a0_5) else ((trailer_in.f a0_2 1 8388607).bind fun t385 => (if t385 = true then ((trailer_in.f a0_3 0 65535).bind fun t386 => (trailer_Check.j0 k t386 a0_0 a0_1 a0_2 a0_3 a0_4 a0_5)) else (trailer_Check.j0 k false a0_0 a0_1 a0_2 a0_3 a0_4 a0_5)))) = some r := h
  clear h
  have HC2 := Aside0.mk H
  clear H
  go_enter Try.func42, Try.ntmps42
  go_upto_region 1 with (first | ((with_reducible refine gate_dst (N := 1) rfl ?_); refine box_event ?hg (N := 1) ?hd (cs := #[.int .i64 a0_0, .int .i64 a0_1, .int .i64 a0_2, .int .i64 a0_3, .int .i64 a0_4, .int .i64 a0_5]) (t := 72) ?hr ?_; (case hd => rfl); (case hg => rfl); (case hr => first | (go_simp; done) | (go_simp; rfl)); intro gb384 hg w3 hbox hb; have n0_ := Aside0.mk (below_step (by repeat (first | (with_reducible first | exact HB.out | apply below_alloc | apply pw_below_drewN | apply below_drew1) | exact HB.out)) hb); have n1_ := Aside0.mk (hbox); have n2_ := Aside0.mk ((by rw [hg]; exact (below_size (by repeat (first | (with_reducible first | exact HB.out | apply below_alloc | apply pw_below_drewN | apply below_drew1) | exact HB.out))) : w.heap.size ≤ gb384)); have n3_ := Aside0.mk ((by rw [hg]; exact (below_size (by repeat (first | (with_reducible first | exact HB.out | apply below_alloc | apply pw_below_drewN | apply below_drew1) | exact HB.out))) : w.heap.size ≤ gb384)); clear HB; have HB := n0_; have BK384 := n1_; have GW384 := n2_; have GE384 := n3_; clear n0_ n1_ n2_ n3_; clear hb hbox hg))
  (try simp only [Act.put, List.setIfInBounds_toArray, List.set_cons_zero, List.set_cons_succ])
  go_cut [3] (fun v3 wc => ∃ (kq : Nat) (x3_1 : Bool), v3 = .bool x3_1 ∧ Aside0 (trailer_Check.j0 kq x3_1 a0_0 a0_1 a0_2 a0_3 a0_4 a0_5 = some r) ∧ Aside0 (kq ≤ k) ∧ Aside0 (wc.heap[gb384]? = some (.cells #[.int .i64 a0_0, .int .i64 a0_1, .int .i64 a0_2, .int .i64 a0_3, .int .i64 a0_4, .int .i64 a0_5] 72 (0, 0))) ∧ Aside0 (Below w.heap.size w wc))
  case first =>
    have H := HC2.out
    clear HC2
    by_cases c4 : (a0_2 == 0 && (a0_3 == 0)) = true
    · rw [if_pos c4] at H
      have c4b0 : (a0_2 == 0 && (a0_3 == 0)) = true := c4
      (try (have c4b1 : decide (a0_2 = 0 && (a0_3 == 0)) = true := by simpa using c4))
      (try (have c4b2 : (a0_2 == 0 && (a0_3 == 0)) = true := by simpa using c4))
      clear c4
      (first | rw [c4b0] | (simp only [i64_w, i32_w]; rw [c4b0]) | skip)
      have H' := Aside0.mk H
      clear H
      have hcz5_0 : w3.cell? ⟨gb384, 0, none⟩ = some (.int .i64 a0_0) := (blk_cell BK384.out 0).trans rfl
      have hcz5_1 : w3.cell? ⟨gb384, 1, none⟩ = some (.int .i64 a0_1) := (blk_cell BK384.out 1).trans rfl
      have hcz5_2 : w3.cell? ⟨gb384, 2, none⟩ = some (.int .i64 a0_2) := (blk_cell BK384.out 2).trans rfl
      have hcz5_3 : w3.cell? ⟨gb384, 3, none⟩ = some (.int .i64 a0_3) := (blk_cell BK384.out 3).trans rfl
      have hcz5_4 : w3.cell? ⟨gb384, 4, none⟩ = some (.int .i64 a0_4) := (blk_cell BK384.out 4).trans rfl
      have hcz5_5 : w3.cell? ⟨gb384, 5, none⟩ = some (.int .i64 a0_5) := (blk_cell BK384.out 5).trans rfl
      have hfz5_0 := blk_frozen BK384.out 0
      have hfz5_1 := blk_frozen BK384.out 1
      have hfz5_2 := blk_frozen BK384.out 2
      have hfz5_3 := blk_frozen BK384.out 3
      have hfz5_4 := blk_frozen BK384.out 4
      have hfz5_5 := blk_frozen BK384.out 5
      go_wp2
      go_meet
      case rel => exact ⟨_, (true), (by first | rfl | (simp; done) | (simp [*]; done)), H', ⟨by first | omega | exact Nat.le_refl _⟩, ⟨by (with_reducible repeat (first | refine blk_drewN ?_ _ | refine blk_drew ?_ | refine blk_alloc ?_ _)); exact BK384.out⟩, ⟨by repeat (first | (with_reducible first | exact HB.out | apply below_alloc | apply pw_below_drewN | apply below_drew1 | refine below_set ?_ GE384.out) | exact HB.out)⟩⟩
    · rw [if_neg c4] at H
      have c4b0 : (a0_2 == 0 && (a0_3 == 0)) = false := by simpa using c4
      (try (have c4b1 : decide (a0_2 = 0 && (a0_3 == 0)) = false := by simpa using c4))
      (try (have c4b2 : (a0_2 == 0 && (a0_3 == 0)) = false := by simpa using c4))
      (try (have c4b3 : ¬ (a0_2 = 0 && (a0_3 == 0)) := by simpa using c4))
      clear c4
      (first | rw [c4b0] | (simp only [i64_w, i32_w]; rw [c4b0]) | skip)
      replace H := Option.bind_eq_some_iff.mp H
      obtain ⟨t385, A60, H⟩ := H
      replace H : (if t385 = true then ((trailer_in.f a0_3 0 65535).bind fun t386 => (trailer_Check.j0 k t386 a0_0 a0_1 a0_2 a0_3 a0_4 a0_5)) else (trailer_Check.j0 k false a0_0 a0_1 a0_2 a0_3 a0_4 a0_5)) = some r := H
      have A6 := Aside0.mk A60
      clear A60
      by_cases c7 : t385 = true
      · subst c7
        have H1 : ((trailer_in.f a0_3 0 65535).bind fun t386 => (trailer_Check.j0 k t386 a0_0 a0_1 a0_2 a0_3 a0_4 a0_5)) = some r := by rw [if_pos rfl] at H; exact H
        clear H
        have H := H1
        clear H1
        replace H := Option.bind_eq_some_iff.mp H
        obtain ⟨t386, A80, H⟩ := H
        replace H : (trailer_Check.j0 k t386 a0_0 a0_1 a0_2 a0_3 a0_4 a0_5) = some r := H
        have A8 := Aside0.mk A80
        clear A80
        have H' := Aside0.mk H
        clear H
        have hcz9_0 : w3.cell? ⟨gb384, 0, none⟩ = some (.int .i64 a0_0) := (blk_cell BK384.out 0).trans rfl
        have hcz9_1 : w3.cell? ⟨gb384, 1, none⟩ = some (.int .i64 a0_1) := (blk_cell BK384.out 1).trans rfl
        have hcz9_2 : w3.cell? ⟨gb384, 2, none⟩ = some (.int .i64 a0_2) := (blk_cell BK384.out 2).trans rfl
        have hcz9_3 : w3.cell? ⟨gb384, 3, none⟩ = some (.int .i64 a0_3) := (blk_cell BK384.out 3).trans rfl
        have hcz9_4 : w3.cell? ⟨gb384, 4, none⟩ = some (.int .i64 a0_4) := (blk_cell BK384.out 4).trans rfl
        have hcz9_5 : w3.cell? ⟨gb384, 5, none⟩ = some (.int .i64 a0_5) := (blk_cell BK384.out 5).trans rfl
        have hfz9_0 := blk_frozen BK384.out 0
        have hfz9_1 := blk_frozen BK384.out 1
        have hfz9_2 := blk_frozen BK384.out 2
        have hfz9_3 := blk_frozen BK384.out 3
        have hfz9_4 := blk_frozen BK384.out 4
        have hfz9_5 := blk_frozen BK384.out 5
        go_wp2_with (first | (go_at_call 104; (with_reducible refine (trailer_in.calls a0_2 1 8388607 true _ A6.out).mono ?_); rintro e w' ⟨rfl, ⟨nd, rfl⟩⟩) | (go_at_call 104; (with_reducible refine (trailer_in.calls a0_3 0 65535 t386 _ A8.out).mono ?_); rintro e w' ⟨rfl, ⟨nd, rfl⟩⟩))
        go_meet
        case rel => exact ⟨_, (t386), (by first | rfl | (simp; done) | (simp [*]; done)), H', ⟨by first | omega | exact Nat.le_refl _⟩, ⟨by (with_reducible repeat (first | refine blk_drewN ?_ _ | refine blk_drew ?_ | refine blk_alloc ?_ _)); exact BK384.out⟩, ⟨by repeat (first | (with_reducible first | exact HB.out | apply below_alloc | apply pw_below_drewN | apply below_drew1 | refine below_set ?_ GE384.out) | exact HB.out)⟩⟩
      · replace c7 := Bool.eq_false_iff.mpr c7
        subst c7
        have H1 : (trailer_Check.j0 k false a0_0 a0_1 a0_2 a0_3 a0_4 a0_5) = some r := by rw [if_neg (show ¬ (false = true) by decide)] at H; exact H
        clear H
        have H := H1
        clear H1
        have H' := Aside0.mk H
        clear H
        have hcz10_0 : w3.cell? ⟨gb384, 0, none⟩ = some (.int .i64 a0_0) := (blk_cell BK384.out 0).trans rfl
        have hcz10_1 : w3.cell? ⟨gb384, 1, none⟩ = some (.int .i64 a0_1) := (blk_cell BK384.out 1).trans rfl
        have hcz10_2 : w3.cell? ⟨gb384, 2, none⟩ = some (.int .i64 a0_2) := (blk_cell BK384.out 2).trans rfl
        have hcz10_3 : w3.cell? ⟨gb384, 3, none⟩ = some (.int .i64 a0_3) := (blk_cell BK384.out 3).trans rfl
        have hcz10_4 : w3.cell? ⟨gb384, 4, none⟩ = some (.int .i64 a0_4) := (blk_cell BK384.out 4).trans rfl
        have hcz10_5 : w3.cell? ⟨gb384, 5, none⟩ = some (.int .i64 a0_5) := (blk_cell BK384.out 5).trans rfl
        have hfz10_0 := blk_frozen BK384.out 0
        have hfz10_1 := blk_frozen BK384.out 1
        have hfz10_2 := blk_frozen BK384.out 2
        have hfz10_3 := blk_frozen BK384.out 3
        have hfz10_4 := blk_frozen BK384.out 4
        have hfz10_5 := blk_frozen BK384.out 5
        go_wp2_with (first | (go_at_call 104; (with_reducible refine (trailer_in.calls a0_2 1 8388607 false _ A6.out).mono ?_); rintro e w' ⟨rfl, ⟨nd, rfl⟩⟩))
        go_meet
        case rel => exact ⟨_, (false), (by first | rfl | (simp; done) | (simp [*]; done)), H', ⟨by first | omega | exact Nat.le_refl _⟩, ⟨by (with_reducible repeat (first | refine blk_drewN ?_ _ | refine blk_drew ?_ | refine blk_alloc ?_ _)); exact BK384.out⟩, ⟨by repeat (first | (with_reducible first | exact HB.out | apply below_alloc | apply pw_below_drewN | apply below_drew1 | refine below_set ?_ GE384.out) | exact HB.out)⟩⟩
  case rest =>
    clear HC2
    try clear p2
    try clear c4
    try clear c4b0
    try clear c4b1
    try clear c4b2
    try clear c7
    try clear hcz10_0
    try clear hcz10_1
    try clear hcz10_2
    try clear hcz10_3
    try clear hcz10_4
    try clear hcz10_5
    try clear hcz5_0
    try clear hcz5_1
    try clear hcz5_2
    try clear hcz5_3
    try clear hcz5_4
    try clear hcz5_5
    try clear hcz9_0
    try clear hcz9_1
    try clear hcz9_2
    try clear hcz9_3
    try clear hcz9_4
    try clear hcz9_5
    try clear hfz10_0
    try clear hfz10_1
    try clear hfz10_2
    try clear hfz10_3
    try clear hfz10_4
    try clear hfz10_5
    try clear hfz5_0
    try clear hfz5_1
    try clear hfz5_2
    try clear hfz5_3
    try clear hfz5_4
    try clear hfz5_5
    try clear hfz9_0
    try clear hfz9_1
    try clear hfz9_2
    try clear hfz9_3
    try clear hfz9_4
    try clear hfz9_5
    obtain ⟨kq, x3_1, rfl, HA, HJ1, BK384, HB⟩ := hcut
    cases kq with
    | zero => exact absurd HA.out (by simp [trailer_Check.j0])
    | succ kj1 =>
      have H := HA.out
      clear HA
      simp only [trailer_Check.j0] at H
      by_cases c11 : x3_1 = true
      · subst c11
        have H1 : ((trailer_in.f a0_0 1 8388608).bind fun t387 => (if t387 = true then ((trailer_in.f a0_1 (-1) 67108864).bind fun t388 => (if t388 = true then ((trailer_in.f a0_4 0 67108864).bind fun t389 => (if t389 = true then ((trailer_in.f a0_5 0 4294967295).bind fun t390 => (if t390 = true then (some 0) else (some 3))) else (some 3))) else (some 3))) else (some 3))) = some r := by rw [if_pos rfl] at H; exact H
        clear H
        have H := H1
        clear H1
        replace H := Option.bind_eq_some_iff.mp H
        obtain ⟨t387, A120, H⟩ := H
        replace H : (if t387 = true then ((trailer_in.f a0_1 (-1) 67108864).bind fun t388 => (if t388 = true then ((trailer_in.f a0_4 0 67108864).bind fun t389 => (if t389 = true then ((trailer_in.f a0_5 0 4294967295).bind fun t390 => (if t390 = true then (some 0) else (some 3))) else (some 3))) else (some 3))) else (some 3)) = some r := H
        have A12 := Aside0.mk A120
        clear A120
        by_cases c13 : t387 = true
        · subst c13
          have H1 : ((trailer_in.f a0_1 (-1) 67108864).bind fun t388 => (if t388 = true then ((trailer_in.f a0_4 0 67108864).bind fun t389 => (if t389 = true then ((trailer_in.f a0_5 0 4294967295).bind fun t390 => (if t390 = true then (some 0) else (some 3))) else (some 3))) else (some 3))) = some r := by rw [if_pos rfl] at H; exact H
          clear H
          have H := H1
          clear H1
          replace H := Option.bind_eq_some_iff.mp H
          obtain ⟨t388, A140, H⟩ := H
          replace H : (if t388 = true then ((trailer_in.f a0_4 0 67108864).bind fun t389 => (if t389 = true then ((trailer_in.f a0_5 0 4294967295).bind fun t390 => (if t390 = true then (some 0) else (some 3))) else (some 3))) else (some 3)) = some r := H
          have A14 := Aside0.mk A140
          clear A140
          by_cases c15 : t388 = true
          · subst c15
            have H1 : ((trailer_in.f a0_4 0 67108864).bind fun t389 => (if t389 = true then ((trailer_in.f a0_5 0 4294967295).bind fun t390 => (if t390 = true then (some 0) else (some 3))) else (some 3))) = some r := by rw [if_pos rfl] at H; exact H
            clear H
            have H := H1
            clear H1
            replace H := Option.bind_eq_some_iff.mp H
            obtain ⟨t389, A160, H⟩ := H
            replace H : (if t389 = true then ((trailer_in.f a0_5 0 4294967295).bind fun t390 => (if t390 = true then (some 0) else (some 3))) else (some 3)) = some r := H
            have A16 := Aside0.mk A160
            clear A160
            by_cases c17 : t389 = true
            · subst c17
              have H1 : ((trailer_in.f a0_5 0 4294967295).bind fun t390 => (if t390 = true then (some 0) else (some 3))) = some r := by rw [if_pos rfl] at H; exact H
              clear H
              have H := H1
              clear H1
              replace H := Option.bind_eq_some_iff.mp H
              obtain ⟨t390, A180, H⟩ := H
              replace H : (if t390 = true then (some 0) else (some 3)) = some r := H
              have A18 := Aside0.mk A180
              clear A180
              by_cases c19 : t390 = true
              · subst c19
                have H1 : (some 0) = some r := by rw [if_pos rfl] at H; exact H
                clear H
                have H := H1
                clear H1
                obtain rfl := Option.some.inj H
                have hcz20_0 : wc.cell? ⟨gb384, 0, none⟩ = some (.int .i64 a0_0) := (blk_cell BK384.out 0).trans rfl
                have hcz20_1 : wc.cell? ⟨gb384, 1, none⟩ = some (.int .i64 a0_1) := (blk_cell BK384.out 1).trans rfl
                have hcz20_2 : wc.cell? ⟨gb384, 2, none⟩ = some (.int .i64 a0_2) := (blk_cell BK384.out 2).trans rfl
                have hcz20_3 : wc.cell? ⟨gb384, 3, none⟩ = some (.int .i64 a0_3) := (blk_cell BK384.out 3).trans rfl
                have hcz20_4 : wc.cell? ⟨gb384, 4, none⟩ = some (.int .i64 a0_4) := (blk_cell BK384.out 4).trans rfl
                have hcz20_5 : wc.cell? ⟨gb384, 5, none⟩ = some (.int .i64 a0_5) := (blk_cell BK384.out 5).trans rfl
                have hfz20_0 := blk_frozen BK384.out 0
                have hfz20_1 := blk_frozen BK384.out 1
                have hfz20_2 := blk_frozen BK384.out 2
                have hfz20_3 := blk_frozen BK384.out 3
                have hfz20_4 := blk_frozen BK384.out 4
                have hfz20_5 := blk_frozen BK384.out 5
                go_wp2_with (first | (go_at_call 104; (with_reducible refine (trailer_in.calls a0_0 1 8388608 true _ A12.out).mono ?_); rintro e w' ⟨rfl, ⟨nd, rfl⟩⟩) | (go_at_call 104; (with_reducible refine (trailer_in.calls a0_1 (-1) 67108864 true _ A14.out).mono ?_); rintro e w' ⟨rfl, ⟨nd, rfl⟩⟩) | (go_at_call 104; (with_reducible refine (trailer_in.calls a0_4 0 67108864 true _ A16.out).mono ?_); rintro e w' ⟨rfl, ⟨nd, rfl⟩⟩) | (go_at_call 104; (with_reducible refine (trailer_in.calls a0_5 0 4294967295 true _ A18.out).mono ?_); rintro e w' ⟨rfl, ⟨nd, rfl⟩⟩))
                go_ret
                exact ⟨by first | rfl | (simp [errW_none, errW_some] <;> rfl) | (simp [*, errW_none, errW_some] <;> rfl), by repeat (first | (with_reducible first | exact HB.out | apply below_alloc | apply pw_below_drewN | apply below_drew1 | refine below_set ?_ GE384.out) | exact HB.out)⟩
              · replace c19 := Bool.eq_false_iff.mpr c19
                subst c19
                have H1 : (some 3) = some r := by rw [if_neg (show ¬ (false = true) by decide)] at H; exact H
                clear H
                have H := H1
                clear H1
                obtain rfl := Option.some.inj H
                have hcz21_0 : wc.cell? ⟨gb384, 0, none⟩ = some (.int .i64 a0_0) := (blk_cell BK384.out 0).trans rfl
                have hcz21_1 : wc.cell? ⟨gb384, 1, none⟩ = some (.int .i64 a0_1) := (blk_cell BK384.out 1).trans rfl
                have hcz21_2 : wc.cell? ⟨gb384, 2, none⟩ = some (.int .i64 a0_2) := (blk_cell BK384.out 2).trans rfl
                have hcz21_3 : wc.cell? ⟨gb384, 3, none⟩ = some (.int .i64 a0_3) := (blk_cell BK384.out 3).trans rfl
                have hcz21_4 : wc.cell? ⟨gb384, 4, none⟩ = some (.int .i64 a0_4) := (blk_cell BK384.out 4).trans rfl
                have hcz21_5 : wc.cell? ⟨gb384, 5, none⟩ = some (.int .i64 a0_5) := (blk_cell BK384.out 5).trans rfl
                have hfz21_0 := blk_frozen BK384.out 0
                have hfz21_1 := blk_frozen BK384.out 1
                have hfz21_2 := blk_frozen BK384.out 2
                have hfz21_3 := blk_frozen BK384.out 3
                have hfz21_4 := blk_frozen BK384.out 4
                have hfz21_5 := blk_frozen BK384.out 5
                go_wp2_with (first | (go_at_call 104; (with_reducible refine (trailer_in.calls a0_0 1 8388608 true _ A12.out).mono ?_); rintro e w' ⟨rfl, ⟨nd, rfl⟩⟩) | (go_at_call 104; (with_reducible refine (trailer_in.calls a0_1 (-1) 67108864 true _ A14.out).mono ?_); rintro e w' ⟨rfl, ⟨nd, rfl⟩⟩) | (go_at_call 104; (with_reducible refine (trailer_in.calls a0_4 0 67108864 true _ A16.out).mono ?_); rintro e w' ⟨rfl, ⟨nd, rfl⟩⟩) | (go_at_call 104; (with_reducible refine (trailer_in.calls a0_5 0 4294967295 false _ A18.out).mono ?_); rintro e w' ⟨rfl, ⟨nd, rfl⟩⟩))
                go_ret
                exact ⟨by first | rfl | (simp [errW_none, errW_some] <;> rfl) | (simp [*, errW_none, errW_some] <;> rfl), by repeat (first | (with_reducible first | exact HB.out | apply below_alloc | apply pw_below_drewN | apply below_drew1 | refine below_set ?_ GE384.out) | exact HB.out)⟩
            · replace c17 := Bool.eq_false_iff.mpr c17
              subst c17
              have H1 : (some 3) = some r := by rw [if_neg (show ¬ (false = true) by decide)] at H; exact H
              clear H
              have H := H1
              clear H1
              obtain rfl := Option.some.inj H
              have hcz22_0 : wc.cell? ⟨gb384, 0, none⟩ = some (.int .i64 a0_0) := (blk_cell BK384.out 0).trans rfl
              have hcz22_1 : wc.cell? ⟨gb384, 1, none⟩ = some (.int .i64 a0_1) := (blk_cell BK384.out 1).trans rfl
              have hcz22_2 : wc.cell? ⟨gb384, 2, none⟩ = some (.int .i64 a0_2) := (blk_cell BK384.out 2).trans rfl
              have hcz22_3 : wc.cell? ⟨gb384, 3, none⟩ = some (.int .i64 a0_3) := (blk_cell BK384.out 3).trans rfl
              have hcz22_4 : wc.cell? ⟨gb384, 4, none⟩ = some (.int .i64 a0_4) := (blk_cell BK384.out 4).trans rfl
              have hcz22_5 : wc.cell? ⟨gb384, 5, none⟩ = some (.int .i64 a0_5) := (blk_cell BK384.out 5).trans rfl
              have hfz22_0 := blk_frozen BK384.out 0
              have hfz22_1 := blk_frozen BK384.out 1
              have hfz22_2 := blk_frozen BK384.out 2
              have hfz22_3 := blk_frozen BK384.out 3
              have hfz22_4 := blk_frozen BK384.out 4
              have hfz22_5 := blk_frozen BK384.out 5
              go_wp2_with (first | (go_at_call 104; (with_reducible refine (trailer_in.calls a0_0 1 8388608 true _ A12.out).mono ?_); rintro e w' ⟨rfl, ⟨nd, rfl⟩⟩) | (go_at_call 104; (with_reducible refine (trailer_in.calls a0_1 (-1) 67108864 true _ A14.out).mono ?_); rintro e w' ⟨rfl, ⟨nd, rfl⟩⟩) | (go_at_call 104; (with_reducible refine (trailer_in.calls a0_4 0 67108864 false _ A16.out).mono ?_); rintro e w' ⟨rfl, ⟨nd, rfl⟩⟩))
              go_ret
              exact ⟨by first | rfl | (simp [errW_none, errW_some] <;> rfl) | (simp [*, errW_none, errW_some] <;> rfl), by repeat (first | (with_reducible first | exact HB.out | apply below_alloc | apply pw_below_drewN | apply below_drew1 | refine below_set ?_ GE384.out) | exact HB.out)⟩
          · replace c15 := Bool.eq_false_iff.mpr c15
            subst c15
            have H1 : (some 3) = some r := by rw [if_neg (show ¬ (false = true) by decide)] at H; exact H
            clear H
            have H := H1
            clear H1
            obtain rfl := Option.some.inj H
            have hcz23_0 : wc.cell? ⟨gb384, 0, none⟩ = some (.int .i64 a0_0) := (blk_cell BK384.out 0).trans rfl
            have hcz23_1 : wc.cell? ⟨gb384, 1, none⟩ = some (.int .i64 a0_1) := (blk_cell BK384.out 1).trans rfl
            have hcz23_2 : wc.cell? ⟨gb384, 2, none⟩ = some (.int .i64 a0_2) := (blk_cell BK384.out 2).trans rfl
            have hcz23_3 : wc.cell? ⟨gb384, 3, none⟩ = some (.int .i64 a0_3) := (blk_cell BK384.out 3).trans rfl
            have hcz23_4 : wc.cell? ⟨gb384, 4, none⟩ = some (.int .i64 a0_4) := (blk_cell BK384.out 4).trans rfl
            have hcz23_5 : wc.cell? ⟨gb384, 5, none⟩ = some (.int .i64 a0_5) := (blk_cell BK384.out 5).trans rfl
            have hfz23_0 := blk_frozen BK384.out 0
            have hfz23_1 := blk_frozen BK384.out 1
            have hfz23_2 := blk_frozen BK384.out 2
            have hfz23_3 := blk_frozen BK384.out 3
            have hfz23_4 := blk_frozen BK384.out 4
            have hfz23_5 := blk_frozen BK384.out 5
            go_wp2_with (first | (go_at_call 104; (with_reducible refine (trailer_in.calls a0_0 1 8388608 true _ A12.out).mono ?_); rintro e w' ⟨rfl, ⟨nd, rfl⟩⟩) | (go_at_call 104; (with_reducible refine (trailer_in.calls a0_1 (-1) 67108864 false _ A14.out).mono ?_); rintro e w' ⟨rfl, ⟨nd, rfl⟩⟩))
            go_ret
            exact ⟨by first | rfl | (simp [errW_none, errW_some] <;> rfl) | (simp [*, errW_none, errW_some] <;> rfl), by repeat (first | (with_reducible first | exact HB.out | apply below_alloc | apply pw_below_drewN | apply below_drew1 | refine below_set ?_ GE384.out) | exact HB.out)⟩
        · replace c13 := Bool.eq_false_iff.mpr c13
          subst c13
          have H1 : (some 3) = some r := by rw [if_neg (show ¬ (false = true) by decide)] at H; exact H
          clear H
          have H := H1
          clear H1
          obtain rfl := Option.some.inj H
          have hcz24_0 : wc.cell? ⟨gb384, 0, none⟩ = some (.int .i64 a0_0) := (blk_cell BK384.out 0).trans rfl
          have hcz24_1 : wc.cell? ⟨gb384, 1, none⟩ = some (.int .i64 a0_1) := (blk_cell BK384.out 1).trans rfl
          have hcz24_2 : wc.cell? ⟨gb384, 2, none⟩ = some (.int .i64 a0_2) := (blk_cell BK384.out 2).trans rfl
          have hcz24_3 : wc.cell? ⟨gb384, 3, none⟩ = some (.int .i64 a0_3) := (blk_cell BK384.out 3).trans rfl
          have hcz24_4 : wc.cell? ⟨gb384, 4, none⟩ = some (.int .i64 a0_4) := (blk_cell BK384.out 4).trans rfl
          have hcz24_5 : wc.cell? ⟨gb384, 5, none⟩ = some (.int .i64 a0_5) := (blk_cell BK384.out 5).trans rfl
          have hfz24_0 := blk_frozen BK384.out 0
          have hfz24_1 := blk_frozen BK384.out 1
          have hfz24_2 := blk_frozen BK384.out 2
          have hfz24_3 := blk_frozen BK384.out 3
          have hfz24_4 := blk_frozen BK384.out 4
          have hfz24_5 := blk_frozen BK384.out 5
          go_wp2_with (first | (go_at_call 104; (with_reducible refine (trailer_in.calls a0_0 1 8388608 false _ A12.out).mono ?_); rintro e w' ⟨rfl, ⟨nd, rfl⟩⟩))
          go_ret
          exact ⟨by first | rfl | (simp [errW_none, errW_some] <;> rfl) | (simp [*, errW_none, errW_some] <;> rfl), by repeat (first | (with_reducible first | exact HB.out | apply below_alloc | apply pw_below_drewN | apply below_drew1 | refine below_set ?_ GE384.out) | exact HB.out)⟩
      · replace c11 := Bool.eq_false_iff.mpr c11
        subst c11
        have H1 : (some 3) = some r := by rw [if_neg (show ¬ (false = true) by decide)] at H; exact H
        clear H
        have H := H1
        clear H1
        obtain rfl := Option.some.inj H
        go_wp2
        go_ret
        exact ⟨by first | rfl | (simp [errW_none, errW_some] <;> rfl) | (simp [*, errW_none, errW_some] <;> rfl), by repeat (first | (with_reducible first | exact HB.out | apply below_alloc | apply pw_below_drewN | apply below_drew1 | refine below_set ?_ GE384.out) | exact HB.out)⟩
def trailer_number.f (a0 : ByteArray) (a1 : Int) : Option (ByteArray × Int × Int × Int × ByteArray × (List (S35)) × (List (S89))) := some (a0, 2, a1, 0, (⟨#[]⟩ : ByteArray), ([] : List (S35)), ([] : List (S89)))
set_option maxHeartbeats 8000000 in
set_option maxRecDepth 100000 in
theorem trailer_number.calls (a0 : ByteArray) (a1 : Int) (r1 : ByteArray) (r2 : Int) (r3 : Int) (r4 : Int) (r5 : ByteArray) (r6 : List (S35)) (r7 : List (S89)) (w : World) (h : trailer_number.f a0 a1 = some (r1, r2, r3, r4, r5, r6, r7)) :
    Calls Try.prog 102 #[.string a0, .int .i64 a1] w fun e w' => ∃ v5_ v6_ : Value, e = .returned (.agg #[.string r1, .int .i64 r2, .int .i64 r3, .int .i64 r4, .string r5, v5_, v6_]) ∧ Kd.R k35 35 w' w.heap.size (fun k_ => some k_ ≠ (v6_ : Value).ownBlock) v5_ r6 ∧ Kd.R k89 89 w' w.heap.size (fun k_ => some k_ ≠ (v5_ : Value).ownBlock) v6_ r7 ∧ Below w.heap.size w w' := by
  have hu89 := Try.underlying89
  have hu35 := Try.underlying35
  have HB := Aside0.mk (Below.refl w.heap.size w)
  have H : (some (a0, 2, a1, 0, (⟨#[]⟩ : ByteArray), ([] : List (S35)), ([] : List (S89)))) = some (r1, r2, r3, r4, r5, r6, r7) := h
  clear h
  simp only [Option.some.injEq, Prod.mk.injEq] at H
  obtain ⟨rfl, rfl, rfl, rfl, rfl, rfl, rfl⟩ := H
  go_enter Try.func102, Try.ntmps102
  go_wp2_with (first | ((with_reducible refine gate_dst (N := 4) rfl ?_); refine box_event ?hg (N := 4) ?hd (cs := #[.string (⟨#[]⟩ : ByteArray), .int .i64 0, .int .i64 0, .int .i64 0, .string (⟨#[]⟩ : ByteArray), .slice none 0 0, .slice none 0 0]) (t := 89) ?hr ?_; (case hd => rfl); (case hg => rfl); (case hr => first | (go_simp; done) | (go_simp; rfl)); intro gb396 hg w3 hbox hb; have n0_ := Aside0.mk (below_step (by repeat (first | (with_reducible first | exact HB.out | apply below_alloc | apply pw_below_drewN | apply below_drew1) | exact HB.out)) hb); have n1_ := Aside0.mk (hbox); have n2_ := Aside0.mk ((by rw [hg]; exact (below_size (by repeat (first | (with_reducible first | exact HB.out | apply below_alloc | apply pw_below_drewN | apply below_drew1) | exact HB.out))) : w.heap.size ≤ gb396)); have n3_ := Aside0.mk ((by rw [hg]; exact (below_size (by repeat (first | (with_reducible first | exact HB.out | apply below_alloc | apply pw_below_drewN | apply below_drew1) | exact HB.out))) : w.heap.size ≤ gb396)); clear HB; have HB := n0_; have BK396 := n1_; have GW396 := n2_; have GE396 := n3_; clear n0_ n1_ n2_ n3_; clear hb hbox hg; have hcz4_0 : w3.cell? ⟨gb396, 0, none⟩ = some (.string (⟨#[]⟩ : ByteArray)) := (blk_cell BK396.out 0).trans rfl; have hcz4_1 : w3.cell? ⟨gb396, 1, none⟩ = some (.int .i64 0) := (blk_cell BK396.out 1).trans rfl; have hcz4_2 : w3.cell? ⟨gb396, 2, none⟩ = some (.int .i64 0) := (blk_cell BK396.out 2).trans rfl; have hcz4_3 : w3.cell? ⟨gb396, 3, none⟩ = some (.int .i64 0) := (blk_cell BK396.out 3).trans rfl; have hcz4_4 : w3.cell? ⟨gb396, 4, none⟩ = some (.string (⟨#[]⟩ : ByteArray)) := (blk_cell BK396.out 4).trans rfl; have hcz4_5 : w3.cell? ⟨gb396, 5, none⟩ = some (.slice none 0 0) := (blk_cell BK396.out 5).trans rfl; have hcz4_6 : w3.cell? ⟨gb396, 6, none⟩ = some (.slice none 0 0) := (blk_cell BK396.out 6).trans rfl; have hfz4_0 := blk_frozen BK396.out 0; have hfz4_1 := blk_frozen BK396.out 1; have hfz4_2 := blk_frozen BK396.out 2; have hfz4_3 := blk_frozen BK396.out 3; have hfz4_4 := blk_frozen BK396.out 4; have hfz4_5 := blk_frozen BK396.out 5; have hfz4_6 := blk_frozen BK396.out 6))
  refine bodyPost_ret (results_cell_row rfl _ _ gb396 89 #[.string a0, .int .i64 2, .int .i64 a1, .int .i64 0, .string (⟨#[]⟩ : ByteArray), .slice none 0 0, .slice none 0 0] (0, 0) _ rfl (by (with_reducible repeat (first | refine blk_drewN ?_ _ | refine blk_drew ?_ | refine blk_alloc ?_ _)); refine blk_put (cs := #[.string a0, .int .i64 2, .int .i64 a1, .int .i64 0, .string (⟨#[]⟩ : ByteArray), .slice none 0 0, .slice none 0 0]) ?_ 6 _ rfl; (with_reducible repeat (first | refine blk_drewN ?_ _ | refine blk_drew ?_ | refine blk_alloc ?_ _)); refine blk_put (cs := #[.string a0, .int .i64 2, .int .i64 a1, .int .i64 0, .string (⟨#[]⟩ : ByteArray), .slice none 0 0, .slice none 0 0]) ?_ 5 _ rfl; (with_reducible repeat (first | refine blk_drewN ?_ _ | refine blk_drew ?_ | refine blk_alloc ?_ _)); refine blk_put (cs := #[.string a0, .int .i64 2, .int .i64 a1, .int .i64 0, .string (⟨#[]⟩ : ByteArray), .slice none 0 0, .slice none 0 0]) ?_ 4 _ rfl; (with_reducible repeat (first | refine blk_drewN ?_ _ | refine blk_drew ?_ | refine blk_alloc ?_ _)); refine blk_put (cs := #[.string a0, .int .i64 2, .int .i64 a1, .int .i64 0, .string (⟨#[]⟩ : ByteArray), .slice none 0 0, .slice none 0 0]) ?_ 3 _ rfl; (with_reducible repeat (first | refine blk_drewN ?_ _ | refine blk_drew ?_ | refine blk_alloc ?_ _)); refine blk_put (cs := #[.string a0, .int .i64 2, .int .i64 0, .int .i64 0, .string (⟨#[]⟩ : ByteArray), .slice none 0 0, .slice none 0 0]) ?_ 2 _ rfl; (with_reducible repeat (first | refine blk_drewN ?_ _ | refine blk_drew ?_ | refine blk_alloc ?_ _)); refine blk_put (cs := #[.string a0, .int .i64 0, .int .i64 0, .int .i64 0, .string (⟨#[]⟩ : ByteArray), .slice none 0 0, .slice none 0 0]) ?_ 1 _ rfl; (with_reducible repeat (first | refine blk_drewN ?_ _ | refine blk_drew ?_ | refine blk_alloc ?_ _)); refine blk_put (cs := #[.string (⟨#[]⟩ : ByteArray), .int .i64 0, .int .i64 0, .int .i64 0, .string (⟨#[]⟩ : ByteArray), .slice none 0 0, .slice none 0 0]) ?_ 0 _ rfl; (with_reducible repeat (first | refine blk_drewN ?_ _ | refine blk_drew ?_ | refine blk_alloc ?_ _)); exact BK396.out) Try.underlying89 rfl (by kernel_rfl)) rfl ?_
  exact ⟨_, _, by first | rfl | (simp [errW_none, errW_some] <;> rfl) | (simp [*, errW_none, errW_some] <;> rfl), by first | exact Kd.R_nil _ _ _ _ _ | exact Kd.N_nil _ _ _ _ _ | exact Kd.V_nil _ _ _ _ _ | exact Kd.Q_nil _ _ _ _ _ | exact Kd.S_nil _ _ _ _ _, by first | exact Kd.R_nil _ _ _ _ _ | exact Kd.N_nil _ _ _ _ _ | exact Kd.V_nil _ _ _ _ _ | exact Kd.Q_nil _ _ _ _ _ | exact Kd.S_nil _ _ _ _ _, by repeat (first | (with_reducible first | exact HB.out | apply below_alloc | apply pw_below_drewN | apply below_drew1 | refine below_set ?_ GE396.out) | exact HB.out)⟩
end Go.Proofs.Ytogpnkkoablmiaa.Q
end
