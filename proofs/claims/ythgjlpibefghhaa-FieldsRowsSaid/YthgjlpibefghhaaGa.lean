/- The bytes of a number, and how many it needs: what the machine does in fields.whole, fields.Need. -/
import Derived.Test.YthgjlpibefghhaaProg
import Derived.Below
import Derived.Deep.Draws
import Derived.Deep.AppendLies
import Derived.Maps.AppendAt
import Derived.OwnWalk
import Derived.Laws.BytesArg
import Derived.Laws.MakeOwn
import Derived.Laws.OwnMore
import Derived.Deep.OwnRows
import Derived.Tactics
import Derived.Lib.ConvBytes
import Derived.Laws.Slices
import Derived.WalkKit
import Derived.KernelRfl
import Derived.RowKit3
import Derived.Deep.LoopGhost
import Derived.Deep.QuietTactic
import Derived.BigQuiet
import Derived.WideLaws
import Derived.Deep.DeepCutAuto
import Derived.Deep.CutBlock
import Derived.Deep.RegionHeld3
import Derived.Laws.Rows
import Derived.Lib.AppendStr
import Derived.ArgAppend
import Derived.Laws.IdiomCopy
import Derived.OrdersHeld
import Derived.Laws.BitsLemmas
import Derived.RowKit
import Derived.Test.YthgjlpibefghhaaWWords
import Derived.Test.YthgjlpibefghhaaWLast
import Derived.Test.YthgjlpibefghhaaWTab
import Derived.Test.YthgjlpibefghhaaWFour
import Derived.Test.YthgjlpibefghhaaWQPut
import Derived.Test.YthgjlpibefghhaaWApart
import Derived.Test.YthgjlpibefghhaaWArr
import Derived.Test.YthgjlpibefghhaaWZeros
import Derived.Test.YthgjlpibefghhaaWFoot
import Derived.Test.YthgjlpibefghhaaWKept
import Derived.Test.YthgjlpibefghhaaWShare
import Derived.Test.YthgjlpibefghhaaWN
import Derived.Test.YthgjlpibefghhaaWFootNe
import Derived.Test.YthgjlpibefghhaaWAt
import Derived.Test.YthgjlpibefghhaaWEqStruct
import Derived.Test.YthgjlpibefghhaaWRepsOne
import Derived.Test.YthgjlpibefghhaaWInv
import Derived.Test.YthgjlpibefghhaaWInvWords
import Derived.Test.YthgjlpibefghhaaWGuard
import Derived.Test.YthgjlpibefghhaaWNEv
import Derived.Test.YthgjlpibefghhaaWMore
namespace Go.Proofs.Ythgjlpibefghhaa.G
open Go.RowKit Go.Proofs.YthgjlpibefghhaaW.PrintWords Go.Proofs.YthgjlpibefghhaaW.PrintLast Go.Proofs.YthgjlpibefghhaaW.PrintMore
set_option linter.unusedVariables false
set_option linter.unusedSimpArgs false
def b0 (n : Int) : Int := n / 72057594037927936 % 256
def b1 (n : Int) : Int := n / 281474976710656 % 256
def b2 (n : Int) : Int := n / 1099511627776 % 256
def b3 (n : Int) : Int := n / 4294967296 % 256
def b4 (n : Int) : Int := n / 16777216 % 256
def b5 (n : Int) : Int := n / 65536 % 256
def b6 (n : Int) : Int := n / 256 % 256
def b7 (n : Int) : Int := n % 256

set_option maxHeartbeats 4000000 in
set_option maxRecDepth 100000 in
theorem whole_calls (n : Int) (w : World) :
    Calls Try.prog 20 #[.int .i64 n] w fun e w' => e = .returned (.agg #[.int .u8 (b0 n), .int .u8 (b1 n), .int .u8 (b2 n), .int .u8 (b3 n), .int .u8 (b4 n), .int .u8 (b5 n), .int .u8 (b6 n), .int .u8 (b7 n)]) ∧ Below w.heap.size w w' := by
  go_enter Try.func20, Try.ntmps20
  go_wp2
  refine wp_loop_rounds 9 ?_
  repeat (rw [rounds_succ]; go_wp2)
  exact bodyPost_ret (v := .agg #[.int .u8 (b0 n), .int .u8 (b1 n), .int .u8 (b2 n), .int .u8 (b3 n), .int .u8 (b4 n), .int .u8 (b5 n), .int .u8 (b6 n), .int .u8 (b7 n)]) (by simp [results, Try.results20, go_sem]; exact ⟨rfl, rfl, rfl, rfl, rfl, rfl, rfl, rfl⟩) rfl ⟨rfl, ((Below.refl _ _).alloc (Nat.le_refl _) _).alloc (by simp) _⟩

def wd (n : Int) : Int := if b0 n = 0 then if b1 n = 0 then if b2 n = 0 then if b3 n = 0 then if b4 n = 0 then if b5 n = 0 then if b6 n = 0 then if b7 n = 0 then 0 else 1 else 2 else 3 else 4 else 5 else 6 else 7 else 8
def need : List Int → Int → Int
  | [], a => a
  | n :: r, a => if n < 0 then -1 else need r (max a (wd n))
theorem wd_lo (n : Int) : 0 ≤ wd n ∧ wd n ≤ 8 := by unfold wd; repeat (first | split | omega)
theorem ret_int {k : IntKind} {a b : Int} (h : a = b) : Ending.returned (.int k a) = .returned (.int k b) := by rw [h]
def need0 (l0 : List Int) : Int := need l0 0
def Need.f (l0 : List Int) : Option Int := some (need l0 0)
theorem wd_cases (n : Int) : (wd n = 8 ∧ (b0 n != 0) = true) ∨ (wd n = 7 ∧ (b0 n != 0) = false ∧ (b1 n != 0) = true) ∨ (wd n = 6 ∧ (b0 n != 0) = false ∧ (b1 n != 0) = false ∧ (b2 n != 0) = true)
    ∨ (wd n = 5 ∧ (b0 n != 0) = false ∧ (b1 n != 0) = false ∧ (b2 n != 0) = false ∧ (b3 n != 0) = true)
    ∨ (wd n = 4 ∧ (b0 n != 0) = false ∧ (b1 n != 0) = false ∧ (b2 n != 0) = false ∧ (b3 n != 0) = false ∧ (b4 n != 0) = true)
    ∨ (wd n = 3 ∧ (b0 n != 0) = false ∧ (b1 n != 0) = false ∧ (b2 n != 0) = false ∧ (b3 n != 0) = false ∧ (b4 n != 0) = false ∧ (b5 n != 0) = true)
    ∨ (wd n = 2 ∧ (b0 n != 0) = false ∧ (b1 n != 0) = false ∧ (b2 n != 0) = false ∧ (b3 n != 0) = false ∧ (b4 n != 0) = false ∧ (b5 n != 0) = false ∧ (b6 n != 0) = true)
    ∨ (wd n = 1 ∧ (b0 n != 0) = false ∧ (b1 n != 0) = false ∧ (b2 n != 0) = false ∧ (b3 n != 0) = false ∧ (b4 n != 0) = false ∧ (b5 n != 0) = false ∧ (b6 n != 0) = false ∧ (b7 n != 0) = true)
    ∨ (wd n = 0 ∧ (b0 n != 0) = false ∧ (b1 n != 0) = false ∧ (b2 n != 0) = false ∧ (b3 n != 0) = false ∧ (b4 n != 0) = false ∧ (b5 n != 0) = false ∧ (b6 n != 0) = false ∧ (b7 n != 0) = false) := by
  by_cases h0 : b0 n = 0
  · by_cases h1 : b1 n = 0
    · by_cases h2 : b2 n = 0
      · by_cases h3 : b3 n = 0
        · by_cases h4 : b4 n = 0
          · by_cases h5 : b5 n = 0
            · by_cases h6 : b6 n = 0
              · by_cases h7 : b7 n = 0 <;> simp [wd, h0, h1, h2, h3, h4, h5, h6, h7]
              · simp [wd, h0, h1, h2, h3, h4, h5, h6]
            · simp [wd, h0, h1, h2, h3, h4, h5]
          · simp [wd, h0, h1, h2, h3, h4]
        · simp [wd, h0, h1, h2, h3]
      · simp [wd, h0, h1, h2]
    · simp [wd, h0, h1]
  · simp [wd, h0]
attribute [local go_sem] max2_int min2_int max_two min_two max_three min_three max_four min_four

set_option maxHeartbeats 8000000 in
set_option maxRecDepth 100000 in
theorem need_calls (A0 : Option Addr) (c0 : Nat) (l0 : List Int) (r1 : Int) (w : World) (hr0 : Kd.C (Kd.int .i64) w A0 l0.length l0) (hc0 : l0.length ≤ c0) (h : Need.f l0 = some r1) :
    Calls Try.prog 12 #[.slice A0 l0.length c0] w fun e w' => e = .returned (.int .i64 r1) ∧ Below w.heap.size w w' := by
  have HR0 := Aside0.mk hr0
  have HC0 := Aside0.mk hc0
  have hl9 : l0.length ≤ 9223372036854775807 := hr0.2.1
  have HL9 := Aside0.mk hl9
  clear hl9
  clear hr0 hc0
  obtain rfl : need l0 0 = r1 := by simpa [Need.f] using h
  clear h
  have HB := Aside0.mk (Below.refl w.heap.size w)
  go_enter Try.func12, Try.ntmps12
  go_wp2
  go_loopg [3, 10] l0.length (fun kq v3 v10 w' => ∃ (a : Int) (i : Nat), v3 = .int .i64 a ∧ v10 = .int .i64 i ∧ Aside0 (i + kq = l0.length) ∧ Aside0 (0 ≤ a ∧ a ≤ 8) ∧ Aside0 (need (l0.drop i) a = need l0 0) ∧ Aside0 (Below w.heap.size w w'))
  case atStart => exact ⟨0, 0, rfl, rfl, ⟨by omega⟩, ⟨by omega⟩, ⟨rfl⟩, HB⟩
  case round =>
    clear HB
    obtain ⟨a, i, rfl, rfl, HI, HA, HN, HB⟩ := hrel
    by_cases hlt : i < l0.length
    · have q : (i : Int) < (l0.length : Int) := by omega
      have i9 : wrap64 ((i : Int) + 1) = (i : Int) + 1 := by have := HL9.out; unfold wrap64; omega
      obtain ⟨ad, e, hx⟩ := Kd.at_int HR0.out (i : Int) (by omega) q
      cases e
      replace hx := (HB.out.cell (World.block_lt_of_cell? w _ hx)).trans hx
      have hd : l0.drop i = l0[i] :: l0.drop (i + 1) := List.drop_eq_getElem_cons hlt
      have hrd : rd l0 (i : Int) = l0[i] := by simp [rd, hlt]
      rw [hrd, Int.toNat_natCast] at hx
      obtain ⟨n, hn⟩ : ∃ n, n = l0[i] := ⟨_, rfl⟩
      rw [← hn] at hx hd
      have HN2 : Aside0 (need (n :: l0.drop (i + 1)) a = need l0 0) := ⟨by rw [← hd]; exact HN.out⟩
      clear hd hrd hn HN
      by_cases hneg : n < 0
      · have e1 : need l0 0 = -1 := by rw [← HN2.out]; simp [need, hneg]
        have e2 := Aside0.mk e1
        clear e1
        go_wp2
        go_ret
        exact ⟨ret_int e2.out.symm, HB.out⟩
      · have HN3 : Aside0 (need (l0.drop (i + 1)) (max a (wd n)) = need l0 0) := ⟨by rw [← HN2.out]; simp [need, hneg]⟩
        have ha : 0 ≤ a := HA.out.1
        have ha2 : a ≤ 8 := HA.out.2
        clear HN2 HR0
        obtain ⟨k1, rfl⟩ : ∃ k1, gk = k1 + 1 := ⟨gk - 1, by have := HI.out; omega⟩
        have step : ∀ x : Int, wd n = x → ∀ y, y = max a x → (0 ≤ y ∧ y ≤ 8) ∧ (need (l0.drop (i + 1)) y = need l0 0) := by
          intro x hx y hy
          have := wd_lo n
          subst hx hy
          exact ⟨by omega, HN3.out⟩
        have ST := Aside0.mk step
        clear step HN3 HA
        rcases wd_cases n with ⟨hw, f0⟩ | ⟨hw, f0, f1⟩ | ⟨hw, f0, f1, f2⟩ | ⟨hw, f0, f1, f2, f3⟩ | ⟨hw, f0, f1, f2, f3, f4⟩ | ⟨hw, f0, f1, f2, f3, f4, f5⟩ | ⟨hw, f0, f1, f2, f3, f4, f5, f6⟩ | ⟨hw, f0, f1, f2, f3, f4, f5, f6, f7⟩ | ⟨hw, f0, f1, f2, f3, f4, f5, f6, f7⟩
        all_goals
          have sx := Aside0.mk (ST.out _ hw)
          clear ST hw
          go_wp2_with (go_at_call 20; refine (whole_calls _ _).mono ?_; rintro e w1 ⟨rfl, hb1⟩)
          refine wp_loop_rounds 9 ?_
          repeat any_goals (rw [rounds_succ]; go_wp2)
          all_goals
            go_roundg k1
            case measure => have := HI.out; omega
            case rel =>
              have hs := HB.out.size
              refine ⟨_, i + 1, rfl, by go_num, ?_, ?_, ?_, ?_⟩
              rotate_left 3
              · exact ⟨((HB.out.trans (hb1.mono hs))).alloc (by have := hb1.size; omega) _⟩
              · exact ⟨by have := HI.out; omega⟩
              · exact ⟨(sx.out _ (by omega)).1⟩
              · exact ⟨(sx.out _ (by omega)).2⟩
    · have e1 : need l0 0 = a := by rw [← HN.out, List.drop_of_length_le (by omega)]; rfl
      have e2 := Aside0.mk e1
      clear e1
      go_wp2
      go_ret
      exact ⟨ret_int e2.out.symm, HB.out⟩
end Go.Proofs.Ythgjlpibefghhaa.G
