/- CrcJoins: the walk, and the plain law: a sum of two texts is told by their sums. -/
import Derived.Test.YtncfjogmggofgaaHb
import Derived.Test.YtncfjogmggofgaaProg
import Derived.Below
import Derived.Deep.Draws
import Derived.Deep.AppendLies
import Derived.Maps.AppendAt
import Derived.OwnWalk
import Derived.Laws.BytesArg
import Derived.Laws.MakeOwn
import Derived.Laws.OwnMore
import Derived.Deep.OwnRows
import Derived.Tactics
import Derived.Lib.ConvBytes
import Derived.Laws.Slices
import Derived.WalkKit
import Derived.KernelRfl
import Derived.RowKit3
import Derived.Deep.LoopGhost
import Derived.Deep.QuietTactic
import Derived.BigQuiet
import Derived.WideLaws
import Derived.Deep.DeepCutAuto
import Derived.Deep.CutBlock
import Derived.Deep.RegionHeld3
import Derived.Laws.Rows
import Derived.Lib.AppendStr
import Derived.ArgAppend
import Derived.Laws.IdiomCopy
import Derived.OrdersHeld
import Derived.Laws.BitsLemmas
import Derived.RowKit
import Derived.Test.YtncfjogmggofgaaWWords
import Derived.Test.YtncfjogmggofgaaWLast
import Derived.Test.YtncfjogmggofgaaWTab
import Derived.Test.YtncfjogmggofgaaWFour
import Derived.Test.YtncfjogmggofgaaWQPut
import Derived.Test.YtncfjogmggofgaaWApart
import Derived.Test.YtncfjogmggofgaaWArr
import Derived.Test.YtncfjogmggofgaaWZeros
import Derived.Test.YtncfjogmggofgaaWFoot
import Derived.Test.YtncfjogmggofgaaWKept
import Derived.Test.YtncfjogmggofgaaWShare
import Derived.Test.YtncfjogmggofgaaWN
import Derived.Test.YtncfjogmggofgaaWFootNe
import Derived.Test.YtncfjogmggofgaaWAt
import Derived.Test.YtncfjogmggofgaaWEqStruct
import Derived.Test.YtncfjogmggofgaaWRepsOne
import Derived.Test.YtncfjogmggofgaaWInv
import Derived.Test.YtncfjogmggofgaaWInvWords
import Derived.Test.YtncfjogmggofgaaWGuard
import Derived.Test.YtncfjogmggofgaaWNEv
import Derived.Test.YtncfjogmggofgaaWMore
namespace Go.Proofs.Ytncfjogmggofgaa.J
open Go.RowKit Go.Proofs.YtncfjogmggofgaaW.PrintWords Go.Proofs.YtncfjogmggofgaaW.PrintLast Go.Proofs.YtncfjogmggofgaaW.PrintMore
set_option linter.unusedVariables false
set_option linter.unusedSimpArgs false
open Go.Proofs.Ytncfjogmggofgaa.Q Go.Proofs.Ytncfjogmggofgaa.H
theorem it_xor (n : Nat) (x y : B) : it L n (x ^^^ y) = it L n x ^^^ it L n y := (lin_L.it n).xor x y
theorem U0 : U 0 = 0#32 := by decide
theorem I0 : I 0#32 = 0 := by decide
theorem bs_length (s : ByteArray) : (bs s).length = s.size := by rw [bs, List.length_map, bytes_length]
def sm (s : ByteArray) : B := runB Ff (bs s) ^^^ Ff
/-- The sum of two texts, told by their sums. -/
theorem join_law (s t : ByteArray) : it L t.size (sm s) ^^^ sm t = sm (s ++ t) := by
  unfold sm
  have hb : bs (s ++ t) = bs s ++ bs t := by simp [bs, bytesOf]
  rw [hb, runB_append, it_xor]
  have h1 : runB (runB Ff (bs s)) (bs t) = runB Ff (bs t) ^^^ it L t.size (Ff ^^^ runB Ff (bs s)) := by
    rw [← bs_length, ← runB_xor, ← BitVec.xor_assoc, BitVec.xor_self, BitVec.zero_xor]
  rw [h1, it_xor]
  generalize it L t.size (runB Ff (bs s)) = a
  generalize it L t.size Ff = b
  generalize runB Ff (bs t) = c
  generalize Ff = d
  apply BitVec.eq_of_getLsbD_eq
  intro i hi
  simp only [BitVec.getLsbD_xor]
  cases a.getLsbD i <;> cases b.getLsbD i <;> cases c.getLsbD i <;> cases d.getLsbD i <;> rfl
theorem more_law (s t : ByteArray) : runB (sm s ^^^ Ff) (bs t) ^^^ Ff = sm (s ++ t) := by
  unfold sm
  have hb : bs (s ++ t) = bs s ++ bs t := by simp [bs, bytesOf]
  rw [hb, runB_append, BitVec.xor_assoc, BitVec.xor_self, BitVec.xor_zero]
theorem I_ok (b : B) : 0 ≤ I b ∧ I b ≤ 4294967295 := by have := I_range b; omega
theorem Sum_one (s : ByteArray) (hs : s.size ≤ 40000) (k : Nat) (hk : 30 ≤ k) : crc_Sum.f k [s] = some (I (sm s)) := by
  obtain ⟨k, rfl⟩ : ∃ m, k = m + 1 + 1 := ⟨k - 2, by omega⟩
  unfold crc_Sum.f
  have hr : rdOf ByteArray.empty [s] 0 = s := rfl
  have e : wrap64 (0 + 1) = (1 : Int) := by unfold wrap64; omega
  simp only [crc_Sum.l0, List.length_cons, List.length_nil]
  rw [if_pos (by omega), if_pos (by omega), if_pos (by omega), hr, crun_eq _ s (by omega) (by omega) (by omega), e]
  simp only [Option.bind_some]
  rw [if_neg (by omega), xor_eq, wrap_I, U_I, max_eq, BitVec.xor_comm]
  rfl
theorem facts (s t : ByteArray) (m : Int) (hs : s.size ≤ 2000) (ht : t.size ≤ 2000) (h0 : 0 ≤ m) (h1 : m ≤ 65535) : ∃ vs vt va vc vd : Int,
    crc_Sum.f 30 [s] = some vs ∧ crc_Sum.f 30 [t] = some vt ∧ crc_Sum.f 30 [s ++ t] = some va ∧ crc_Join.f vs vt t.size = some (va, 0) ∧ crc_More.f vs t = some (va, 0) ∧
    crc_Join.f va 0 m = some (vc, 0) ∧ crc_Join.f vs 0 ((t.size : Int) + m) = some (vd, 0) ∧ crc_Join.f vt vd m = some (vc, 0) := by
  refine ⟨I (sm s), I (sm t), I (sm (s ++ t)), I (it L m.toNat (sm (s ++ t))), I (it L (t.size + m.toNat) (sm s)), Sum_one s (by omega) 30 (by omega), Sum_one t (by omega) 30 (by omega), Sum_one (s ++ t) (by rw [ByteArray.size_append]; omega) 30 (by omega), ?_, ?_, ?_, ?_, ?_⟩
  · rw [join_f _ _ _ (by omega)]
    unfold joinS
    rw [if_pos ⟨I_ok _, I_ok _, by omega⟩, U_I, U_I, Int.toNat_natCast, join_law]
  · rw [more_eq _ _ (by omega)]
    unfold moreS
    rw [if_pos (I_ok _), U_I, more_law]
  · rw [join_f _ _ _ (by omega)]
    unfold joinS
    rw [if_pos ⟨I_ok _, by omega, by omega⟩, U_I, U0, BitVec.xor_zero]
  · rw [join_f _ _ _ (by omega)]
    unfold joinS
    have e : ((t.size : Int) + m).toNat = t.size + m.toNat := by omega
    rw [if_pos ⟨I_ok _, by omega, by omega⟩, U_I, U0, BitVec.xor_zero, e]
  · rw [join_f _ _ _ (by omega)]
    unfold joinS
    rw [if_pos ⟨I_ok _, I_ok _, by omega⟩, U_I, U_I, it_add, ← it_xor, BitVec.xor_comm, join_law]

theorem block1 (W : World) (s : ByteArray) : Kd.C Kd.string (W.alloc (.cells #[.string s] 9)) (some ⟨W.heap.size, 0, none⟩) [s].length [s] := binderylaw04_sums.block W [s] 9 (by simp)
theorem sum1 (s : ByteArray) (v : Int) (W : World) (h : crc_Sum.f 30 [s] = some v) : Calls Try.prog 8 #[.slice (some ⟨W.heap.size, 0, none⟩) 1 1] (W.alloc (.cells #[.string s] 9)) fun e w' => e = .returned (.int .i64 v) ∧ Below (W.alloc (.cells #[.string s] 9)).heap.size (W.alloc (.cells #[.string s] 9)) w' :=
  crc_Sum.calls 30 _ 1 [s] v _ (block1 W s) (Nat.le_refl _) h

set_option maxHeartbeats 8000000 in
set_option maxRecDepth 100000 in
theorem joins_calls (s t : ByteArray) (m : Int) (w : World) (hs : s.size ≤ 140737488351232) (ht : t.size ≤ 140737488351232) (h0 : 0 ≤ m) (h1 : m ≤ 65535) :
    Calls Try.prog 5 #[.string s, .string t, .int .u16 m] w fun e w' => e = .returned (.bool true) ∧ Below w.heap.size w w' := by
  by_cases c1 : s.size ≤ 2000
  · by_cases c2 : t.size ≤ 2000
    · obtain ⟨vs, vt, va, vc, vd, S1, S2, S3, J1, M1, J2, J3, J4⟩ := facts s t m c1 c2 h0 h1
      have S1 := Aside0.mk S1
      have S2 := Aside0.mk S2
      have S3 := Aside0.mk S3
      have J1 := Aside0.mk J1
      have M1 := Aside0.mk M1
      have J2 := Aside0.mk J2
      have J3 := Aside0.mk J3
      have J4 := Aside0.mk J4
      have d1 : decide (2000 < (s.size : Int)) = false := decide_eq_false (by omega)
      have d2 : decide (2000 < (t.size : Int)) = false := decide_eq_false (by omega)
      have d1' : decide (2000 < s.size) = false := decide_eq_false (by omega)
      have d2' : decide (2000 < t.size) = false := decide_eq_false (by omega)
      have b2 : (t.size : Int) ≤ 2000 := by omega
      clear hs ht
      go_enter Try.func5, Try.ntmps5
      go_wp2_with fail
      refine (sum1 s vs _ S1.out).mono ?_
      rintro e w1 ⟨rfl, hb1⟩
      go_wp2_with fail
      refine (sum1 t vt _ S2.out).mono ?_
      rintro e w2 ⟨rfl, hb2⟩
      go_wp2_with fail
      refine (crc_Join.calls _ _ _ _ _ _ J1.out).mono ?_
      rintro e w3 ⟨rfl, hb3⟩
      go_wp2_with fail
      refine (sum1 s vs _ S1.out).mono ?_
      rintro e w4 ⟨rfl, hb4⟩
      go_wp2_with fail
      refine (crc_More.calls _ _ _ _ _ M1.out).mono ?_
      rintro e w5 ⟨rfl, hb5⟩
      go_wp2_with fail
      refine (crc_Join.calls _ _ _ _ _ _ J2.out).mono ?_
      rintro e w6 ⟨rfl, hb6⟩
      go_wp2_with fail
      refine (sum1 s vs _ S1.out).mono ?_
      rintro e w7 ⟨rfl, hb7⟩
      go_wp2_with fail
      refine (crc_Join.calls _ _ _ _ _ _ J3.out).mono ?_
      rintro e w8 ⟨rfl, hb8⟩
      go_wp2_with fail
      refine (sum1 t vt _ S2.out).mono ?_
      rintro e w9 ⟨rfl, hb9⟩
      go_wp2_with fail
      refine (crc_Join.calls _ _ _ _ _ _ J4.out).mono ?_
      rintro e w10 ⟨rfl, hb10⟩
      go_wp2_with fail
      refine (sum1 (s ++ t) va _ S3.out).mono ?_
      rintro e w11 ⟨rfl, hb11⟩
      go_wp2_with fail
      refine (binderylaw04_sums.calls true _ rfl).mono ?_
      rintro e w12 ⟨rfl, hb12⟩
      go_wp2_with fail
      go_ret
      have a0 := below_alloc (Below.refl w.heap.size w) (.cells #[.string s] 9)
      have t1 := below_then a0 a0.size hb1
      have a1 := below_alloc t1 (.cells #[.string t] 9)
      have t2 := below_then a1 a1.size hb2
      have t3 := below_then t2 t2.size hb3
      have a3 := below_alloc t3 (.cells #[.string s] 9)
      have t4 := below_then a3 a3.size hb4
      have t5 := below_then t4 t4.size hb5
      have t6 := below_then t5 t5.size hb6
      have a6 := below_alloc t6 (.cells #[.string s] 9)
      have t7 := below_then a6 a6.size hb7
      have t8 := below_then t7 t7.size hb8
      have a8 := below_alloc t8 (.cells #[.string t] 9)
      have t9 := below_then a8 a8.size hb9
      have t10 := below_then t9 t9.size hb10
      have a10 := below_alloc t10 (.cells #[.string (s ++ t)] 9)
      have t11 := below_then a10 a10.size hb11
      have t12 := below_then t11 t11.size hb12
      exact ⟨rfl, t12⟩
    · have d1 : decide (2000 < (s.size : Int)) = false := decide_eq_false (by omega)
      have d2 : decide (2000 < (t.size : Int)) = true := decide_eq_true (by omega)
      have d1' : decide (2000 < s.size) = false := decide_eq_false (by omega)
      have d2' : decide (2000 < t.size) = true := decide_eq_true (by omega)
      clear hs ht c1 c2 h0 h1
      go_enter Try.func5, Try.ntmps5
      go_wp2_with (go_at_call 7; refine (binderylaw04_sums.calls true _ rfl).mono ?_; rintro e w12 ⟨rfl, hb12⟩)
      go_ret
      exact ⟨rfl, hb12⟩
  · have d1 : decide (2000 < (s.size : Int)) = true := decide_eq_true (by omega)
    have d1' : decide (2000 < s.size) = true := decide_eq_true (by omega)
    clear hs ht c1 h0 h1
    go_enter Try.func5, Try.ntmps5
    go_wp2_with (go_at_call 7; refine (binderylaw04_sums.calls true _ rfl).mono ?_; rintro e w12 ⟨rfl, hb12⟩)
    go_ret
    exact ⟨rfl, hb12⟩
end Go.Proofs.Ytncfjogmggofgaa.J
