/- Parts of the proof: what the theorem reaches, put together by a program of this session. -/
import Derived.ArgAppend
import Derived.Below
import Derived.BigGuardPart
import Derived.BigQuiet
import Derived.BigRegion
import Derived.Deep.AppendLies
import Derived.Deep.CutBlock
import Derived.Deep.DeepCutAuto
import Derived.Deep.Draws
import Derived.Deep.LoopGhost
import Derived.Deep.OwnRows
import Derived.Deep.QuietTactic
import Derived.Deep.RegionHeld3
import Derived.Deep.RegionLaw
import Derived.KernelRfl
import Derived.Laws.BitsLemmas
import Derived.Laws.BytesArg
import Derived.Laws.EntriesVeiled
import Derived.Laws.IdiomCopy
import Derived.Laws.MakeOwn
import Derived.Laws.OwnMore
import Derived.Laws.Rows
import Derived.Laws.Slices
import Derived.Laws.StructEq
import Derived.Lib.AppendIntMem
import Derived.Lib.AppendStr
import Derived.Lib.Bytealg
import Derived.Lib.ConvBytes
import Derived.Lib.Hide
import Derived.Lib.OwnBridge
import Derived.Lib.SliceRun
import Derived.LoopIn
import Derived.LoopNIn
import Derived.Maps.AppendAt
import Derived.Maps.OwnOps
import Derived.Maps.Views
import Derived.OrdersHeld
import Derived.Outline
import Derived.OwnWalk
import Derived.OwnWalkIn
import Derived.RangeFuncBound
import Derived.RangeFuncBox
import Derived.RangeFuncCalls
import Derived.RangeFuncFrom
import Derived.RangeFuncKeeps
import Derived.RangeFuncLeaves
import Derived.RangeFuncNested
import Derived.RowKit
import Derived.RowKit3
import Derived.Shelf.Abstract
import Derived.Shelf.RegionOpen
import Derived.Shelf.SlSortCmp.KitK
import Derived.Shelf.Spec.SlicesInsertGrow
import Derived.Sort.LotA
import Derived.Sort.WalkB12
import Derived.Sort.WalkB2
import Derived.Tactics
import Derived.TacticsInMore
import Derived.Test.YtogpnkkoablmiaaProg
import Derived.WalkKit
import Derived.WalkLawsBesides
import Derived.WideLaws
import Derived.Test.YtogpnkkoablmiaaBM1
import Derived.Test.YtogpnkkoablmiaaBM2
import Derived.Test.YtogpnkkoablmiaaBM3
import Derived.Test.YtogpnkkoablmiaaBM4
import Derived.Test.YtogpnkkoablmiaaBM5
import Derived.Test.YtogpnkkoablmiaaBM6
import Derived.Test.YtogpnkkoablmiaaBM7
import Derived.Test.YtogpnkkoablmiaaBM9
import Derived.Test.YtogpnkkoablmiaaBM10
import Derived.Test.YtogpnkkoablmiaaBM11
import Derived.Test.YtogpnkkoablmiaaBM12
import Derived.Test.YtogpnkkoablmiaaBM13
import Derived.Test.YtogpnkkoablmiaaBM14
import Derived.Test.YtogpnkkoablmiaaBM15
import Derived.Test.YtogpnkkoablmiaaBM16
import Derived.Test.YtogpnkkoablmiaaBM17
import Derived.Test.YtogpnkkoablmiaaBM18
import Derived.Test.YtogpnkkoablmiaaBM19
import Derived.Test.YtogpnkkoablmiaaBM20
import Derived.Test.YtogpnkkoablmiaaBM21
import Derived.Test.YtogpnkkoablmiaaBM22
section
namespace Go.Proofs.Ytogpnkkoablmiaa.V
open Go.Proofs.Ytogpnkkoablmiaa.P Go.Shelf Go.RowKit Go.Lib Go.Sort Go.Proofs.Ytogpnkkoablmiaa.Q Go.Proofs.YtogpnkkoablmiaaW.PrintWords Go.Proofs.YtogpnkkoablmiaaW.PrintLast Go.Proofs.YtogpnkkoablmiaaW.PrintMore
set_option linter.unusedVariables false
set_option linter.unusedSimpArgs false
attribute [local go_sem high] eqA28
attribute [local go_sem] nzv_ne nzv_beq nzv_bne
attribute [local go_sem] Oper.semAt_some
theorem typed_of {w : World} {k : Nat} {E : List Nat} (hE : ∀ q ∈ E, q = 35 ∨ q = 89) (h : ∃ q, q ∈ E ∧ ∃ cells, w.heap[k]? = some (.cells cells q (0, 0))) : RowB w k := by
  obtain ⟨q, hq, cs, hc⟩ := h
  exact ⟨q, cs, hE q hq, hc⟩
theorem plain_typed (v : S35) (A4 : Option Addr) (c4 : Nat) (A5 : Option Addr) (c5 : Nat) (W : World) (hf : fewV v) (h : HasV v A4 c4 A5 c5 W) : Calls Try.prog 59 #[.agg #[.int .i64 v.f0, .int .i64 v.f1, .int .i64 v.f2, .string v.f3, .slice A4 v.f4.length c4, .slice A5 v.f5.length c5]] W fun e w' => ∃ a4 n4 a5 n5, e = .returned (.agg #[.int .i64 (plain v).f0, .int .i64 (plain v).f1, .int .i64 (plain v).f2, .string (plain v).f3, .slice a4 (plain v).f4.length n4, .slice a5 (plain v).f5.length n5]) ∧ FV (RowB w') (plain v) a4 n4 a5 n5 w' ∧ RowKit.Below W.heap.size W w' := by
  refine (plain59_all v A4 c4 A5 c5 W hf h.1 h.2.1 h.2.2.1 h.2.2.2).mono ?_
  rintro e w' ⟨v4, v5, rfl, r4, r5, hb⟩
  obtain ⟨a, n, rfl, h1, h2⟩ := Kd.V_mono (base := W.heap.size) (ok' := RowB w') (Kd.R_V (Kd.R_bound r4)) (fun k hk => typed_of (fun q hq => by rw [show (35 :: k35.E) = [35, 35, 89] from rfl] at hq; simpa using hq) hk.2.2.2)
  obtain ⟨a', n', rfl, h3, h4⟩ := Kd.V_mono (base := W.heap.size) (ok' := RowB w') (Kd.R_V (Kd.R_bound r5)) (fun k hk => typed_of (fun q hq => by rw [show (89 :: k89.E) = [89, 35, 89] from rfl] at hq; simp at hq; omega) hk.2.2.2)
  exact ⟨a, n, a', n', rfl, ⟨h1, h2, h3, h4⟩, hb⟩
def encC (x : Nat × RS) : Array Value := #[.agg #[.int .i64 x.1, .int .i64 x.2.x.f0, .bool (!x.2.x.f1), .int .i64 x.2.x.f2.f0, .int .i64 x.2.x.f2.f1, .int .i64 x.2.x.f2.f2, .string x.2.x.f2.f3, .slice x.2.a4 x.2.x.f2.f4.length x.2.c4, .slice x.2.a5 x.2.x.f2.f5.length x.2.c5]]
def strC (x : Nat × RS) : Nat × S69 := (x.1, x.2.x)
noncomputable def chgAt (s : WS) (n : Nat) : Bool := decide (n ≠ 0) && !(decide (n < s.base.length) && alikeS (s.now.getD n z69) (s.base.getD n z69))
noncomputable def chgs (s : WS) (k : Nat) : List (Nat × S69) := ((List.range k).filter (chgAt s)).map fun n => (n, plainS (s.now.getD n z69))
theorem chgs_succ (s : WS) (k : Nat) : chgs s (k + 1) = chgs s k ++ (if chgAt s k = true then [(k, plainS (s.now.getD k z69))] else []) := by
  unfold chgs
  rw [List.range_succ, List.filter_append, List.map_append]
  congr 1
  by_cases h : chgAt s k = true
  · simp [h]
  · simp [h]
theorem chgs_len (s : WS) (k : Nat) : (chgs s k).length ≤ k := by
  unfold chgs
  rw [List.length_map]
  refine Nat.le_trans (List.length_filter_le _ _) (by simp)
theorem chgs_mono (s : WS) {k m : Nat} (h : k ≤ m) : chgs s k <+: chgs s m := by
  induction h with
  | refl => exact List.prefix_refl _
  | step _ ih => rw [chgs_succ]; exact ih.trans (List.prefix_append _ _)
theorem abides_below {B : Nat} {J : List (Nat × RS) → World → Prop} (hJ : AbidesFrom B J) {pre : List (Nat × RS)} {A C : World} (h : J pre A) (hb : RowKit.Below A.heap.size A C) : J pre C :=
  hJ pre A C none h ⟨hb.os, hb.tape, hb.output, hb.size, fun k hk _ => hb.block k hk⟩ (fun r e => by cases e)
set_option maxHeartbeats 20000000 in
set_option maxRecDepth 100000 in
theorem others143 (b0 : Nat) (L : WL) (s : WS) (bx : Nat) (w : World) (h : WorkIs b0 L s w) (hl9 : L.rs.length ≤ 90000) (hfn : ∀ x ∈ s.now, fewV x.f2) (hfb : ∀ x ∈ s.base, fewV x.f2)
    (hbx : w.heap[bx]? = some (.cells #[.pointer (some ⟨L.wb, 0, none⟩)] 23 (0, 0))) :
    GoodSeq 143 #[.pointer (some ⟨bx, 0, none⟩)] encC (KeepU w.heap.size) (fun x W => FT x.2 W) (fun xs => xs.map strC = chgs s s.now.length) (fun _ => chgs s s.now.length ≠ []) 90000 w := by
  intro l J Jx W hbw hJ hJx hY hJ0
  show Calls Try.prog 143 #[.func (.yield l) #[] #[], .pointer (some ⟨bx, 0, none⟩)] W _
  have hu69 := Try.underlying69
  have hu67 := Try.underlying67
  have hu35 := Try.underlying35
  have hu46 := Try.underlying46
  have hu23 := Try.underlying23
  have hu120 := Try.underlying120
  have hu123 := Try.underlying123
  have H := Aside0.mk (h.below hbw)
  have HBX := Aside0.mk (blk_below hbx hbw)
  have HY := Aside0.mk hY
  have HJ := Aside0.mk hJ
  have HJ0 := Aside0.mk hJ0
  have HFN := Aside0.mk hfn
  have HFB := Aside0.mk hfb
  have HW := Aside0.mk hbw
  have HS := Aside0.mk h
  have HX := Aside0.mk hbx
  have HLN := Aside0.mk (h.len)
  obtain ⟨N, hN⟩ : ∃ N, N = L.rs.length := ⟨_, rfl⟩
  have HN := Aside0.mk hN
  have HMX := Aside0.mk (show N ≤ 90000 by omega)
  obtain ⟨NB, hNB⟩ : ∃ NB, NB = s.base.length := ⟨_, rfl⟩
  have HNB := Aside0.mk hNB
  obtain ⟨k0, -⟩ := (h.below hbw).box
  have kb := box0 (blk_below hbx hbw)
  rw [← hN] at k0
  have hlt := (h.below hbw).lt.1
  have hltb := blk_lt (blk_below hbx hbw)
  clear h hl9 hfn hfb hbx hbw hJ hY hJ0 hJx hN hNB
  go_enter Try.func143, Try.ntmps143
  go_wp2
  clear k0 kb hlt hltb
  go_loopw [11] (fun i wr => ∃ (k : Nat) (pre : List (Nat × RS)), k ≤ N ∧ i = .int .i64 k ∧ Aside0 (RowKit.Below w.heap.size w wr) ∧ Aside0 (J pre wr) ∧ Aside0 (pre.map strC = chgs s k)) (fun i _ => N - (intOf i).toNat)
  case atStart => exact ⟨0, [], Nat.zero_le _, rfl, HW, HJ0, ⟨rfl⟩⟩
  case round =>
    clear HW HJ0
    obtain ⟨k, pre, hk, rfl, HB, HPJ, HPS⟩ := hrel
    by_cases hlt : k < N
    · have H2 := Aside0.mk (HS.out.below HB.out)
      have HPL := Aside0.mk (show pre.length < 90000 from by
        have h1 := congrArg List.length HPS.out
        rw [List.length_map] at h1
        have h2 := chgs_len s k
        have := HMX.out
        omega)
      obtain ⟨y, hy, hyx, hym, s0, s1, s2, s3, s4, s5, s6, s7⟩ := H2.out.slot k (by have := HN.out; omega)
      have HYX := Aside0.mk hyx
      have HYF := Aside0.mk (H2.out.2.2.2.2.2.2.1 y hym)
      have HYM := Aside0.mk (show y.x ∈ s.now from by rw [← H2.out.2.2.2.2.2.1]; exact List.mem_map_of_mem hym)
      clear hy hyx hym
      have hwk : wrap64 ((k : Int) + 1) = (k : Int) + 1 := by have := HMX.out; unfold wrap64; omega
      have HWK := Aside0.mk hwk
      have hNm : N ≤ 9223372036854775807 := by have := HMX.out; omega
      clear hwk
      obtain ⟨⟨y0, y1, yv⟩, a4, c4, a5, c5⟩ := y
      simp only [] at s0 s1 s2 s3 s4 s5 s6 s7 HYX HYM
      have BX := Aside0.mk (blk_new wr (.cells #[.int .i64 y0, .bool y1, .int .i64 yv.f0, .int .i64 yv.f1, .int .i64 yv.f2, .string yv.f3, .slice a4 yv.f4.length c4, .slice a5 yv.f5.length c5] 69))
      have HB1 := Aside0.mk (below_alloc HB.out (.cells #[.int .i64 y0, .bool y1, .int .i64 yv.f0, .int .i64 yv.f1, .int .i64 yv.f2, .string yv.f3, .slice a4 yv.f4.length c4, .slice a5 yv.f5.length c5] 69))
      have HPJ1 := Aside0.mk (abides_below HJ.out HPJ.out (below_alloc (RowKit.Below.refl _ wr) (.cells #[.int .i64 y0, .bool y1, .int .i64 yv.f0, .int .i64 yv.f1, .int .i64 yv.f2, .string yv.f3, .slice a4 yv.f4.length c4, .slice a5 yv.f5.length c5] 69)))
      have HYV := Aside0.mk (show HasV yv a4 c4 a5 c5 (wr.alloc (.cells #[.int .i64 y0, .bool y1, .int .i64 yv.f0, .int .i64 yv.f1, .int .i64 yv.f2, .string yv.f3, .slice a4 yv.f4.length c4, .slice a5 yv.f5.length c5] 69)) from (HYF.out.below (below_alloc (RowKit.Below.refl _ wr) (.cells #[.int .i64 y0, .bool y1, .int .i64 yv.f0, .int .i64 yv.f1, .int .i64 yv.f2, .string yv.f3, .slice a4 yv.f4.length c4, .slice a5 yv.f5.length c5] 69))).has)
      have hszn : wr.heap.size < (wr.alloc (.cells #[.int .i64 y0, .bool y1, .int .i64 yv.f0, .int .i64 yv.f1, .int .i64 yv.f2, .string yv.f3, .slice a4 yv.f4.length c4, .slice a5 yv.f5.length c5] 69)).heap.size := by simp
      go_upto_region 3 with fail
      clear hNm s0 s1 s2 s3 s4 s5 s6 s7
      generalize hWr : wr.alloc _ = wn at *
      clear hWr HYF HPJ HB H2
      have H3 := Aside0.mk (HS.out.below HB1.out)
      have HKX := Aside0.mk (blk_below HX.out HB1.out)
      go_cut [39] (fun sv wc => ∃ c : Bool, sv = .bool c ∧ Aside0 (c = !chgAt s k) ∧ Aside0 (RowKit.Below wn.heap.size wn wc))
      case first =>
        obtain ⟨v0, v1, v2, v3, v4, v5, v6, v7⟩ := box8 BX.out
        have kb := box0 HKX.out
        obtain ⟨-, -, -, k3, -⟩ := H3.out.box
        rw [← HNB.out] at k3
        have hlb := H3.out.lt.1
        have hbl := blk_lt HKX.out
        by_cases hk0 : k = 0
        · have hA : ((k : Int) == 0) = true := by simp [hk0]
          have HC := Aside0.mk (show true = !chgAt s k from by unfold chgAt; simp [hk0])
          generalize L.aB = aB at *
          generalize L.cB = cB at *
          clear hk0
          refine start_ (n := 24) (S := (fun w' => w'.cell? ⟨wr.heap.size, 0, none⟩ = some (.int .i64 y0) ∧ w'.cell? ⟨wr.heap.size, 1, none⟩ = some (.bool y1) ∧ w'.cell? ⟨wr.heap.size, 2, none⟩ = some (.int .i64 yv.f0) ∧ w'.cell? ⟨wr.heap.size, 3, none⟩ = some (.int .i64 yv.f1) ∧ w'.cell? ⟨wr.heap.size, 4, none⟩ = some (.int .i64 yv.f2) ∧ w'.cell? ⟨wr.heap.size, 5, none⟩ = some (.string yv.f3) ∧ w'.cell? ⟨wr.heap.size, 6, none⟩ = some (.slice a4 yv.f4.length c4) ∧ w'.cell? ⟨wr.heap.size, 7, none⟩ = some (.slice a5 yv.f5.length c5) ∧ w'.cell? ⟨bx, 0, none⟩ = some (.pointer (some ⟨L.wb, 0, none⟩)) ∧ w'.cell? ⟨L.wb, 3, none⟩ = some (.slice aB NB cB))) (ds := [23]) #[false, false, false, false, false, false, false, false, false, false, false, false, false, false, false, false, false, false, false, false, false, false, false, false] (by kernel_rfl) rfl rfl (by refine ⟨?_, ?_, ?_, ?_, ?_, ?_, ?_, ?_, ?_, ?_⟩ <;> go_simp) (fun hHeld => ?_)
          have HH := Aside0.mk hHeld
          clear hHeld
          refine pure_ (i := 0) (N := some 16) (v := ?_) (a' := ?_) #[true, false, false, false, false, false, false, false, false, false, false, false, false, false, false, false, false, false, false, false, false, false, false, false] rfl rfl (by kernel_rfl) (fun _ _ _ h => h) (Or.inl ⟨by rfl, ?_⟩) ?_ ?_
          rotate_left
          · intro w'
            go_simp
            with_reducible rfl
          rotate_left
          · simp only [Act.put, List.setIfInBounds_toArray, List.set_cons_zero, List.set_cons_succ]
            rfl
          refine pure_ (i := 1) (N := some 17) (v := ?_) (a' := ?_) #[true, true, false, false, false, false, false, false, false, false, false, false, false, false, false, false, false, false, false, false, false, false, false, false] rfl rfl (by kernel_rfl) (fun _ _ _ h => h) (Or.inl ⟨by rfl, ?_⟩) ?_ ?_
          rotate_left
          · intro w'
            go_simp
            (try simp only [hA])
            with_reducible rfl
          rotate_left
          · simp only [Act.put, List.setIfInBounds_toArray, List.set_cons_zero, List.set_cons_succ]
            rfl
          refine pure_ (i := 2) (N := some 18) (v := ?_) (a' := ?_) #[true, true, true, false, false, false, false, false, false, false, false, false, false, false, false, false, false, false, false, false, false, false, false, false] rfl rfl (by kernel_rfl) (fun _ _ _ h => h) (Or.inl ⟨by rfl, ?_⟩) ?_ ?_
          rotate_left
          · intro w'
            go_simp
            with_reducible rfl
          rotate_left
          · simp only [Act.put, List.setIfInBounds_toArray, List.set_cons_zero, List.set_cons_succ]
            rfl
          refine pure_ (i := 3) (N := some 19) (v := undef) (a' := ?_) #[true, true, true, true, false, false, false, false, false, false, false, false, false, false, false, false, false, false, false, false, false, false, false, false] rfl rfl (by kernel_rfl) (fun _ _ _ h => h) (Or.inr ⟨by rfl, rfl⟩) ?_ ?_
          rotate_left
          · simp only [Act.put, List.setIfInBounds_toArray, List.set_cons_zero, List.set_cons_succ]
            rfl
          refine pure_ (i := 4) (N := some 20) (v := undef) (a' := ?_) #[true, true, true, true, true, false, false, false, false, false, false, false, false, false, false, false, false, false, false, false, false, false, false, false] rfl rfl (by kernel_rfl) (fun _ _ _ h => h) (Or.inr ⟨by rfl, rfl⟩) ?_ ?_
          rotate_left
          · simp only [Act.put, List.setIfInBounds_toArray, List.set_cons_zero, List.set_cons_succ]
            rfl
          refine pure_ (i := 5) (N := some 21) (v := undef) (a' := ?_) #[true, true, true, true, true, true, false, false, false, false, false, false, false, false, false, false, false, false, false, false, false, false, false, false] rfl rfl (by kernel_rfl) (fun _ _ _ h => h) (Or.inr ⟨by rfl, rfl⟩) ?_ ?_
          rotate_left
          · simp only [Act.put, List.setIfInBounds_toArray, List.set_cons_zero, List.set_cons_succ]
            rfl
          refine pure_ (i := 6) (N := some 22) (v := undef) (a' := ?_) #[true, true, true, true, true, true, true, false, false, false, false, false, false, false, false, false, false, false, false, false, false, false, false, false] rfl rfl (by kernel_rfl) (fun _ _ _ h => h) (Or.inr ⟨by rfl, rfl⟩) ?_ ?_
          rotate_left
          · simp only [Act.put, List.setIfInBounds_toArray, List.set_cons_zero, List.set_cons_succ]
            rfl
          refine pure_ (i := 7) (N := some 23) (v := undef) (a' := ?_) #[true, true, true, true, true, true, true, true, false, false, false, false, false, false, false, false, false, false, false, false, false, false, false, false] rfl rfl (by kernel_rfl) (fun _ _ _ h => h) (Or.inr ⟨by rfl, rfl⟩) ?_ ?_
          rotate_left
          · simp only [Act.put, List.setIfInBounds_toArray, List.set_cons_zero, List.set_cons_succ]
            rfl
          refine pure_ (i := 8) (N := some 24) (v := undef) (a' := ?_) #[true, true, true, true, true, true, true, true, true, false, false, false, false, false, false, false, false, false, false, false, false, false, false, false] rfl rfl (by kernel_rfl) (fun _ _ _ h => h) (Or.inr ⟨by rfl, rfl⟩) ?_ ?_
          rotate_left
          · simp only [Act.put, List.setIfInBounds_toArray, List.set_cons_zero, List.set_cons_succ]
            rfl
          refine pure_ (i := 9) (N := some 25) (v := undef) (a' := ?_) #[true, true, true, true, true, true, true, true, true, true, false, false, false, false, false, false, false, false, false, false, false, false, false, false] rfl rfl (by kernel_rfl) (fun _ _ _ h => h) (Or.inr ⟨by rfl, rfl⟩) ?_ ?_
          rotate_left
          · simp only [Act.put, List.setIfInBounds_toArray, List.set_cons_zero, List.set_cons_succ]
            rfl
          refine pure_ (i := 10) (N := some 26) (v := undef) (a' := ?_) #[true, true, true, true, true, true, true, true, true, true, true, false, false, false, false, false, false, false, false, false, false, false, false, false] rfl rfl (by kernel_rfl) (fun _ _ _ h => h) (Or.inr ⟨by rfl, rfl⟩) ?_ ?_
          rotate_left
          · simp only [Act.put, List.setIfInBounds_toArray, List.set_cons_zero, List.set_cons_succ]
            rfl
          refine pure_ (i := 11) (N := some 27) (v := undef) (a' := ?_) #[true, true, true, true, true, true, true, true, true, true, true, true, false, false, false, false, false, false, false, false, false, false, false, false] rfl rfl (by kernel_rfl) (fun _ _ _ h => h) (Or.inr ⟨by rfl, rfl⟩) ?_ ?_
          rotate_left
          · simp only [Act.put, List.setIfInBounds_toArray, List.set_cons_zero, List.set_cons_succ]
            rfl
          refine pure_ (i := 12) (N := some 28) (v := undef) (a' := ?_) #[true, true, true, true, true, true, true, true, true, true, true, true, true, false, false, false, false, false, false, false, false, false, false, false] rfl rfl (by kernel_rfl) (fun _ _ _ h => h) (Or.inr ⟨by rfl, rfl⟩) ?_ ?_
          rotate_left
          · simp only [Act.put, List.setIfInBounds_toArray, List.set_cons_zero, List.set_cons_succ]
            rfl
          refine pure_ (i := 13) (N := some 29) (v := undef) (a' := ?_) #[true, true, true, true, true, true, true, true, true, true, true, true, true, true, false, false, false, false, false, false, false, false, false, false] rfl rfl (by kernel_rfl) (fun _ _ _ h => h) (Or.inr ⟨by rfl, rfl⟩) ?_ ?_
          rotate_left
          · simp only [Act.put, List.setIfInBounds_toArray, List.set_cons_zero, List.set_cons_succ]
            rfl
          refine pure_ (i := 14) (N := some 30) (v := undef) (a' := ?_) #[true, true, true, true, true, true, true, true, true, true, true, true, true, true, true, false, false, false, false, false, false, false, false, false] rfl rfl (by kernel_rfl) (fun _ _ _ h => h) (Or.inr ⟨by rfl, rfl⟩) ?_ ?_
          rotate_left
          · simp only [Act.put, List.setIfInBounds_toArray, List.set_cons_zero, List.set_cons_succ]
            rfl
          refine pure_ (i := 15) (N := some 31) (v := undef) (a' := ?_) #[true, true, true, true, true, true, true, true, true, true, true, true, true, true, true, true, false, false, false, false, false, false, false, false] rfl rfl (by kernel_rfl) (fun _ _ _ h => h) (Or.inr ⟨by rfl, rfl⟩) ?_ ?_
          rotate_left
          · simp only [Act.put, List.setIfInBounds_toArray, List.set_cons_zero, List.set_cons_succ]
            rfl
          refine pure_ (i := 16) (N := some 32) (v := undef) (a' := ?_) #[true, true, true, true, true, true, true, true, true, true, true, true, true, true, true, true, true, false, false, false, false, false, false, false] rfl rfl (by kernel_rfl) (fun _ _ _ h => h) (Or.inr ⟨by rfl, rfl⟩) ?_ ?_
          rotate_left
          · simp only [Act.put, List.setIfInBounds_toArray, List.set_cons_zero, List.set_cons_succ]
            rfl
          refine pure_ (i := 17) (N := some 33) (v := undef) (a' := ?_) #[true, true, true, true, true, true, true, true, true, true, true, true, true, true, true, true, true, true, false, false, false, false, false, false] rfl rfl (by kernel_rfl) (fun _ _ _ h => h) (Or.inr ⟨by rfl, rfl⟩) ?_ ?_
          rotate_left
          · simp only [Act.put, List.setIfInBounds_toArray, List.set_cons_zero, List.set_cons_succ]
            rfl
          refine pure_ (i := 18) (N := some 34) (v := undef) (a' := ?_) #[true, true, true, true, true, true, true, true, true, true, true, true, true, true, true, true, true, true, true, false, false, false, false, false] rfl rfl (by kernel_rfl) (fun _ _ _ h => h) (Or.inr ⟨by rfl, rfl⟩) ?_ ?_
          rotate_left
          · simp only [Act.put, List.setIfInBounds_toArray, List.set_cons_zero, List.set_cons_succ]
            rfl
          refine pure_ (i := 19) (N := some 35) (v := undef) (a' := ?_) #[true, true, true, true, true, true, true, true, true, true, true, true, true, true, true, true, true, true, true, true, false, false, false, false] rfl rfl (by kernel_rfl) (fun _ _ _ h => h) (Or.inr ⟨by rfl, rfl⟩) ?_ ?_
          rotate_left
          · simp only [Act.put, List.setIfInBounds_toArray, List.set_cons_zero, List.set_cons_succ]
            rfl
          refine pure_ (i := 20) (N := some 36) (v := undef) (a' := ?_) #[true, true, true, true, true, true, true, true, true, true, true, true, true, true, true, true, true, true, true, true, true, false, false, false] rfl rfl (by kernel_rfl) (fun _ _ _ h => h) (Or.inr ⟨by rfl, rfl⟩) ?_ ?_
          rotate_left
          · simp only [Act.put, List.setIfInBounds_toArray, List.set_cons_zero, List.set_cons_succ]
            rfl
          refine pure_ (i := 21) (N := some 37) (v := undef) (a' := ?_) #[true, true, true, true, true, true, true, true, true, true, true, true, true, true, true, true, true, true, true, true, true, true, false, false] rfl rfl (by kernel_rfl) (fun _ _ _ h => h) (Or.inr ⟨by rfl, rfl⟩) ?_ ?_
          rotate_left
          · simp only [Act.put, List.setIfInBounds_toArray, List.set_cons_zero, List.set_cons_succ]
            rfl
          refine pure_ (i := 22) (N := some 38) (v := undef) (a' := ?_) #[true, true, true, true, true, true, true, true, true, true, true, true, true, true, true, true, true, true, true, true, true, true, true, false] rfl rfl (by kernel_rfl) (fun _ _ _ h => h) (Or.inr ⟨by rfl, rfl⟩) ?_ ?_
          rotate_left
          · simp only [Act.put, List.setIfInBounds_toArray, List.set_cons_zero, List.set_cons_succ]
            rfl
          refine chain_ [23] _ _ _ _ (⟨_, _, rfl, rfl, rfl⟩) (by kernel_rfl) (by decide) ?_
          go_wp2
          go_meet
          exact ⟨true, rfl, HC, ⟨(RowKit.Below.refl _ wn).drew⟩⟩
        · have hA : ((k : Int) == 0) = false := by simp [hk0]
          by_cases hkB : k < NB
          · have hB : decide ((k : Int) < (NB : Int)) = true := by simp [hkB]
            have hkb : k < s.base.length := by have := HNB.out; omega
            obtain ⟨ad, P4, p4, P5, p5, had, x0, x1, x2, x3, x4, x5, x6, x7, lp4, gp4, lp5, gp5⟩ := at_T69 (Kd.F_now H3.out.2.2.2.2.2.2.2.2.1) (k : Int) (by omega) (by omega)
            rw [had] at k3
            simp only [rd_T69, Int.toNat_natCast] at x0 x1 x2 x3 x4 x5 x6 x7 lp4 gp4 lp5 gp5
            have hNm : NB ≤ 9223372036854775807 := by rw [HNB.out]; exact (Kd.F_now H3.out.2.2.2.2.2.2.2.2.1).2.1
            have hgd : chgAt s k = !alikeS (s.now.getD k z69) (s.base.getD k z69) := by unfold chgAt; simp [hk0, hkb]
            rw [← HYX.out] at hgd
            have hbm := getD_mem s.base k hkb z69
            generalize s.base.getD k z69 = z at *
            have KA := Aside0.mk (fun (W2 : World) (hb : RowKit.Below wn.heap.size wn W2) => alike_calls144 ⟨y0, y1, yv⟩ z a4 c4 a5 c5 P4 p4 P5 p5 W2 (HFN.out _ HYM.out) (HFB.out _ hbm) (HYV.out.below hb) (HasV.below ⟨lp4, gp4, lp5, gp5⟩ hb))
            obtain ⟨r, hr⟩ : ∃ r, r = alikeS ⟨y0, y1, yv⟩ z := ⟨_, rfl⟩
            rw [← hr] at KA hgd
            have HC := Aside0.mk (show r = !chgAt s k from by rw [hgd]; simp)
            clear hgd hr hbm lp4 gp4 lp5 gp5 hkb had hk0
            generalize L.cB = cB at *
            refine start_ (n := 24) (S := (fun w' => w'.cell? ⟨wr.heap.size, 0, none⟩ = some (.int .i64 y0) ∧ w'.cell? ⟨wr.heap.size, 1, none⟩ = some (.bool y1) ∧ w'.cell? ⟨wr.heap.size, 2, none⟩ = some (.int .i64 yv.f0) ∧ w'.cell? ⟨wr.heap.size, 3, none⟩ = some (.int .i64 yv.f1) ∧ w'.cell? ⟨wr.heap.size, 4, none⟩ = some (.int .i64 yv.f2) ∧ w'.cell? ⟨wr.heap.size, 5, none⟩ = some (.string yv.f3) ∧ w'.cell? ⟨wr.heap.size, 6, none⟩ = some (.slice a4 yv.f4.length c4) ∧ w'.cell? ⟨wr.heap.size, 7, none⟩ = some (.slice a5 yv.f5.length c5) ∧ w'.cell? ⟨bx, 0, none⟩ = some (.pointer (some ⟨L.wb, 0, none⟩)) ∧ w'.cell? ⟨L.wb, 3, none⟩ = some (.slice (some ad) NB cB) ∧ w'.cell? (ad.add (k * 8)) = some (.int .i64 z.f0) ∧ w'.cell? ⟨(ad.add (k * 8)).block, (ad.add (k * 8)).off + 1, none⟩ = some (.bool z.f1) ∧ w'.cell? ⟨(ad.add (k * 8)).block, (ad.add (k * 8)).off + 2, none⟩ = some (.int .i64 z.f2.f0) ∧ w'.cell? ⟨(ad.add (k * 8)).block, (ad.add (k * 8)).off + 3, none⟩ = some (.int .i64 z.f2.f1) ∧ w'.cell? ⟨(ad.add (k * 8)).block, (ad.add (k * 8)).off + 4, none⟩ = some (.int .i64 z.f2.f2) ∧ w'.cell? ⟨(ad.add (k * 8)).block, (ad.add (k * 8)).off + 5, none⟩ = some (.string z.f2.f3) ∧ w'.cell? ⟨(ad.add (k * 8)).block, (ad.add (k * 8)).off + 6, none⟩ = some (.slice P4 z.f2.f4.length p4) ∧ w'.cell? ⟨(ad.add (k * 8)).block, (ad.add (k * 8)).off + 7, none⟩ = some (.slice P5 z.f2.f5.length p5))) (ds := [21, 22, 23]) #[false, false, false, false, false, false, false, false, false, false, false, false, false, false, false, false, false, false, false, false, false, false, false, false] (by kernel_rfl) rfl rfl (by refine ⟨?_, ?_, ?_, ?_, ?_, ?_, ?_, ?_, ?_, ?_, ?_, ?_, ?_, ?_, ?_, ?_, ?_, ?_⟩ <;> go_simp) (fun hHeld => ?_)
            have HH := Aside0.mk hHeld
            clear hHeld
            refine pure_ (i := 0) (N := some 16) (v := ?_) (a' := ?_) #[true, false, false, false, false, false, false, false, false, false, false, false, false, false, false, false, false, false, false, false, false, false, false, false] rfl rfl (by kernel_rfl) (fun _ _ _ h => h) (Or.inl ⟨by rfl, ?_⟩) ?_ ?_
            rotate_left
            · intro w'
              go_simp
              with_reducible rfl
            rotate_left
            · simp only [Act.put, List.setIfInBounds_toArray, List.set_cons_zero, List.set_cons_succ]
              rfl
            refine pure_ (i := 1) (N := some 17) (v := ?_) (a' := ?_) #[true, true, false, false, false, false, false, false, false, false, false, false, false, false, false, false, false, false, false, false, false, false, false, false] rfl rfl (by kernel_rfl) (fun _ _ _ h => h) (Or.inl ⟨by rfl, ?_⟩) ?_ ?_
            rotate_left
            · intro w'
              go_simp
              (try simp only [hA])
              with_reducible rfl
            rotate_left
            · simp only [Act.put, List.setIfInBounds_toArray, List.set_cons_zero, List.set_cons_succ]
              rfl
            refine pure_ (i := 2) (N := some 18) (v := ?_) (a' := ?_) #[true, true, true, false, false, false, false, false, false, false, false, false, false, false, false, false, false, false, false, false, false, false, false, false] rfl rfl (by kernel_rfl) (fun _ _ _ h => h) (Or.inl ⟨by rfl, ?_⟩) ?_ ?_
            rotate_left
            · intro w'
              go_simp
              with_reducible rfl
            rotate_left
            · simp only [Act.put, List.setIfInBounds_toArray, List.set_cons_zero, List.set_cons_succ]
              rfl
            refine pure_ (i := 3) (N := some 19) (v := ?_) (a' := ?_) #[true, true, true, true, false, false, false, false, false, false, false, false, false, false, false, false, false, false, false, false, false, false, false, false] rfl rfl (by kernel_rfl) (fun _ _ _ h => h) (Or.inl ⟨by rfl, ?_⟩) ?_ ?_
            rotate_left
            · intro w'
              go_simp
              with_reducible rfl
            rotate_left
            · simp only [Act.put, List.setIfInBounds_toArray, List.set_cons_zero, List.set_cons_succ]
              rfl
            refine take_ (i := 4) (N := some 20) (v := ?_) (a' := ?_) #[true, true, true, true, true, false, false, false, false, false, false, false, false, false, false, false, false, false, false, false, false, false, false, false] rfl rfl (by kernel_rfl) (fun _ _ _ h => h) (Or.inl ⟨by rfl, ?_⟩) HH.out ?_ ?_
            rotate_left
            · intro w' hSw
              (try dsimp only at hSw)
              go_split_ands
              go_simp
              with_reducible rfl
            rotate_left
            · simp only [Act.put, List.setIfInBounds_toArray, List.set_cons_zero, List.set_cons_succ]
              rfl
            refine pure_ (i := 5) (N := some 21) (v := ?_) (a' := ?_) #[true, true, true, true, true, true, false, false, false, false, false, false, false, false, false, false, false, false, false, false, false, false, false, false] rfl rfl (by kernel_rfl) (fun _ _ _ h => h) (Or.inl ⟨by rfl, ?_⟩) ?_ ?_
            rotate_left
            · intro w'
              go_simp
              with_reducible rfl
            rotate_left
            · simp only [Act.put, List.setIfInBounds_toArray, List.set_cons_zero, List.set_cons_succ]
              rfl
            refine pure_ (i := 6) (N := some 22) (v := ?_) (a' := ?_) #[true, true, true, true, true, true, true, false, false, false, false, false, false, false, false, false, false, false, false, false, false, false, false, false] rfl rfl (by kernel_rfl) (fun _ _ _ h => h) (Or.inl ⟨by rfl, ?_⟩) ?_ ?_
            rotate_left
            · intro w'
              go_simp
              with_reducible rfl
            rotate_left
            · simp only [Act.put, List.setIfInBounds_toArray, List.set_cons_zero, List.set_cons_succ]
              rfl
            refine pure_ (i := 7) (N := some 23) (v := ?_) (a' := ?_) #[true, true, true, true, true, true, true, true, false, false, false, false, false, false, false, false, false, false, false, false, false, false, false, false] rfl rfl (by kernel_rfl) (fun _ _ _ h => h) (Or.inl ⟨by rfl, ?_⟩) ?_ ?_
            rotate_left
            · intro w'
              go_simp
              with_reducible rfl
            rotate_left
            · simp only [Act.put, List.setIfInBounds_toArray, List.set_cons_zero, List.set_cons_succ]
              rfl
            refine take_ (i := 8) (N := some 24) (v := ?_) (a' := ?_) #[true, true, true, true, true, true, true, true, true, false, false, false, false, false, false, false, false, false, false, false, false, false, false, false] rfl rfl (by kernel_rfl) (fun _ _ _ h => h) (Or.inl ⟨by rfl, ?_⟩) HH.out ?_ ?_
            rotate_left
            · intro w' hSw
              (try dsimp only at hSw)
              go_split_ands
              go_simp
              with_reducible rfl
            rotate_left
            · simp only [Act.put, List.setIfInBounds_toArray, List.set_cons_zero, List.set_cons_succ]
              rfl
            refine pure_ (i := 9) (N := some 25) (v := ?_) (a' := ?_) #[true, true, true, true, true, true, true, true, true, true, false, false, false, false, false, false, false, false, false, false, false, false, false, false] rfl rfl (by kernel_rfl) (fun _ _ _ h => h) (Or.inl ⟨by rfl, ?_⟩) ?_ ?_
            rotate_left
            · intro w'
              go_simp
              with_reducible rfl
            rotate_left
            · simp only [Act.put, List.setIfInBounds_toArray, List.set_cons_zero, List.set_cons_succ]
              rfl
            refine pure_ (i := 10) (N := some 26) (v := ?_) (a' := ?_) #[true, true, true, true, true, true, true, true, true, true, true, false, false, false, false, false, false, false, false, false, false, false, false, false] rfl rfl (by kernel_rfl) (fun _ _ _ h => h) (Or.inl ⟨by rfl, ?_⟩) ?_ ?_
            rotate_left
            · intro w'
              go_simp
              (try simp only [hB])
              with_reducible rfl
            rotate_left
            · simp only [Act.put, List.setIfInBounds_toArray, List.set_cons_zero, List.set_cons_succ]
              rfl
            refine pure_ (i := 11) (N := some 27) (v := ?_) (a' := ?_) #[true, true, true, true, true, true, true, true, true, true, true, true, false, false, false, false, false, false, false, false, false, false, false, false] rfl rfl (by kernel_rfl) (fun _ _ _ h => h) (Or.inl ⟨by rfl, ?_⟩) ?_ ?_
            rotate_left
            · intro w'
              go_simp
              with_reducible rfl
            rotate_left
            · simp only [Act.put, List.setIfInBounds_toArray, List.set_cons_zero, List.set_cons_succ]
              rfl
            refine take_ (i := 12) (N := some 28) (v := ?_) (a' := ?_) #[true, true, true, true, true, true, true, true, true, true, true, true, true, false, false, false, false, false, false, false, false, false, false, false] rfl rfl (by kernel_rfl) (fun _ _ _ h => h) (Or.inl ⟨by rfl, ?_⟩) HH.out ?_ ?_
            rotate_left
            · intro w' hSw
              (try dsimp only at hSw)
              go_split_ands
              go_simp
              with_reducible rfl
            rotate_left
            · simp only [Act.put, List.setIfInBounds_toArray, List.set_cons_zero, List.set_cons_succ]
              rfl
            refine take_ (i := 13) (N := some 29) (v := ?_) (a' := ?_) #[true, true, true, true, true, true, true, true, true, true, true, true, true, true, false, false, false, false, false, false, false, false, false, false] rfl rfl (by kernel_rfl) (fun _ _ _ h => h) (Or.inl ⟨by rfl, ?_⟩) HH.out ?_ ?_
            rotate_left
            · intro w' hSw
              (try dsimp only at hSw)
              go_split_ands
              go_simp
              with_reducible rfl
            rotate_left
            · simp only [Act.put, List.setIfInBounds_toArray, List.set_cons_zero, List.set_cons_succ]
              rfl
            refine pure_ (i := 14) (N := some 30) (v := ?_) (a' := ?_) #[true, true, true, true, true, true, true, true, true, true, true, true, true, true, true, false, false, false, false, false, false, false, false, false] rfl rfl (by kernel_rfl) (fun _ _ _ h => h) (Or.inl ⟨by rfl, ?_⟩) ?_ ?_
            rotate_left
            · intro w'
              go_simp
              with_reducible rfl
            rotate_left
            · simp only [Act.put, List.setIfInBounds_toArray, List.set_cons_zero, List.set_cons_succ]
              rfl
            refine pure_ (i := 15) (N := some 31) (v := ?_) (a' := ?_) #[true, true, true, true, true, true, true, true, true, true, true, true, true, true, true, true, false, false, false, false, false, false, false, false] rfl rfl (by kernel_rfl) (fun _ _ _ h => h) (Or.inl ⟨by rfl, ?_⟩) ?_ ?_
            rotate_left
            · intro w'
              go_simp
              with_reducible rfl
            rotate_left
            · simp only [Act.put, List.setIfInBounds_toArray, List.set_cons_zero, List.set_cons_succ]
              rfl
            refine pure_ (i := 16) (N := some 32) (v := ?_) (a' := ?_) #[true, true, true, true, true, true, true, true, true, true, true, true, true, true, true, true, true, false, false, false, false, false, false, false] rfl rfl (by kernel_rfl) (fun _ _ _ h => h) (Or.inl ⟨by rfl, ?_⟩) ?_ ?_
            rotate_left
            · intro w'
              go_simp
              with_reducible rfl
            rotate_left
            · simp only [Act.put, List.setIfInBounds_toArray, List.set_cons_zero, List.set_cons_succ]
              rfl
            refine take_ (i := 17) (N := some 33) (v := ?_) (a' := ?_) #[true, true, true, true, true, true, true, true, true, true, true, true, true, true, true, true, true, true, false, false, false, false, false, false] rfl rfl (by kernel_rfl) (fun _ _ _ h => h) (Or.inl ⟨by rfl, ?_⟩) HH.out ?_ ?_
            rotate_left
            · intro w' hSw
              (try dsimp only at hSw)
              go_split_ands
              go_simp
              with_reducible rfl
            rotate_left
            · simp only [Act.put, List.setIfInBounds_toArray, List.set_cons_zero, List.set_cons_succ]
              rfl
            refine pure_ (i := 18) (N := some 34) (v := ?_) (a' := ?_) #[true, true, true, true, true, true, true, true, true, true, true, true, true, true, true, true, true, true, true, false, false, false, false, false] rfl rfl (by kernel_rfl) (fun _ _ _ h => h) (Or.inl ⟨by rfl, ?_⟩) ?_ ?_
            rotate_left
            · intro w'
              go_simp
              with_reducible rfl
            rotate_left
            · simp only [Act.put, List.setIfInBounds_toArray, List.set_cons_zero, List.set_cons_succ]
              rfl
            refine pure_ (i := 19) (N := some 35) (v := ?_) (a' := ?_) #[true, true, true, true, true, true, true, true, true, true, true, true, true, true, true, true, true, true, true, true, false, false, false, false] rfl rfl (by kernel_rfl) (fun _ _ _ h => h) (Or.inl ⟨by rfl, ?_⟩) ?_ ?_
            rotate_left
            · intro w'
              go_simp
              with_reducible rfl
            rotate_left
            · simp only [Act.put, List.setIfInBounds_toArray, List.set_cons_zero, List.set_cons_succ]
              rfl
            refine take_ (i := 20) (N := some 36) (v := ?_) (a' := ?_) #[true, true, true, true, true, true, true, true, true, true, true, true, true, true, true, true, true, true, true, true, true, false, false, false] rfl rfl (by kernel_rfl) (fun _ _ _ h => h) (Or.inl ⟨by rfl, ?_⟩) HH.out ?_ ?_
            rotate_left
            · intro w' hSw
              (try dsimp only at hSw)
              go_split_ands
              go_simp
              with_reducible rfl
            rotate_left
            · simp only [Act.put, List.setIfInBounds_toArray, List.set_cons_zero, List.set_cons_succ]
              rfl
            refine chain_ [21, 22, 23] _ _ _ _ (⟨_, _, rfl, rfl, ⟨_, _, rfl, rfl, ⟨_, _, rfl, rfl, rfl⟩⟩⟩) (by kernel_rfl) (by decide) ?_
            go_wp2_with fail
            refine Calls.mono (KA.out _ (RowKit.Below.refl _ wn).drew) ?_
            rintro e w3 ⟨rfl, hb⟩
            have HB3 := Aside0.mk ((RowKit.Below.refl _ wn).drew.trans hb)
            clear hb
            go_wp2
            go_meet
            exact ⟨r, rfl, HC, HB3⟩
          · have hB : decide ((k : Int) < (NB : Int)) = false := by simp; omega
            have HC := Aside0.mk (show false = !chgAt s k from by have := HNB.out; unfold chgAt; simp [hk0]; omega)
            generalize L.aB = aB at *
            generalize L.cB = cB at *
            clear hk0
            refine start_ (n := 24) (S := (fun w' => w'.cell? ⟨wr.heap.size, 0, none⟩ = some (.int .i64 y0) ∧ w'.cell? ⟨wr.heap.size, 1, none⟩ = some (.bool y1) ∧ w'.cell? ⟨wr.heap.size, 2, none⟩ = some (.int .i64 yv.f0) ∧ w'.cell? ⟨wr.heap.size, 3, none⟩ = some (.int .i64 yv.f1) ∧ w'.cell? ⟨wr.heap.size, 4, none⟩ = some (.int .i64 yv.f2) ∧ w'.cell? ⟨wr.heap.size, 5, none⟩ = some (.string yv.f3) ∧ w'.cell? ⟨wr.heap.size, 6, none⟩ = some (.slice a4 yv.f4.length c4) ∧ w'.cell? ⟨wr.heap.size, 7, none⟩ = some (.slice a5 yv.f5.length c5) ∧ w'.cell? ⟨bx, 0, none⟩ = some (.pointer (some ⟨L.wb, 0, none⟩)) ∧ w'.cell? ⟨L.wb, 3, none⟩ = some (.slice aB NB cB))) (ds := [23]) #[false, false, false, false, false, false, false, false, false, false, false, false, false, false, false, false, false, false, false, false, false, false, false, false] (by kernel_rfl) rfl rfl (by refine ⟨?_, ?_, ?_, ?_, ?_, ?_, ?_, ?_, ?_, ?_⟩ <;> go_simp) (fun hHeld => ?_)
            have HH := Aside0.mk hHeld
            clear hHeld
            refine pure_ (i := 0) (N := some 16) (v := ?_) (a' := ?_) #[true, false, false, false, false, false, false, false, false, false, false, false, false, false, false, false, false, false, false, false, false, false, false, false] rfl rfl (by kernel_rfl) (fun _ _ _ h => h) (Or.inl ⟨by rfl, ?_⟩) ?_ ?_
            rotate_left
            · intro w'
              go_simp
              with_reducible rfl
            rotate_left
            · simp only [Act.put, List.setIfInBounds_toArray, List.set_cons_zero, List.set_cons_succ]
              rfl
            refine pure_ (i := 1) (N := some 17) (v := ?_) (a' := ?_) #[true, true, false, false, false, false, false, false, false, false, false, false, false, false, false, false, false, false, false, false, false, false, false, false] rfl rfl (by kernel_rfl) (fun _ _ _ h => h) (Or.inl ⟨by rfl, ?_⟩) ?_ ?_
            rotate_left
            · intro w'
              go_simp
              (try simp only [hA])
              with_reducible rfl
            rotate_left
            · simp only [Act.put, List.setIfInBounds_toArray, List.set_cons_zero, List.set_cons_succ]
              rfl
            refine pure_ (i := 2) (N := some 18) (v := ?_) (a' := ?_) #[true, true, true, false, false, false, false, false, false, false, false, false, false, false, false, false, false, false, false, false, false, false, false, false] rfl rfl (by kernel_rfl) (fun _ _ _ h => h) (Or.inl ⟨by rfl, ?_⟩) ?_ ?_
            rotate_left
            · intro w'
              go_simp
              with_reducible rfl
            rotate_left
            · simp only [Act.put, List.setIfInBounds_toArray, List.set_cons_zero, List.set_cons_succ]
              rfl
            refine pure_ (i := 3) (N := some 19) (v := ?_) (a' := ?_) #[true, true, true, true, false, false, false, false, false, false, false, false, false, false, false, false, false, false, false, false, false, false, false, false] rfl rfl (by kernel_rfl) (fun _ _ _ h => h) (Or.inl ⟨by rfl, ?_⟩) ?_ ?_
            rotate_left
            · intro w'
              go_simp
              with_reducible rfl
            rotate_left
            · simp only [Act.put, List.setIfInBounds_toArray, List.set_cons_zero, List.set_cons_succ]
              rfl
            refine take_ (i := 4) (N := some 20) (v := ?_) (a' := ?_) #[true, true, true, true, true, false, false, false, false, false, false, false, false, false, false, false, false, false, false, false, false, false, false, false] rfl rfl (by kernel_rfl) (fun _ _ _ h => h) (Or.inl ⟨by rfl, ?_⟩) HH.out ?_ ?_
            rotate_left
            · intro w' hSw
              (try dsimp only at hSw)
              go_split_ands
              go_simp
              with_reducible rfl
            rotate_left
            · simp only [Act.put, List.setIfInBounds_toArray, List.set_cons_zero, List.set_cons_succ]
              rfl
            refine pure_ (i := 5) (N := some 21) (v := ?_) (a' := ?_) #[true, true, true, true, true, true, false, false, false, false, false, false, false, false, false, false, false, false, false, false, false, false, false, false] rfl rfl (by kernel_rfl) (fun _ _ _ h => h) (Or.inl ⟨by rfl, ?_⟩) ?_ ?_
            rotate_left
            · intro w'
              go_simp
              with_reducible rfl
            rotate_left
            · simp only [Act.put, List.setIfInBounds_toArray, List.set_cons_zero, List.set_cons_succ]
              rfl
            refine pure_ (i := 6) (N := some 22) (v := ?_) (a' := ?_) #[true, true, true, true, true, true, true, false, false, false, false, false, false, false, false, false, false, false, false, false, false, false, false, false] rfl rfl (by kernel_rfl) (fun _ _ _ h => h) (Or.inl ⟨by rfl, ?_⟩) ?_ ?_
            rotate_left
            · intro w'
              go_simp
              with_reducible rfl
            rotate_left
            · simp only [Act.put, List.setIfInBounds_toArray, List.set_cons_zero, List.set_cons_succ]
              rfl
            refine pure_ (i := 7) (N := some 23) (v := ?_) (a' := ?_) #[true, true, true, true, true, true, true, true, false, false, false, false, false, false, false, false, false, false, false, false, false, false, false, false] rfl rfl (by kernel_rfl) (fun _ _ _ h => h) (Or.inl ⟨by rfl, ?_⟩) ?_ ?_
            rotate_left
            · intro w'
              go_simp
              with_reducible rfl
            rotate_left
            · simp only [Act.put, List.setIfInBounds_toArray, List.set_cons_zero, List.set_cons_succ]
              rfl
            refine take_ (i := 8) (N := some 24) (v := ?_) (a' := ?_) #[true, true, true, true, true, true, true, true, true, false, false, false, false, false, false, false, false, false, false, false, false, false, false, false] rfl rfl (by kernel_rfl) (fun _ _ _ h => h) (Or.inl ⟨by rfl, ?_⟩) HH.out ?_ ?_
            rotate_left
            · intro w' hSw
              (try dsimp only at hSw)
              go_split_ands
              go_simp
              with_reducible rfl
            rotate_left
            · simp only [Act.put, List.setIfInBounds_toArray, List.set_cons_zero, List.set_cons_succ]
              rfl
            refine pure_ (i := 9) (N := some 25) (v := ?_) (a' := ?_) #[true, true, true, true, true, true, true, true, true, true, false, false, false, false, false, false, false, false, false, false, false, false, false, false] rfl rfl (by kernel_rfl) (fun _ _ _ h => h) (Or.inl ⟨by rfl, ?_⟩) ?_ ?_
            rotate_left
            · intro w'
              go_simp
              with_reducible rfl
            rotate_left
            · simp only [Act.put, List.setIfInBounds_toArray, List.set_cons_zero, List.set_cons_succ]
              rfl
            refine pure_ (i := 10) (N := some 26) (v := ?_) (a' := ?_) #[true, true, true, true, true, true, true, true, true, true, true, false, false, false, false, false, false, false, false, false, false, false, false, false] rfl rfl (by kernel_rfl) (fun _ _ _ h => h) (Or.inl ⟨by rfl, ?_⟩) ?_ ?_
            rotate_left
            · intro w'
              go_simp
              (try simp only [hB])
              with_reducible rfl
            rotate_left
            · simp only [Act.put, List.setIfInBounds_toArray, List.set_cons_zero, List.set_cons_succ]
              rfl
            refine pure_ (i := 11) (N := some 27) (v := ?_) (a' := ?_) #[true, true, true, true, true, true, true, true, true, true, true, true, false, false, false, false, false, false, false, false, false, false, false, false] rfl rfl (by kernel_rfl) (fun _ _ _ h => h) (Or.inl ⟨by rfl, ?_⟩) ?_ ?_
            rotate_left
            · intro w'
              go_simp
              with_reducible rfl
            rotate_left
            · simp only [Act.put, List.setIfInBounds_toArray, List.set_cons_zero, List.set_cons_succ]
              rfl
            refine pure_ (i := 12) (N := some 28) (v := undef) (a' := ?_) #[true, true, true, true, true, true, true, true, true, true, true, true, true, false, false, false, false, false, false, false, false, false, false, false] rfl rfl (by kernel_rfl) (fun _ _ _ h => h) (Or.inr ⟨by rfl, rfl⟩) ?_ ?_
            rotate_left
            · simp only [Act.put, List.setIfInBounds_toArray, List.set_cons_zero, List.set_cons_succ]
              rfl
            refine pure_ (i := 13) (N := some 29) (v := undef) (a' := ?_) #[true, true, true, true, true, true, true, true, true, true, true, true, true, true, false, false, false, false, false, false, false, false, false, false] rfl rfl (by kernel_rfl) (fun _ _ _ h => h) (Or.inr ⟨by rfl, rfl⟩) ?_ ?_
            rotate_left
            · simp only [Act.put, List.setIfInBounds_toArray, List.set_cons_zero, List.set_cons_succ]
              rfl
            refine pure_ (i := 14) (N := some 30) (v := undef) (a' := ?_) #[true, true, true, true, true, true, true, true, true, true, true, true, true, true, true, false, false, false, false, false, false, false, false, false] rfl rfl (by kernel_rfl) (fun _ _ _ h => h) (Or.inr ⟨by rfl, rfl⟩) ?_ ?_
            rotate_left
            · simp only [Act.put, List.setIfInBounds_toArray, List.set_cons_zero, List.set_cons_succ]
              rfl
            refine pure_ (i := 15) (N := some 31) (v := undef) (a' := ?_) #[true, true, true, true, true, true, true, true, true, true, true, true, true, true, true, true, false, false, false, false, false, false, false, false] rfl rfl (by kernel_rfl) (fun _ _ _ h => h) (Or.inr ⟨by rfl, rfl⟩) ?_ ?_
            rotate_left
            · simp only [Act.put, List.setIfInBounds_toArray, List.set_cons_zero, List.set_cons_succ]
              rfl
            refine pure_ (i := 16) (N := some 32) (v := undef) (a' := ?_) #[true, true, true, true, true, true, true, true, true, true, true, true, true, true, true, true, true, false, false, false, false, false, false, false] rfl rfl (by kernel_rfl) (fun _ _ _ h => h) (Or.inr ⟨by rfl, rfl⟩) ?_ ?_
            rotate_left
            · simp only [Act.put, List.setIfInBounds_toArray, List.set_cons_zero, List.set_cons_succ]
              rfl
            refine pure_ (i := 17) (N := some 33) (v := undef) (a' := ?_) #[true, true, true, true, true, true, true, true, true, true, true, true, true, true, true, true, true, true, false, false, false, false, false, false] rfl rfl (by kernel_rfl) (fun _ _ _ h => h) (Or.inr ⟨by rfl, rfl⟩) ?_ ?_
            rotate_left
            · simp only [Act.put, List.setIfInBounds_toArray, List.set_cons_zero, List.set_cons_succ]
              rfl
            refine pure_ (i := 18) (N := some 34) (v := undef) (a' := ?_) #[true, true, true, true, true, true, true, true, true, true, true, true, true, true, true, true, true, true, true, false, false, false, false, false] rfl rfl (by kernel_rfl) (fun _ _ _ h => h) (Or.inr ⟨by rfl, rfl⟩) ?_ ?_
            rotate_left
            · simp only [Act.put, List.setIfInBounds_toArray, List.set_cons_zero, List.set_cons_succ]
              rfl
            refine pure_ (i := 19) (N := some 35) (v := undef) (a' := ?_) #[true, true, true, true, true, true, true, true, true, true, true, true, true, true, true, true, true, true, true, true, false, false, false, false] rfl rfl (by kernel_rfl) (fun _ _ _ h => h) (Or.inr ⟨by rfl, rfl⟩) ?_ ?_
            rotate_left
            · simp only [Act.put, List.setIfInBounds_toArray, List.set_cons_zero, List.set_cons_succ]
              rfl
            refine pure_ (i := 20) (N := some 36) (v := undef) (a' := ?_) #[true, true, true, true, true, true, true, true, true, true, true, true, true, true, true, true, true, true, true, true, true, false, false, false] rfl rfl (by kernel_rfl) (fun _ _ _ h => h) (Or.inr ⟨by rfl, rfl⟩) ?_ ?_
            rotate_left
            · simp only [Act.put, List.setIfInBounds_toArray, List.set_cons_zero, List.set_cons_succ]
              rfl
            refine pure_ (i := 21) (N := some 37) (v := undef) (a' := ?_) #[true, true, true, true, true, true, true, true, true, true, true, true, true, true, true, true, true, true, true, true, true, true, false, false] rfl rfl (by kernel_rfl) (fun _ _ _ h => h) (Or.inr ⟨by rfl, rfl⟩) ?_ ?_
            rotate_left
            · simp only [Act.put, List.setIfInBounds_toArray, List.set_cons_zero, List.set_cons_succ]
              rfl
            refine pure_ (i := 22) (N := some 38) (v := ?_) (a' := ?_) #[true, true, true, true, true, true, true, true, true, true, true, true, true, true, true, true, true, true, true, true, true, true, true, false] rfl rfl (by kernel_rfl) (fun _ _ _ h => h) (Or.inl ⟨by rfl, ?_⟩) ?_ ?_
            rotate_left
            · intro w'
              go_simp
              with_reducible rfl
            rotate_left
            · simp only [Act.put, List.setIfInBounds_toArray, List.set_cons_zero, List.set_cons_succ]
              rfl
            refine chain_ [23] _ _ _ _ (⟨_, _, rfl, rfl, rfl⟩) (by kernel_rfl) (by decide) ?_
            go_wp2
            go_meet
            exact ⟨false, rfl, HC, ⟨(RowKit.Below.refl _ wn).drew⟩⟩
      case' rest => obtain ⟨c, rfl, HC, HBC0⟩ := hcut
      cases c
      case true =>
        have hch : chgAt s k = false := by have := HC.out; revert this; cases chgAt s k <;> simp
        have HPS1 := Aside0.mk (show pre.map strC = chgs s (k + 1) from by rw [chgs_succ, hch]; simpa using HPS.out)
        have HPJ2 := Aside0.mk (abides_below HJ.out HPJ1.out HBC0.out)
        have HBn := Aside0.mk (HB1.out.trans (HBC0.out.mono HB1.out.size))
        clear hch
        go_wp2
        exact ⟨⟨k + 1, pre, by omega, by first | (rw [HWK.out]; simp; done) | (simp; done), HBn, HPJ2, HPS1⟩, by first | (rw [HWK.out]; simp [intOf]; omega) | (simp [intOf]; omega)⟩
      case false =>
        have hch : chgAt s k = true := by have := HC.out; revert this; cases chgAt s k <;> simp
        have HCH := Aside0.mk hch
        have HPJ2 := Aside0.mk (abides_below HJ.out HPJ1.out HBC0.out)
        have HBC := Aside0.mk (HB1.out.trans (HBC0.out.mono HB1.out.size))
        have BXC := Aside0.mk (blk_below BX.out HBC0.out)
        have KP := Aside0.mk (fun (W2 : World) (hb : RowKit.Below wc.heap.size wc W2) => plain_typed yv a4 c4 a5 c5 W2 (HFN.out _ HYM.out) ((HYV.out.below HBC0.out).below hb))
        clear hch HPJ1 HYV
        go_upto_region 4 with fail
        go_cut [52] (fun sv wd => ∃ c : Bool, sv = .bool c ∧ Aside0 (c = false → ∃ y : RS, y.x = plainS (s.now.getD k z69) ∧ J (pre ++ [(k, y)]) wd ∧ RowKit.Below w.heap.size w wd) ∧ Aside0 (c = true → ∃ pre', Jx pre' wd))
        case first =>
          obtain ⟨u0, u1, u2, u3, u4, u5, u6, u7⟩ := box8 (blk_drew BXC.out)
          refine (wpIn_wide (n := 1)).1 ?_
          refine wpIn_region_any (by kernel_rfl) (?_ : wpAnyIn _ _ _ _ _ _ 13 (Array.replicate 13 false) _ (World.drew _))
          refine wpAnyIn_take (i := 0) (v := ?_) rfl rfl (by kernel_rfl) (by kernel_rfl) (by kernel_rfl) (fun _ _ _ h => h) ⟨Or.inl ⟨by rfl, ?_⟩, fun _ => rfl⟩ ?_
          rotate_left
          · intro w'
            go_simp
            with_reducible rfl
          (try simp only [Act.put, List.setIfInBounds_toArray, List.set_cons_zero, List.set_cons_succ])
          refine wpAnyIn_take (i := 1) (v := ?_) rfl rfl (by kernel_rfl) (by kernel_rfl) (by kernel_rfl) (fun _ _ _ h => h) ⟨Or.inl ⟨by rfl, ?_⟩, fun _ => rfl⟩ ?_
          rotate_left
          · intro w'
            go_simp
            with_reducible rfl
          (try simp only [Act.put, List.setIfInBounds_toArray, List.set_cons_zero, List.set_cons_succ])
          refine wpAnyIn_take (i := 2) (v := ?_) rfl rfl (by kernel_rfl) (by kernel_rfl) (by kernel_rfl) (fun _ _ _ h => h) ⟨Or.inl ⟨by rfl, ?_⟩, fun _ => rfl⟩ ?_
          rotate_left
          · intro w'
            go_simp
            with_reducible rfl
          (try simp only [Act.put, List.setIfInBounds_toArray, List.set_cons_zero, List.set_cons_succ])
          refine wpAnyIn_take (i := 4) (v := ?_) rfl rfl (by kernel_rfl) (by kernel_rfl) (by kernel_rfl) (fun _ _ _ h => h) ⟨Or.inl ⟨by rfl, ?_⟩, fun _ => rfl⟩ ?_
          rotate_left
          · intro w'
            go_simp
            with_reducible rfl
          (try simp only [Act.put, List.setIfInBounds_toArray, List.set_cons_zero, List.set_cons_succ])
          refine wpAnyIn_take (i := 7) (v := ?_) rfl rfl (by kernel_rfl) (by kernel_rfl) (by kernel_rfl) (fun _ _ _ h => h) ⟨Or.inl ⟨by rfl, ?_⟩, fun _ => rfl⟩ ?_
          rotate_left
          · intro w'
            go_simp
            with_reducible rfl
          (try simp only [Act.put, List.setIfInBounds_toArray, List.set_cons_zero, List.set_cons_succ])
          refine wpAnyIn_ready (rs := [3, 5, 8]) (by kernel_rfl) (by simp) ?_
          refine AllReadyIn.cons rfl (fun K' hK => ?_) ?_
          · go_simp
            refine hK _ _ ?_
            (try simp only [Act.put, List.setIfInBounds_toArray, List.set_cons_zero, List.set_cons_succ])
            refine wpAnyIn_ready (rs := [5, 8]) (by kernel_rfl) (by simp) ?_
            refine AllReadyIn.cons rfl (fun K' hK => ?_) ?_
            · go_simp
              refine hK _ _ ?_
              (try simp only [Act.put, List.setIfInBounds_toArray, List.set_cons_zero, List.set_cons_succ])
              refine wpAnyIn_take (i := 6) (v := ?_) rfl rfl (by kernel_rfl) (by kernel_rfl) (by kernel_rfl) (fun _ _ _ h => h) ⟨Or.inl ⟨by rfl, ?_⟩, fun _ => rfl⟩ ?_
              rotate_left
              · intro w'
                go_simp
                with_reducible rfl
              (try simp only [Act.put, List.setIfInBounds_toArray, List.set_cons_zero, List.set_cons_succ])
              refine wpAnyIn_ready (rs := [8]) (by kernel_rfl) (by simp) ?_
              refine AllReadyIn.cons rfl (fun K' hK => ?_) ?_
              · go_simp
                refine hK _ _ ?_
                (try simp only [Act.put, List.setIfInBounds_toArray, List.set_cons_zero, List.set_cons_succ])
                refine wpAnyIn_ready (rs := [9]) (by kernel_rfl) (by simp) ?_
                refine AllReadyIn.cons rfl (fun K' hK => ?_) ?_
                · go_simp
                  refine ⟨trivial, (callsIn_wide.2 (KP.out _ (RowKit.Below.refl _ wc).drew)).mono ?_⟩
                  rintro e w3 ⟨n4, m4, n5, m5, rfl, hF, hb⟩
                  have HF := Aside0.mk hF
                  have HB3' := Aside0.mk ((RowKit.Below.refl _ wc).drew.trans hb)
                  have HB3 := Aside0.mk (HBC.out.trans (HB3'.out.mono HBC.out.size))
                  have BX3 := Aside0.mk (blk_below (blk_drew BXC.out) hb)
                  obtain ⟨q0, q1, q2, q3, q4, q5, q6, q7⟩ := box8 BX3.out
                  go_simp
                  refine hK _ _ ?_
                  (try simp only [Act.put, List.setIfInBounds_toArray, List.set_cons_zero, List.set_cons_succ])
                  refine wpAnyIn_take (i := 10) (v := ?_) rfl rfl (by kernel_rfl) (by kernel_rfl) (by kernel_rfl) (fun _ _ _ h => h) ⟨Or.inl ⟨by rfl, ?_⟩, fun _ => rfl⟩ ?_
                  rotate_left
                  · intro w'
                    go_simp
                    with_reducible rfl
                  (try simp only [Act.put, List.setIfInBounds_toArray, List.set_cons_zero, List.set_cons_succ])
                  refine wpAnyIn_ready (rs := [11]) (by kernel_rfl) (by simp) ?_
                  refine AllReadyIn.cons rfl (fun K' hK => ?_) AllReadyIn.nil
                  obtain ⟨fn, tmps, assign, body, hy, hR⟩ := HY.out pre (k, ⟨⟨y0, y1, plain yv⟩, n4, m4, n5, m5⟩) w3 (abides_below HJ.out HPJ2.out HB3'.out) HF.out (by have := HPL.out; omega)
                  dsimp only [encC] at hy
                  go_simp
                  refine hR.mono ?_
                  rintro e w4 (⟨rfl, hj, hk⟩ | ⟨rfl, hx⟩)
                  · have HJ4 := Aside0.mk (And.intro hj (HB3.out.trans hk.1))
                    clear hj hk hy hR
                    refine hK _ _ ?_
                    (try simp only [Act.put, List.setIfInBounds_toArray, List.set_cons_zero, List.set_cons_succ])
                    refine wpAnyIn_take (i := 12) (v := ?_) rfl rfl (by kernel_rfl) (by kernel_rfl) (by kernel_rfl) (fun _ _ _ h => h) ⟨Or.inl ⟨by rfl, ?_⟩, fun _ => rfl⟩ ?_
                    rotate_left
                    · intro w'
                      go_simp
                      with_reducible rfl
                    (try simp only [Act.put, List.setIfInBounds_toArray, List.set_cons_zero, List.set_cons_succ])
                    refine wpAnyIn_done (by kernel_rfl) ?_ _
                    go_simp
                    go_step
                    go_meet
                    exact ⟨false, rfl, ⟨fun _ => ⟨_, by rw [← HYX.out]; rfl, HJ4.out.1, HJ4.out.2⟩⟩, ⟨fun h => by cases h⟩⟩
                  · have HJ4 := Aside0.mk hx
                    clear hx hy hR
                    refine hK _ _ ?_
                    (try simp only [Act.put, List.setIfInBounds_toArray, List.set_cons_zero, List.set_cons_succ])
                    refine wpAnyIn_take (i := 12) (v := ?_) rfl rfl (by kernel_rfl) (by kernel_rfl) (by kernel_rfl) (fun _ _ _ h => h) ⟨Or.inl ⟨by rfl, ?_⟩, fun _ => rfl⟩ ?_
                    rotate_left
                    · intro w'
                      go_simp
                      with_reducible rfl
                    (try simp only [Act.put, List.setIfInBounds_toArray, List.set_cons_zero, List.set_cons_succ])
                    refine wpAnyIn_done (by kernel_rfl) ?_ _
                    go_simp
                    go_step
                    go_meet
                    exact ⟨true, rfl, ⟨fun h => by cases h⟩, ⟨fun _ => ⟨_, HJ4.out⟩⟩⟩
                exact AllReadyIn.nil
              exact AllReadyIn.nil
            refine AllReadyIn.cons rfl (fun K' hK => ?_) ?_
            · go_simp
              refine hK _ _ ?_
              (try simp only [Act.put, List.setIfInBounds_toArray, List.set_cons_zero, List.set_cons_succ])
              refine wpAnyIn_ready (rs := [5, 9]) (by kernel_rfl) (by simp) ?_
              refine AllReadyIn.cons rfl (fun K' hK => ?_) ?_
              · go_simp
                refine hK _ _ ?_
                (try simp only [Act.put, List.setIfInBounds_toArray, List.set_cons_zero, List.set_cons_succ])
                refine wpAnyIn_take (i := 6) (v := ?_) rfl rfl (by kernel_rfl) (by kernel_rfl) (by kernel_rfl) (fun _ _ _ h => h) ⟨Or.inl ⟨by rfl, ?_⟩, fun _ => rfl⟩ ?_
                rotate_left
                · intro w'
                  go_simp
                  with_reducible rfl
                (try simp only [Act.put, List.setIfInBounds_toArray, List.set_cons_zero, List.set_cons_succ])
                refine wpAnyIn_ready (rs := [9]) (by kernel_rfl) (by simp) ?_
                refine AllReadyIn.cons rfl (fun K' hK => ?_) ?_
                · go_simp
                  refine ⟨trivial, (callsIn_wide.2 (KP.out _ (RowKit.Below.refl _ wc).drew)).mono ?_⟩
                  rintro e w3 ⟨n4, m4, n5, m5, rfl, hF, hb⟩
                  have HF := Aside0.mk hF
                  have HB3' := Aside0.mk ((RowKit.Below.refl _ wc).drew.trans hb)
                  have HB3 := Aside0.mk (HBC.out.trans (HB3'.out.mono HBC.out.size))
                  have BX3 := Aside0.mk (blk_below (blk_drew BXC.out) hb)
                  obtain ⟨q0, q1, q2, q3, q4, q5, q6, q7⟩ := box8 BX3.out
                  go_simp
                  refine hK _ _ ?_
                  (try simp only [Act.put, List.setIfInBounds_toArray, List.set_cons_zero, List.set_cons_succ])
                  refine wpAnyIn_take (i := 10) (v := ?_) rfl rfl (by kernel_rfl) (by kernel_rfl) (by kernel_rfl) (fun _ _ _ h => h) ⟨Or.inl ⟨by rfl, ?_⟩, fun _ => rfl⟩ ?_
                  rotate_left
                  · intro w'
                    go_simp
                    with_reducible rfl
                  (try simp only [Act.put, List.setIfInBounds_toArray, List.set_cons_zero, List.set_cons_succ])
                  refine wpAnyIn_ready (rs := [11]) (by kernel_rfl) (by simp) ?_
                  refine AllReadyIn.cons rfl (fun K' hK => ?_) AllReadyIn.nil
                  obtain ⟨fn, tmps, assign, body, hy, hR⟩ := HY.out pre (k, ⟨⟨y0, y1, plain yv⟩, n4, m4, n5, m5⟩) w3 (abides_below HJ.out HPJ2.out HB3'.out) HF.out (by have := HPL.out; omega)
                  dsimp only [encC] at hy
                  go_simp
                  refine hR.mono ?_
                  rintro e w4 (⟨rfl, hj, hk⟩ | ⟨rfl, hx⟩)
                  · have HJ4 := Aside0.mk (And.intro hj (HB3.out.trans hk.1))
                    clear hj hk hy hR
                    refine hK _ _ ?_
                    (try simp only [Act.put, List.setIfInBounds_toArray, List.set_cons_zero, List.set_cons_succ])
                    refine wpAnyIn_take (i := 12) (v := ?_) rfl rfl (by kernel_rfl) (by kernel_rfl) (by kernel_rfl) (fun _ _ _ h => h) ⟨Or.inl ⟨by rfl, ?_⟩, fun _ => rfl⟩ ?_
                    rotate_left
                    · intro w'
                      go_simp
                      with_reducible rfl
                    (try simp only [Act.put, List.setIfInBounds_toArray, List.set_cons_zero, List.set_cons_succ])
                    refine wpAnyIn_done (by kernel_rfl) ?_ _
                    go_simp
                    go_step
                    go_meet
                    exact ⟨false, rfl, ⟨fun _ => ⟨_, by rw [← HYX.out]; rfl, HJ4.out.1, HJ4.out.2⟩⟩, ⟨fun h => by cases h⟩⟩
                  · have HJ4 := Aside0.mk hx
                    clear hx hy hR
                    refine hK _ _ ?_
                    (try simp only [Act.put, List.setIfInBounds_toArray, List.set_cons_zero, List.set_cons_succ])
                    refine wpAnyIn_take (i := 12) (v := ?_) rfl rfl (by kernel_rfl) (by kernel_rfl) (by kernel_rfl) (fun _ _ _ h => h) ⟨Or.inl ⟨by rfl, ?_⟩, fun _ => rfl⟩ ?_
                    rotate_left
                    · intro w'
                      go_simp
                      with_reducible rfl
                    (try simp only [Act.put, List.setIfInBounds_toArray, List.set_cons_zero, List.set_cons_succ])
                    refine wpAnyIn_done (by kernel_rfl) ?_ _
                    go_simp
                    go_step
                    go_meet
                    exact ⟨true, rfl, ⟨fun h => by cases h⟩, ⟨fun _ => ⟨_, HJ4.out⟩⟩⟩
                exact AllReadyIn.nil
              refine AllReadyIn.cons rfl (fun K' hK => ?_) ?_
              · go_simp
                refine ⟨trivial, (callsIn_wide.2 (KP.out _ (RowKit.Below.refl _ wc).drew)).mono ?_⟩
                rintro e w3 ⟨n4, m4, n5, m5, rfl, hF, hb⟩
                have HF := Aside0.mk hF
                have HB3' := Aside0.mk ((RowKit.Below.refl _ wc).drew.trans hb)
                have HB3 := Aside0.mk (HBC.out.trans (HB3'.out.mono HBC.out.size))
                have BX3 := Aside0.mk (blk_below (blk_drew BXC.out) hb)
                obtain ⟨q0, q1, q2, q3, q4, q5, q6, q7⟩ := box8 BX3.out
                go_simp
                refine hK _ _ ?_
                (try simp only [Act.put, List.setIfInBounds_toArray, List.set_cons_zero, List.set_cons_succ])
                refine wpAnyIn_ready (rs := [5]) (by kernel_rfl) (by simp) ?_
                refine AllReadyIn.cons rfl (fun K' hK => ?_) ?_
                · go_simp
                  refine hK _ _ ?_
                  (try simp only [Act.put, List.setIfInBounds_toArray, List.set_cons_zero, List.set_cons_succ])
                  refine wpAnyIn_take (i := 6) (v := ?_) rfl rfl (by kernel_rfl) (by kernel_rfl) (by kernel_rfl) (fun _ _ _ h => h) ⟨Or.inl ⟨by rfl, ?_⟩, fun _ => rfl⟩ ?_
                  rotate_left
                  · intro w'
                    go_simp
                    with_reducible rfl
                  (try simp only [Act.put, List.setIfInBounds_toArray, List.set_cons_zero, List.set_cons_succ])
                  refine wpAnyIn_take (i := 10) (v := ?_) rfl rfl (by kernel_rfl) (by kernel_rfl) (by kernel_rfl) (fun _ _ _ h => h) ⟨Or.inl ⟨by rfl, ?_⟩, fun _ => rfl⟩ ?_
                  rotate_left
                  · intro w'
                    go_simp
                    with_reducible rfl
                  (try simp only [Act.put, List.setIfInBounds_toArray, List.set_cons_zero, List.set_cons_succ])
                  refine wpAnyIn_ready (rs := [11]) (by kernel_rfl) (by simp) ?_
                  refine AllReadyIn.cons rfl (fun K' hK => ?_) AllReadyIn.nil
                  obtain ⟨fn, tmps, assign, body, hy, hR⟩ := HY.out pre (k, ⟨⟨y0, y1, plain yv⟩, n4, m4, n5, m5⟩) w3 (abides_below HJ.out HPJ2.out HB3'.out) HF.out (by have := HPL.out; omega)
                  dsimp only [encC] at hy
                  go_simp
                  refine hR.mono ?_
                  rintro e w4 (⟨rfl, hj, hk⟩ | ⟨rfl, hx⟩)
                  · have HJ4 := Aside0.mk (And.intro hj (HB3.out.trans hk.1))
                    clear hj hk hy hR
                    refine hK _ _ ?_
                    (try simp only [Act.put, List.setIfInBounds_toArray, List.set_cons_zero, List.set_cons_succ])
                    refine wpAnyIn_take (i := 12) (v := ?_) rfl rfl (by kernel_rfl) (by kernel_rfl) (by kernel_rfl) (fun _ _ _ h => h) ⟨Or.inl ⟨by rfl, ?_⟩, fun _ => rfl⟩ ?_
                    rotate_left
                    · intro w'
                      go_simp
                      with_reducible rfl
                    (try simp only [Act.put, List.setIfInBounds_toArray, List.set_cons_zero, List.set_cons_succ])
                    refine wpAnyIn_done (by kernel_rfl) ?_ _
                    go_simp
                    go_step
                    go_meet
                    exact ⟨false, rfl, ⟨fun _ => ⟨_, by rw [← HYX.out]; rfl, HJ4.out.1, HJ4.out.2⟩⟩, ⟨fun h => by cases h⟩⟩
                  · have HJ4 := Aside0.mk hx
                    clear hx hy hR
                    refine hK _ _ ?_
                    (try simp only [Act.put, List.setIfInBounds_toArray, List.set_cons_zero, List.set_cons_succ])
                    refine wpAnyIn_take (i := 12) (v := ?_) rfl rfl (by kernel_rfl) (by kernel_rfl) (by kernel_rfl) (fun _ _ _ h => h) ⟨Or.inl ⟨by rfl, ?_⟩, fun _ => rfl⟩ ?_
                    rotate_left
                    · intro w'
                      go_simp
                      with_reducible rfl
                    (try simp only [Act.put, List.setIfInBounds_toArray, List.set_cons_zero, List.set_cons_succ])
                    refine wpAnyIn_done (by kernel_rfl) ?_ _
                    go_simp
                    go_step
                    go_meet
                    exact ⟨true, rfl, ⟨fun h => by cases h⟩, ⟨fun _ => ⟨_, HJ4.out⟩⟩⟩
                exact AllReadyIn.nil
              exact AllReadyIn.nil
            exact AllReadyIn.nil
          refine AllReadyIn.cons rfl (fun K' hK => ?_) ?_
          · go_simp
            refine hK _ _ ?_
            (try simp only [Act.put, List.setIfInBounds_toArray, List.set_cons_zero, List.set_cons_succ])
            refine wpAnyIn_take (i := 6) (v := ?_) rfl rfl (by kernel_rfl) (by kernel_rfl) (by kernel_rfl) (fun _ _ _ h => h) ⟨Or.inl ⟨by rfl, ?_⟩, fun _ => rfl⟩ ?_
            rotate_left
            · intro w'
              go_simp
              with_reducible rfl
            (try simp only [Act.put, List.setIfInBounds_toArray, List.set_cons_zero, List.set_cons_succ])
            refine wpAnyIn_ready (rs := [3, 8]) (by kernel_rfl) (by simp) ?_
            refine AllReadyIn.cons rfl (fun K' hK => ?_) ?_
            · go_simp
              refine hK _ _ ?_
              (try simp only [Act.put, List.setIfInBounds_toArray, List.set_cons_zero, List.set_cons_succ])
              refine wpAnyIn_ready (rs := [8]) (by kernel_rfl) (by simp) ?_
              refine AllReadyIn.cons rfl (fun K' hK => ?_) ?_
              · go_simp
                refine hK _ _ ?_
                (try simp only [Act.put, List.setIfInBounds_toArray, List.set_cons_zero, List.set_cons_succ])
                refine wpAnyIn_ready (rs := [9]) (by kernel_rfl) (by simp) ?_
                refine AllReadyIn.cons rfl (fun K' hK => ?_) ?_
                · go_simp
                  refine ⟨trivial, (callsIn_wide.2 (KP.out _ (RowKit.Below.refl _ wc).drew)).mono ?_⟩
                  rintro e w3 ⟨n4, m4, n5, m5, rfl, hF, hb⟩
                  have HF := Aside0.mk hF
                  have HB3' := Aside0.mk ((RowKit.Below.refl _ wc).drew.trans hb)
                  have HB3 := Aside0.mk (HBC.out.trans (HB3'.out.mono HBC.out.size))
                  have BX3 := Aside0.mk (blk_below (blk_drew BXC.out) hb)
                  obtain ⟨q0, q1, q2, q3, q4, q5, q6, q7⟩ := box8 BX3.out
                  go_simp
                  refine hK _ _ ?_
                  (try simp only [Act.put, List.setIfInBounds_toArray, List.set_cons_zero, List.set_cons_succ])
                  refine wpAnyIn_take (i := 10) (v := ?_) rfl rfl (by kernel_rfl) (by kernel_rfl) (by kernel_rfl) (fun _ _ _ h => h) ⟨Or.inl ⟨by rfl, ?_⟩, fun _ => rfl⟩ ?_
                  rotate_left
                  · intro w'
                    go_simp
                    with_reducible rfl
                  (try simp only [Act.put, List.setIfInBounds_toArray, List.set_cons_zero, List.set_cons_succ])
                  refine wpAnyIn_ready (rs := [11]) (by kernel_rfl) (by simp) ?_
                  refine AllReadyIn.cons rfl (fun K' hK => ?_) AllReadyIn.nil
                  obtain ⟨fn, tmps, assign, body, hy, hR⟩ := HY.out pre (k, ⟨⟨y0, y1, plain yv⟩, n4, m4, n5, m5⟩) w3 (abides_below HJ.out HPJ2.out HB3'.out) HF.out (by have := HPL.out; omega)
                  dsimp only [encC] at hy
                  go_simp
                  refine hR.mono ?_
                  rintro e w4 (⟨rfl, hj, hk⟩ | ⟨rfl, hx⟩)
                  · have HJ4 := Aside0.mk (And.intro hj (HB3.out.trans hk.1))
                    clear hj hk hy hR
                    refine hK _ _ ?_
                    (try simp only [Act.put, List.setIfInBounds_toArray, List.set_cons_zero, List.set_cons_succ])
                    refine wpAnyIn_take (i := 12) (v := ?_) rfl rfl (by kernel_rfl) (by kernel_rfl) (by kernel_rfl) (fun _ _ _ h => h) ⟨Or.inl ⟨by rfl, ?_⟩, fun _ => rfl⟩ ?_
                    rotate_left
                    · intro w'
                      go_simp
                      with_reducible rfl
                    (try simp only [Act.put, List.setIfInBounds_toArray, List.set_cons_zero, List.set_cons_succ])
                    refine wpAnyIn_done (by kernel_rfl) ?_ _
                    go_simp
                    go_step
                    go_meet
                    exact ⟨false, rfl, ⟨fun _ => ⟨_, by rw [← HYX.out]; rfl, HJ4.out.1, HJ4.out.2⟩⟩, ⟨fun h => by cases h⟩⟩
                  · have HJ4 := Aside0.mk hx
                    clear hx hy hR
                    refine hK _ _ ?_
                    (try simp only [Act.put, List.setIfInBounds_toArray, List.set_cons_zero, List.set_cons_succ])
                    refine wpAnyIn_take (i := 12) (v := ?_) rfl rfl (by kernel_rfl) (by kernel_rfl) (by kernel_rfl) (fun _ _ _ h => h) ⟨Or.inl ⟨by rfl, ?_⟩, fun _ => rfl⟩ ?_
                    rotate_left
                    · intro w'
                      go_simp
                      with_reducible rfl
                    (try simp only [Act.put, List.setIfInBounds_toArray, List.set_cons_zero, List.set_cons_succ])
                    refine wpAnyIn_done (by kernel_rfl) ?_ _
                    go_simp
                    go_step
                    go_meet
                    exact ⟨true, rfl, ⟨fun h => by cases h⟩, ⟨fun _ => ⟨_, HJ4.out⟩⟩⟩
                exact AllReadyIn.nil
              exact AllReadyIn.nil
            refine AllReadyIn.cons rfl (fun K' hK => ?_) ?_
            · go_simp
              refine hK _ _ ?_
              (try simp only [Act.put, List.setIfInBounds_toArray, List.set_cons_zero, List.set_cons_succ])
              refine wpAnyIn_ready (rs := [3, 9]) (by kernel_rfl) (by simp) ?_
              refine AllReadyIn.cons rfl (fun K' hK => ?_) ?_
              · go_simp
                refine hK _ _ ?_
                (try simp only [Act.put, List.setIfInBounds_toArray, List.set_cons_zero, List.set_cons_succ])
                refine wpAnyIn_ready (rs := [9]) (by kernel_rfl) (by simp) ?_
                refine AllReadyIn.cons rfl (fun K' hK => ?_) ?_
                · go_simp
                  refine ⟨trivial, (callsIn_wide.2 (KP.out _ (RowKit.Below.refl _ wc).drew)).mono ?_⟩
                  rintro e w3 ⟨n4, m4, n5, m5, rfl, hF, hb⟩
                  have HF := Aside0.mk hF
                  have HB3' := Aside0.mk ((RowKit.Below.refl _ wc).drew.trans hb)
                  have HB3 := Aside0.mk (HBC.out.trans (HB3'.out.mono HBC.out.size))
                  have BX3 := Aside0.mk (blk_below (blk_drew BXC.out) hb)
                  obtain ⟨q0, q1, q2, q3, q4, q5, q6, q7⟩ := box8 BX3.out
                  go_simp
                  refine hK _ _ ?_
                  (try simp only [Act.put, List.setIfInBounds_toArray, List.set_cons_zero, List.set_cons_succ])
                  refine wpAnyIn_take (i := 10) (v := ?_) rfl rfl (by kernel_rfl) (by kernel_rfl) (by kernel_rfl) (fun _ _ _ h => h) ⟨Or.inl ⟨by rfl, ?_⟩, fun _ => rfl⟩ ?_
                  rotate_left
                  · intro w'
                    go_simp
                    with_reducible rfl
                  (try simp only [Act.put, List.setIfInBounds_toArray, List.set_cons_zero, List.set_cons_succ])
                  refine wpAnyIn_ready (rs := [11]) (by kernel_rfl) (by simp) ?_
                  refine AllReadyIn.cons rfl (fun K' hK => ?_) AllReadyIn.nil
                  obtain ⟨fn, tmps, assign, body, hy, hR⟩ := HY.out pre (k, ⟨⟨y0, y1, plain yv⟩, n4, m4, n5, m5⟩) w3 (abides_below HJ.out HPJ2.out HB3'.out) HF.out (by have := HPL.out; omega)
                  dsimp only [encC] at hy
                  go_simp
                  refine hR.mono ?_
                  rintro e w4 (⟨rfl, hj, hk⟩ | ⟨rfl, hx⟩)
                  · have HJ4 := Aside0.mk (And.intro hj (HB3.out.trans hk.1))
                    clear hj hk hy hR
                    refine hK _ _ ?_
                    (try simp only [Act.put, List.setIfInBounds_toArray, List.set_cons_zero, List.set_cons_succ])
                    refine wpAnyIn_take (i := 12) (v := ?_) rfl rfl (by kernel_rfl) (by kernel_rfl) (by kernel_rfl) (fun _ _ _ h => h) ⟨Or.inl ⟨by rfl, ?_⟩, fun _ => rfl⟩ ?_
                    rotate_left
                    · intro w'
                      go_simp
                      with_reducible rfl
                    (try simp only [Act.put, List.setIfInBounds_toArray, List.set_cons_zero, List.set_cons_succ])
                    refine wpAnyIn_done (by kernel_rfl) ?_ _
                    go_simp
                    go_step
                    go_meet
                    exact ⟨false, rfl, ⟨fun _ => ⟨_, by rw [← HYX.out]; rfl, HJ4.out.1, HJ4.out.2⟩⟩, ⟨fun h => by cases h⟩⟩
                  · have HJ4 := Aside0.mk hx
                    clear hx hy hR
                    refine hK _ _ ?_
                    (try simp only [Act.put, List.setIfInBounds_toArray, List.set_cons_zero, List.set_cons_succ])
                    refine wpAnyIn_take (i := 12) (v := ?_) rfl rfl (by kernel_rfl) (by kernel_rfl) (by kernel_rfl) (fun _ _ _ h => h) ⟨Or.inl ⟨by rfl, ?_⟩, fun _ => rfl⟩ ?_
                    rotate_left
                    · intro w'
                      go_simp
                      with_reducible rfl
                    (try simp only [Act.put, List.setIfInBounds_toArray, List.set_cons_zero, List.set_cons_succ])
                    refine wpAnyIn_done (by kernel_rfl) ?_ _
                    go_simp
                    go_step
                    go_meet
                    exact ⟨true, rfl, ⟨fun h => by cases h⟩, ⟨fun _ => ⟨_, HJ4.out⟩⟩⟩
                exact AllReadyIn.nil
              refine AllReadyIn.cons rfl (fun K' hK => ?_) ?_
              · go_simp
                refine ⟨trivial, (callsIn_wide.2 (KP.out _ (RowKit.Below.refl _ wc).drew)).mono ?_⟩
                rintro e w3 ⟨n4, m4, n5, m5, rfl, hF, hb⟩
                have HF := Aside0.mk hF
                have HB3' := Aside0.mk ((RowKit.Below.refl _ wc).drew.trans hb)
                have HB3 := Aside0.mk (HBC.out.trans (HB3'.out.mono HBC.out.size))
                have BX3 := Aside0.mk (blk_below (blk_drew BXC.out) hb)
                obtain ⟨q0, q1, q2, q3, q4, q5, q6, q7⟩ := box8 BX3.out
                go_simp
                refine hK _ _ ?_
                (try simp only [Act.put, List.setIfInBounds_toArray, List.set_cons_zero, List.set_cons_succ])
                refine wpAnyIn_ready (rs := [3]) (by kernel_rfl) (by simp) ?_
                refine AllReadyIn.cons rfl (fun K' hK => ?_) ?_
                · go_simp
                  refine hK _ _ ?_
                  (try simp only [Act.put, List.setIfInBounds_toArray, List.set_cons_zero, List.set_cons_succ])
                  refine wpAnyIn_take (i := 10) (v := ?_) rfl rfl (by kernel_rfl) (by kernel_rfl) (by kernel_rfl) (fun _ _ _ h => h) ⟨Or.inl ⟨by rfl, ?_⟩, fun _ => rfl⟩ ?_
                  rotate_left
                  · intro w'
                    go_simp
                    with_reducible rfl
                  (try simp only [Act.put, List.setIfInBounds_toArray, List.set_cons_zero, List.set_cons_succ])
                  refine wpAnyIn_ready (rs := [11]) (by kernel_rfl) (by simp) ?_
                  refine AllReadyIn.cons rfl (fun K' hK => ?_) AllReadyIn.nil
                  obtain ⟨fn, tmps, assign, body, hy, hR⟩ := HY.out pre (k, ⟨⟨y0, y1, plain yv⟩, n4, m4, n5, m5⟩) w3 (abides_below HJ.out HPJ2.out HB3'.out) HF.out (by have := HPL.out; omega)
                  dsimp only [encC] at hy
                  go_simp
                  refine hR.mono ?_
                  rintro e w4 (⟨rfl, hj, hk⟩ | ⟨rfl, hx⟩)
                  · have HJ4 := Aside0.mk (And.intro hj (HB3.out.trans hk.1))
                    clear hj hk hy hR
                    refine hK _ _ ?_
                    (try simp only [Act.put, List.setIfInBounds_toArray, List.set_cons_zero, List.set_cons_succ])
                    refine wpAnyIn_take (i := 12) (v := ?_) rfl rfl (by kernel_rfl) (by kernel_rfl) (by kernel_rfl) (fun _ _ _ h => h) ⟨Or.inl ⟨by rfl, ?_⟩, fun _ => rfl⟩ ?_
                    rotate_left
                    · intro w'
                      go_simp
                      with_reducible rfl
                    (try simp only [Act.put, List.setIfInBounds_toArray, List.set_cons_zero, List.set_cons_succ])
                    refine wpAnyIn_done (by kernel_rfl) ?_ _
                    go_simp
                    go_step
                    go_meet
                    exact ⟨false, rfl, ⟨fun _ => ⟨_, by rw [← HYX.out]; rfl, HJ4.out.1, HJ4.out.2⟩⟩, ⟨fun h => by cases h⟩⟩
                  · have HJ4 := Aside0.mk hx
                    clear hx hy hR
                    refine hK _ _ ?_
                    (try simp only [Act.put, List.setIfInBounds_toArray, List.set_cons_zero, List.set_cons_succ])
                    refine wpAnyIn_take (i := 12) (v := ?_) rfl rfl (by kernel_rfl) (by kernel_rfl) (by kernel_rfl) (fun _ _ _ h => h) ⟨Or.inl ⟨by rfl, ?_⟩, fun _ => rfl⟩ ?_
                    rotate_left
                    · intro w'
                      go_simp
                      with_reducible rfl
                    (try simp only [Act.put, List.setIfInBounds_toArray, List.set_cons_zero, List.set_cons_succ])
                    refine wpAnyIn_done (by kernel_rfl) ?_ _
                    go_simp
                    go_step
                    go_meet
                    exact ⟨true, rfl, ⟨fun h => by cases h⟩, ⟨fun _ => ⟨_, HJ4.out⟩⟩⟩
                exact AllReadyIn.nil
              exact AllReadyIn.nil
            exact AllReadyIn.nil
          refine AllReadyIn.cons rfl (fun K' hK => ?_) ?_
          · go_simp
            refine hK _ _ ?_
            (try simp only [Act.put, List.setIfInBounds_toArray, List.set_cons_zero, List.set_cons_succ])
            refine wpAnyIn_ready (rs := [3, 5, 9]) (by kernel_rfl) (by simp) ?_
            refine AllReadyIn.cons rfl (fun K' hK => ?_) ?_
            · go_simp
              refine hK _ _ ?_
              (try simp only [Act.put, List.setIfInBounds_toArray, List.set_cons_zero, List.set_cons_succ])
              refine wpAnyIn_ready (rs := [5, 9]) (by kernel_rfl) (by simp) ?_
              refine AllReadyIn.cons rfl (fun K' hK => ?_) ?_
              · go_simp
                refine hK _ _ ?_
                (try simp only [Act.put, List.setIfInBounds_toArray, List.set_cons_zero, List.set_cons_succ])
                refine wpAnyIn_take (i := 6) (v := ?_) rfl rfl (by kernel_rfl) (by kernel_rfl) (by kernel_rfl) (fun _ _ _ h => h) ⟨Or.inl ⟨by rfl, ?_⟩, fun _ => rfl⟩ ?_
                rotate_left
                · intro w'
                  go_simp
                  with_reducible rfl
                (try simp only [Act.put, List.setIfInBounds_toArray, List.set_cons_zero, List.set_cons_succ])
                refine wpAnyIn_ready (rs := [9]) (by kernel_rfl) (by simp) ?_
                refine AllReadyIn.cons rfl (fun K' hK => ?_) ?_
                · go_simp
                  refine ⟨trivial, (callsIn_wide.2 (KP.out _ (RowKit.Below.refl _ wc).drew)).mono ?_⟩
                  rintro e w3 ⟨n4, m4, n5, m5, rfl, hF, hb⟩
                  have HF := Aside0.mk hF
                  have HB3' := Aside0.mk ((RowKit.Below.refl _ wc).drew.trans hb)
                  have HB3 := Aside0.mk (HBC.out.trans (HB3'.out.mono HBC.out.size))
                  have BX3 := Aside0.mk (blk_below (blk_drew BXC.out) hb)
                  obtain ⟨q0, q1, q2, q3, q4, q5, q6, q7⟩ := box8 BX3.out
                  go_simp
                  refine hK _ _ ?_
                  (try simp only [Act.put, List.setIfInBounds_toArray, List.set_cons_zero, List.set_cons_succ])
                  refine wpAnyIn_take (i := 10) (v := ?_) rfl rfl (by kernel_rfl) (by kernel_rfl) (by kernel_rfl) (fun _ _ _ h => h) ⟨Or.inl ⟨by rfl, ?_⟩, fun _ => rfl⟩ ?_
                  rotate_left
                  · intro w'
                    go_simp
                    with_reducible rfl
                  (try simp only [Act.put, List.setIfInBounds_toArray, List.set_cons_zero, List.set_cons_succ])
                  refine wpAnyIn_ready (rs := [11]) (by kernel_rfl) (by simp) ?_
                  refine AllReadyIn.cons rfl (fun K' hK => ?_) AllReadyIn.nil
                  obtain ⟨fn, tmps, assign, body, hy, hR⟩ := HY.out pre (k, ⟨⟨y0, y1, plain yv⟩, n4, m4, n5, m5⟩) w3 (abides_below HJ.out HPJ2.out HB3'.out) HF.out (by have := HPL.out; omega)
                  dsimp only [encC] at hy
                  go_simp
                  refine hR.mono ?_
                  rintro e w4 (⟨rfl, hj, hk⟩ | ⟨rfl, hx⟩)
                  · have HJ4 := Aside0.mk (And.intro hj (HB3.out.trans hk.1))
                    clear hj hk hy hR
                    refine hK _ _ ?_
                    (try simp only [Act.put, List.setIfInBounds_toArray, List.set_cons_zero, List.set_cons_succ])
                    refine wpAnyIn_take (i := 12) (v := ?_) rfl rfl (by kernel_rfl) (by kernel_rfl) (by kernel_rfl) (fun _ _ _ h => h) ⟨Or.inl ⟨by rfl, ?_⟩, fun _ => rfl⟩ ?_
                    rotate_left
                    · intro w'
                      go_simp
                      with_reducible rfl
                    (try simp only [Act.put, List.setIfInBounds_toArray, List.set_cons_zero, List.set_cons_succ])
                    refine wpAnyIn_done (by kernel_rfl) ?_ _
                    go_simp
                    go_step
                    go_meet
                    exact ⟨false, rfl, ⟨fun _ => ⟨_, by rw [← HYX.out]; rfl, HJ4.out.1, HJ4.out.2⟩⟩, ⟨fun h => by cases h⟩⟩
                  · have HJ4 := Aside0.mk hx
                    clear hx hy hR
                    refine hK _ _ ?_
                    (try simp only [Act.put, List.setIfInBounds_toArray, List.set_cons_zero, List.set_cons_succ])
                    refine wpAnyIn_take (i := 12) (v := ?_) rfl rfl (by kernel_rfl) (by kernel_rfl) (by kernel_rfl) (fun _ _ _ h => h) ⟨Or.inl ⟨by rfl, ?_⟩, fun _ => rfl⟩ ?_
                    rotate_left
                    · intro w'
                      go_simp
                      with_reducible rfl
                    (try simp only [Act.put, List.setIfInBounds_toArray, List.set_cons_zero, List.set_cons_succ])
                    refine wpAnyIn_done (by kernel_rfl) ?_ _
                    go_simp
                    go_step
                    go_meet
                    exact ⟨true, rfl, ⟨fun h => by cases h⟩, ⟨fun _ => ⟨_, HJ4.out⟩⟩⟩
                exact AllReadyIn.nil
              refine AllReadyIn.cons rfl (fun K' hK => ?_) ?_
              · go_simp
                refine ⟨trivial, (callsIn_wide.2 (KP.out _ (RowKit.Below.refl _ wc).drew)).mono ?_⟩
                rintro e w3 ⟨n4, m4, n5, m5, rfl, hF, hb⟩
                have HF := Aside0.mk hF
                have HB3' := Aside0.mk ((RowKit.Below.refl _ wc).drew.trans hb)
                have HB3 := Aside0.mk (HBC.out.trans (HB3'.out.mono HBC.out.size))
                have BX3 := Aside0.mk (blk_below (blk_drew BXC.out) hb)
                obtain ⟨q0, q1, q2, q3, q4, q5, q6, q7⟩ := box8 BX3.out
                go_simp
                refine hK _ _ ?_
                (try simp only [Act.put, List.setIfInBounds_toArray, List.set_cons_zero, List.set_cons_succ])
                refine wpAnyIn_ready (rs := [5]) (by kernel_rfl) (by simp) ?_
                refine AllReadyIn.cons rfl (fun K' hK => ?_) ?_
                · go_simp
                  refine hK _ _ ?_
                  (try simp only [Act.put, List.setIfInBounds_toArray, List.set_cons_zero, List.set_cons_succ])
                  refine wpAnyIn_take (i := 6) (v := ?_) rfl rfl (by kernel_rfl) (by kernel_rfl) (by kernel_rfl) (fun _ _ _ h => h) ⟨Or.inl ⟨by rfl, ?_⟩, fun _ => rfl⟩ ?_
                  rotate_left
                  · intro w'
                    go_simp
                    with_reducible rfl
                  (try simp only [Act.put, List.setIfInBounds_toArray, List.set_cons_zero, List.set_cons_succ])
                  refine wpAnyIn_take (i := 10) (v := ?_) rfl rfl (by kernel_rfl) (by kernel_rfl) (by kernel_rfl) (fun _ _ _ h => h) ⟨Or.inl ⟨by rfl, ?_⟩, fun _ => rfl⟩ ?_
                  rotate_left
                  · intro w'
                    go_simp
                    with_reducible rfl
                  (try simp only [Act.put, List.setIfInBounds_toArray, List.set_cons_zero, List.set_cons_succ])
                  refine wpAnyIn_ready (rs := [11]) (by kernel_rfl) (by simp) ?_
                  refine AllReadyIn.cons rfl (fun K' hK => ?_) AllReadyIn.nil
                  obtain ⟨fn, tmps, assign, body, hy, hR⟩ := HY.out pre (k, ⟨⟨y0, y1, plain yv⟩, n4, m4, n5, m5⟩) w3 (abides_below HJ.out HPJ2.out HB3'.out) HF.out (by have := HPL.out; omega)
                  dsimp only [encC] at hy
                  go_simp
                  refine hR.mono ?_
                  rintro e w4 (⟨rfl, hj, hk⟩ | ⟨rfl, hx⟩)
                  · have HJ4 := Aside0.mk (And.intro hj (HB3.out.trans hk.1))
                    clear hj hk hy hR
                    refine hK _ _ ?_
                    (try simp only [Act.put, List.setIfInBounds_toArray, List.set_cons_zero, List.set_cons_succ])
                    refine wpAnyIn_take (i := 12) (v := ?_) rfl rfl (by kernel_rfl) (by kernel_rfl) (by kernel_rfl) (fun _ _ _ h => h) ⟨Or.inl ⟨by rfl, ?_⟩, fun _ => rfl⟩ ?_
                    rotate_left
                    · intro w'
                      go_simp
                      with_reducible rfl
                    (try simp only [Act.put, List.setIfInBounds_toArray, List.set_cons_zero, List.set_cons_succ])
                    refine wpAnyIn_done (by kernel_rfl) ?_ _
                    go_simp
                    go_step
                    go_meet
                    exact ⟨false, rfl, ⟨fun _ => ⟨_, by rw [← HYX.out]; rfl, HJ4.out.1, HJ4.out.2⟩⟩, ⟨fun h => by cases h⟩⟩
                  · have HJ4 := Aside0.mk hx
                    clear hx hy hR
                    refine hK _ _ ?_
                    (try simp only [Act.put, List.setIfInBounds_toArray, List.set_cons_zero, List.set_cons_succ])
                    refine wpAnyIn_take (i := 12) (v := ?_) rfl rfl (by kernel_rfl) (by kernel_rfl) (by kernel_rfl) (fun _ _ _ h => h) ⟨Or.inl ⟨by rfl, ?_⟩, fun _ => rfl⟩ ?_
                    rotate_left
                    · intro w'
                      go_simp
                      with_reducible rfl
                    (try simp only [Act.put, List.setIfInBounds_toArray, List.set_cons_zero, List.set_cons_succ])
                    refine wpAnyIn_done (by kernel_rfl) ?_ _
                    go_simp
                    go_step
                    go_meet
                    exact ⟨true, rfl, ⟨fun h => by cases h⟩, ⟨fun _ => ⟨_, HJ4.out⟩⟩⟩
                exact AllReadyIn.nil
              exact AllReadyIn.nil
            refine AllReadyIn.cons rfl (fun K' hK => ?_) ?_
            · go_simp
              refine hK _ _ ?_
              (try simp only [Act.put, List.setIfInBounds_toArray, List.set_cons_zero, List.set_cons_succ])
              refine wpAnyIn_take (i := 6) (v := ?_) rfl rfl (by kernel_rfl) (by kernel_rfl) (by kernel_rfl) (fun _ _ _ h => h) ⟨Or.inl ⟨by rfl, ?_⟩, fun _ => rfl⟩ ?_
              rotate_left
              · intro w'
                go_simp
                with_reducible rfl
              (try simp only [Act.put, List.setIfInBounds_toArray, List.set_cons_zero, List.set_cons_succ])
              refine wpAnyIn_ready (rs := [3, 9]) (by kernel_rfl) (by simp) ?_
              refine AllReadyIn.cons rfl (fun K' hK => ?_) ?_
              · go_simp
                refine hK _ _ ?_
                (try simp only [Act.put, List.setIfInBounds_toArray, List.set_cons_zero, List.set_cons_succ])
                refine wpAnyIn_ready (rs := [9]) (by kernel_rfl) (by simp) ?_
                refine AllReadyIn.cons rfl (fun K' hK => ?_) ?_
                · go_simp
                  refine ⟨trivial, (callsIn_wide.2 (KP.out _ (RowKit.Below.refl _ wc).drew)).mono ?_⟩
                  rintro e w3 ⟨n4, m4, n5, m5, rfl, hF, hb⟩
                  have HF := Aside0.mk hF
                  have HB3' := Aside0.mk ((RowKit.Below.refl _ wc).drew.trans hb)
                  have HB3 := Aside0.mk (HBC.out.trans (HB3'.out.mono HBC.out.size))
                  have BX3 := Aside0.mk (blk_below (blk_drew BXC.out) hb)
                  obtain ⟨q0, q1, q2, q3, q4, q5, q6, q7⟩ := box8 BX3.out
                  go_simp
                  refine hK _ _ ?_
                  (try simp only [Act.put, List.setIfInBounds_toArray, List.set_cons_zero, List.set_cons_succ])
                  refine wpAnyIn_take (i := 10) (v := ?_) rfl rfl (by kernel_rfl) (by kernel_rfl) (by kernel_rfl) (fun _ _ _ h => h) ⟨Or.inl ⟨by rfl, ?_⟩, fun _ => rfl⟩ ?_
                  rotate_left
                  · intro w'
                    go_simp
                    with_reducible rfl
                  (try simp only [Act.put, List.setIfInBounds_toArray, List.set_cons_zero, List.set_cons_succ])
                  refine wpAnyIn_ready (rs := [11]) (by kernel_rfl) (by simp) ?_
                  refine AllReadyIn.cons rfl (fun K' hK => ?_) AllReadyIn.nil
                  obtain ⟨fn, tmps, assign, body, hy, hR⟩ := HY.out pre (k, ⟨⟨y0, y1, plain yv⟩, n4, m4, n5, m5⟩) w3 (abides_below HJ.out HPJ2.out HB3'.out) HF.out (by have := HPL.out; omega)
                  dsimp only [encC] at hy
                  go_simp
                  refine hR.mono ?_
                  rintro e w4 (⟨rfl, hj, hk⟩ | ⟨rfl, hx⟩)
                  · have HJ4 := Aside0.mk (And.intro hj (HB3.out.trans hk.1))
                    clear hj hk hy hR
                    refine hK _ _ ?_
                    (try simp only [Act.put, List.setIfInBounds_toArray, List.set_cons_zero, List.set_cons_succ])
                    refine wpAnyIn_take (i := 12) (v := ?_) rfl rfl (by kernel_rfl) (by kernel_rfl) (by kernel_rfl) (fun _ _ _ h => h) ⟨Or.inl ⟨by rfl, ?_⟩, fun _ => rfl⟩ ?_
                    rotate_left
                    · intro w'
                      go_simp
                      with_reducible rfl
                    (try simp only [Act.put, List.setIfInBounds_toArray, List.set_cons_zero, List.set_cons_succ])
                    refine wpAnyIn_done (by kernel_rfl) ?_ _
                    go_simp
                    go_step
                    go_meet
                    exact ⟨false, rfl, ⟨fun _ => ⟨_, by rw [← HYX.out]; rfl, HJ4.out.1, HJ4.out.2⟩⟩, ⟨fun h => by cases h⟩⟩
                  · have HJ4 := Aside0.mk hx
                    clear hx hy hR
                    refine hK _ _ ?_
                    (try simp only [Act.put, List.setIfInBounds_toArray, List.set_cons_zero, List.set_cons_succ])
                    refine wpAnyIn_take (i := 12) (v := ?_) rfl rfl (by kernel_rfl) (by kernel_rfl) (by kernel_rfl) (fun _ _ _ h => h) ⟨Or.inl ⟨by rfl, ?_⟩, fun _ => rfl⟩ ?_
                    rotate_left
                    · intro w'
                      go_simp
                      with_reducible rfl
                    (try simp only [Act.put, List.setIfInBounds_toArray, List.set_cons_zero, List.set_cons_succ])
                    refine wpAnyIn_done (by kernel_rfl) ?_ _
                    go_simp
                    go_step
                    go_meet
                    exact ⟨true, rfl, ⟨fun h => by cases h⟩, ⟨fun _ => ⟨_, HJ4.out⟩⟩⟩
                exact AllReadyIn.nil
              refine AllReadyIn.cons rfl (fun K' hK => ?_) ?_
              · go_simp
                refine ⟨trivial, (callsIn_wide.2 (KP.out _ (RowKit.Below.refl _ wc).drew)).mono ?_⟩
                rintro e w3 ⟨n4, m4, n5, m5, rfl, hF, hb⟩
                have HF := Aside0.mk hF
                have HB3' := Aside0.mk ((RowKit.Below.refl _ wc).drew.trans hb)
                have HB3 := Aside0.mk (HBC.out.trans (HB3'.out.mono HBC.out.size))
                have BX3 := Aside0.mk (blk_below (blk_drew BXC.out) hb)
                obtain ⟨q0, q1, q2, q3, q4, q5, q6, q7⟩ := box8 BX3.out
                go_simp
                refine hK _ _ ?_
                (try simp only [Act.put, List.setIfInBounds_toArray, List.set_cons_zero, List.set_cons_succ])
                refine wpAnyIn_ready (rs := [3]) (by kernel_rfl) (by simp) ?_
                refine AllReadyIn.cons rfl (fun K' hK => ?_) ?_
                · go_simp
                  refine hK _ _ ?_
                  (try simp only [Act.put, List.setIfInBounds_toArray, List.set_cons_zero, List.set_cons_succ])
                  refine wpAnyIn_take (i := 10) (v := ?_) rfl rfl (by kernel_rfl) (by kernel_rfl) (by kernel_rfl) (fun _ _ _ h => h) ⟨Or.inl ⟨by rfl, ?_⟩, fun _ => rfl⟩ ?_
                  rotate_left
                  · intro w'
                    go_simp
                    with_reducible rfl
                  (try simp only [Act.put, List.setIfInBounds_toArray, List.set_cons_zero, List.set_cons_succ])
                  refine wpAnyIn_ready (rs := [11]) (by kernel_rfl) (by simp) ?_
                  refine AllReadyIn.cons rfl (fun K' hK => ?_) AllReadyIn.nil
                  obtain ⟨fn, tmps, assign, body, hy, hR⟩ := HY.out pre (k, ⟨⟨y0, y1, plain yv⟩, n4, m4, n5, m5⟩) w3 (abides_below HJ.out HPJ2.out HB3'.out) HF.out (by have := HPL.out; omega)
                  dsimp only [encC] at hy
                  go_simp
                  refine hR.mono ?_
                  rintro e w4 (⟨rfl, hj, hk⟩ | ⟨rfl, hx⟩)
                  · have HJ4 := Aside0.mk (And.intro hj (HB3.out.trans hk.1))
                    clear hj hk hy hR
                    refine hK _ _ ?_
                    (try simp only [Act.put, List.setIfInBounds_toArray, List.set_cons_zero, List.set_cons_succ])
                    refine wpAnyIn_take (i := 12) (v := ?_) rfl rfl (by kernel_rfl) (by kernel_rfl) (by kernel_rfl) (fun _ _ _ h => h) ⟨Or.inl ⟨by rfl, ?_⟩, fun _ => rfl⟩ ?_
                    rotate_left
                    · intro w'
                      go_simp
                      with_reducible rfl
                    (try simp only [Act.put, List.setIfInBounds_toArray, List.set_cons_zero, List.set_cons_succ])
                    refine wpAnyIn_done (by kernel_rfl) ?_ _
                    go_simp
                    go_step
                    go_meet
                    exact ⟨false, rfl, ⟨fun _ => ⟨_, by rw [← HYX.out]; rfl, HJ4.out.1, HJ4.out.2⟩⟩, ⟨fun h => by cases h⟩⟩
                  · have HJ4 := Aside0.mk hx
                    clear hx hy hR
                    refine hK _ _ ?_
                    (try simp only [Act.put, List.setIfInBounds_toArray, List.set_cons_zero, List.set_cons_succ])
                    refine wpAnyIn_take (i := 12) (v := ?_) rfl rfl (by kernel_rfl) (by kernel_rfl) (by kernel_rfl) (fun _ _ _ h => h) ⟨Or.inl ⟨by rfl, ?_⟩, fun _ => rfl⟩ ?_
                    rotate_left
                    · intro w'
                      go_simp
                      with_reducible rfl
                    (try simp only [Act.put, List.setIfInBounds_toArray, List.set_cons_zero, List.set_cons_succ])
                    refine wpAnyIn_done (by kernel_rfl) ?_ _
                    go_simp
                    go_step
                    go_meet
                    exact ⟨true, rfl, ⟨fun h => by cases h⟩, ⟨fun _ => ⟨_, HJ4.out⟩⟩⟩
                exact AllReadyIn.nil
              exact AllReadyIn.nil
            refine AllReadyIn.cons rfl (fun K' hK => ?_) ?_
            · go_simp
              refine ⟨trivial, (callsIn_wide.2 (KP.out _ (RowKit.Below.refl _ wc).drew)).mono ?_⟩
              rintro e w3 ⟨n4, m4, n5, m5, rfl, hF, hb⟩
              have HF := Aside0.mk hF
              have HB3' := Aside0.mk ((RowKit.Below.refl _ wc).drew.trans hb)
              have HB3 := Aside0.mk (HBC.out.trans (HB3'.out.mono HBC.out.size))
              have BX3 := Aside0.mk (blk_below (blk_drew BXC.out) hb)
              obtain ⟨q0, q1, q2, q3, q4, q5, q6, q7⟩ := box8 BX3.out
              go_simp
              refine hK _ _ ?_
              (try simp only [Act.put, List.setIfInBounds_toArray, List.set_cons_zero, List.set_cons_succ])
              refine wpAnyIn_ready (rs := [3, 5]) (by kernel_rfl) (by simp) ?_
              refine AllReadyIn.cons rfl (fun K' hK => ?_) ?_
              · go_simp
                refine hK _ _ ?_
                (try simp only [Act.put, List.setIfInBounds_toArray, List.set_cons_zero, List.set_cons_succ])
                refine wpAnyIn_ready (rs := [5]) (by kernel_rfl) (by simp) ?_
                refine AllReadyIn.cons rfl (fun K' hK => ?_) ?_
                · go_simp
                  refine hK _ _ ?_
                  (try simp only [Act.put, List.setIfInBounds_toArray, List.set_cons_zero, List.set_cons_succ])
                  refine wpAnyIn_take (i := 6) (v := ?_) rfl rfl (by kernel_rfl) (by kernel_rfl) (by kernel_rfl) (fun _ _ _ h => h) ⟨Or.inl ⟨by rfl, ?_⟩, fun _ => rfl⟩ ?_
                  rotate_left
                  · intro w'
                    go_simp
                    with_reducible rfl
                  (try simp only [Act.put, List.setIfInBounds_toArray, List.set_cons_zero, List.set_cons_succ])
                  refine wpAnyIn_take (i := 10) (v := ?_) rfl rfl (by kernel_rfl) (by kernel_rfl) (by kernel_rfl) (fun _ _ _ h => h) ⟨Or.inl ⟨by rfl, ?_⟩, fun _ => rfl⟩ ?_
                  rotate_left
                  · intro w'
                    go_simp
                    with_reducible rfl
                  (try simp only [Act.put, List.setIfInBounds_toArray, List.set_cons_zero, List.set_cons_succ])
                  refine wpAnyIn_ready (rs := [11]) (by kernel_rfl) (by simp) ?_
                  refine AllReadyIn.cons rfl (fun K' hK => ?_) AllReadyIn.nil
                  obtain ⟨fn, tmps, assign, body, hy, hR⟩ := HY.out pre (k, ⟨⟨y0, y1, plain yv⟩, n4, m4, n5, m5⟩) w3 (abides_below HJ.out HPJ2.out HB3'.out) HF.out (by have := HPL.out; omega)
                  dsimp only [encC] at hy
                  go_simp
                  refine hR.mono ?_
                  rintro e w4 (⟨rfl, hj, hk⟩ | ⟨rfl, hx⟩)
                  · have HJ4 := Aside0.mk (And.intro hj (HB3.out.trans hk.1))
                    clear hj hk hy hR
                    refine hK _ _ ?_
                    (try simp only [Act.put, List.setIfInBounds_toArray, List.set_cons_zero, List.set_cons_succ])
                    refine wpAnyIn_take (i := 12) (v := ?_) rfl rfl (by kernel_rfl) (by kernel_rfl) (by kernel_rfl) (fun _ _ _ h => h) ⟨Or.inl ⟨by rfl, ?_⟩, fun _ => rfl⟩ ?_
                    rotate_left
                    · intro w'
                      go_simp
                      with_reducible rfl
                    (try simp only [Act.put, List.setIfInBounds_toArray, List.set_cons_zero, List.set_cons_succ])
                    refine wpAnyIn_done (by kernel_rfl) ?_ _
                    go_simp
                    go_step
                    go_meet
                    exact ⟨false, rfl, ⟨fun _ => ⟨_, by rw [← HYX.out]; rfl, HJ4.out.1, HJ4.out.2⟩⟩, ⟨fun h => by cases h⟩⟩
                  · have HJ4 := Aside0.mk hx
                    clear hx hy hR
                    refine hK _ _ ?_
                    (try simp only [Act.put, List.setIfInBounds_toArray, List.set_cons_zero, List.set_cons_succ])
                    refine wpAnyIn_take (i := 12) (v := ?_) rfl rfl (by kernel_rfl) (by kernel_rfl) (by kernel_rfl) (fun _ _ _ h => h) ⟨Or.inl ⟨by rfl, ?_⟩, fun _ => rfl⟩ ?_
                    rotate_left
                    · intro w'
                      go_simp
                      with_reducible rfl
                    (try simp only [Act.put, List.setIfInBounds_toArray, List.set_cons_zero, List.set_cons_succ])
                    refine wpAnyIn_done (by kernel_rfl) ?_ _
                    go_simp
                    go_step
                    go_meet
                    exact ⟨true, rfl, ⟨fun h => by cases h⟩, ⟨fun _ => ⟨_, HJ4.out⟩⟩⟩
                exact AllReadyIn.nil
              refine AllReadyIn.cons rfl (fun K' hK => ?_) ?_
              · go_simp
                refine hK _ _ ?_
                (try simp only [Act.put, List.setIfInBounds_toArray, List.set_cons_zero, List.set_cons_succ])
                refine wpAnyIn_take (i := 6) (v := ?_) rfl rfl (by kernel_rfl) (by kernel_rfl) (by kernel_rfl) (fun _ _ _ h => h) ⟨Or.inl ⟨by rfl, ?_⟩, fun _ => rfl⟩ ?_
                rotate_left
                · intro w'
                  go_simp
                  with_reducible rfl
                (try simp only [Act.put, List.setIfInBounds_toArray, List.set_cons_zero, List.set_cons_succ])
                refine wpAnyIn_ready (rs := [3]) (by kernel_rfl) (by simp) ?_
                refine AllReadyIn.cons rfl (fun K' hK => ?_) ?_
                · go_simp
                  refine hK _ _ ?_
                  (try simp only [Act.put, List.setIfInBounds_toArray, List.set_cons_zero, List.set_cons_succ])
                  refine wpAnyIn_take (i := 10) (v := ?_) rfl rfl (by kernel_rfl) (by kernel_rfl) (by kernel_rfl) (fun _ _ _ h => h) ⟨Or.inl ⟨by rfl, ?_⟩, fun _ => rfl⟩ ?_
                  rotate_left
                  · intro w'
                    go_simp
                    with_reducible rfl
                  (try simp only [Act.put, List.setIfInBounds_toArray, List.set_cons_zero, List.set_cons_succ])
                  refine wpAnyIn_ready (rs := [11]) (by kernel_rfl) (by simp) ?_
                  refine AllReadyIn.cons rfl (fun K' hK => ?_) AllReadyIn.nil
                  obtain ⟨fn, tmps, assign, body, hy, hR⟩ := HY.out pre (k, ⟨⟨y0, y1, plain yv⟩, n4, m4, n5, m5⟩) w3 (abides_below HJ.out HPJ2.out HB3'.out) HF.out (by have := HPL.out; omega)
                  dsimp only [encC] at hy
                  go_simp
                  refine hR.mono ?_
                  rintro e w4 (⟨rfl, hj, hk⟩ | ⟨rfl, hx⟩)
                  · have HJ4 := Aside0.mk (And.intro hj (HB3.out.trans hk.1))
                    clear hj hk hy hR
                    refine hK _ _ ?_
                    (try simp only [Act.put, List.setIfInBounds_toArray, List.set_cons_zero, List.set_cons_succ])
                    refine wpAnyIn_take (i := 12) (v := ?_) rfl rfl (by kernel_rfl) (by kernel_rfl) (by kernel_rfl) (fun _ _ _ h => h) ⟨Or.inl ⟨by rfl, ?_⟩, fun _ => rfl⟩ ?_
                    rotate_left
                    · intro w'
                      go_simp
                      with_reducible rfl
                    (try simp only [Act.put, List.setIfInBounds_toArray, List.set_cons_zero, List.set_cons_succ])
                    refine wpAnyIn_done (by kernel_rfl) ?_ _
                    go_simp
                    go_step
                    go_meet
                    exact ⟨false, rfl, ⟨fun _ => ⟨_, by rw [← HYX.out]; rfl, HJ4.out.1, HJ4.out.2⟩⟩, ⟨fun h => by cases h⟩⟩
                  · have HJ4 := Aside0.mk hx
                    clear hx hy hR
                    refine hK _ _ ?_
                    (try simp only [Act.put, List.setIfInBounds_toArray, List.set_cons_zero, List.set_cons_succ])
                    refine wpAnyIn_take (i := 12) (v := ?_) rfl rfl (by kernel_rfl) (by kernel_rfl) (by kernel_rfl) (fun _ _ _ h => h) ⟨Or.inl ⟨by rfl, ?_⟩, fun _ => rfl⟩ ?_
                    rotate_left
                    · intro w'
                      go_simp
                      with_reducible rfl
                    (try simp only [Act.put, List.setIfInBounds_toArray, List.set_cons_zero, List.set_cons_succ])
                    refine wpAnyIn_done (by kernel_rfl) ?_ _
                    go_simp
                    go_step
                    go_meet
                    exact ⟨true, rfl, ⟨fun h => by cases h⟩, ⟨fun _ => ⟨_, HJ4.out⟩⟩⟩
                exact AllReadyIn.nil
              exact AllReadyIn.nil
            exact AllReadyIn.nil
          exact AllReadyIn.nil
        case' rest => obtain ⟨c, rfl, HC1, HC2⟩ := hcut
        cases c
        case false =>
          obtain ⟨y, hy, hj, hb⟩ := HC1.out rfl
          have HPJ4 := Aside0.mk hj
          have HB4 := Aside0.mk hb
          have HPS1 := Aside0.mk (show (pre ++ [(k, y)]).map strC = chgs s (k + 1) from by rw [chgs_succ, HCH.out, if_pos rfl, List.map_append, HPS.out, ← hy]; rfl)
          clear hy hj hb HC1 HC2
          go_wp2
          exact ⟨⟨k + 1, _, by omega, by first | (rw [HWK.out]; simp; done) | (simp; done), HB4, HPJ4, HPS1⟩, by first | (rw [HWK.out]; simp [intOf]; omega) | (simp [intOf]; omega)⟩
        case true =>
          obtain ⟨pre', hx⟩ := HC2.out rfl
          have HX4 := Aside0.mk hx
          clear hx HC1 HC2
          go_wp2
          refine bodyPost_ret (results_none rfl _ _ _) rfl ⟨⟨_, rfl⟩, Or.inr ⟨pre', ?_, HX4.out⟩⟩
          intro h0
          have h1 := chgs_mono s (show k + 1 ≤ s.now.length by have := HLN.out; have := HN.out; omega)
          rw [h0, chgs_succ, HCH.out, if_pos rfl] at h1
          have h2 := List.prefix_nil.1 h1
          simp at h2
    · obtain rfl : N = k := by omega
      have HPS1 := Aside0.mk (show pre.map strC = chgs s s.now.length from by rw [HPS.out]; congr 1; have := HLN.out; have := HN.out; omega)
      go_wp2
      go_end0
      exact ⟨⟨_, rfl⟩, Or.inl ⟨pre, HPS1.out, HPJ.out⟩⟩
end Go.Proofs.Ytogpnkkoablmiaa.V
end
section
namespace Go.Proofs.Ytogpnkkoablmiaa.V
open Go.Proofs.Ytogpnkkoablmiaa.P Go.Shelf Go.RowKit Go.Lib Go.Sort Go.Proofs.Ytogpnkkoablmiaa.Q Go.Proofs.YtogpnkkoablmiaaW.PrintWords Go.Proofs.YtogpnkkoablmiaaW.PrintLast Go.Proofs.YtogpnkkoablmiaaW.PrintMore
set_option linter.unusedVariables false
set_option linter.unusedSimpArgs false
attribute [local go_sem high] eqA28
attribute [local go_sem] nzv_ne nzv_beq nzv_bne
attribute [local go_sem] Oper.semAt_some
def cellsC (x : Nat × RS) : List Value := [.int .i64 x.1, .int .i64 x.2.x.f0, .bool (!x.2.x.f1), .int .i64 x.2.x.f2.f0, .int .i64 x.2.x.f2.f1, .int .i64 x.2.x.f2.f2, .string x.2.x.f2.f3, .slice x.2.a4 x.2.x.f2.f4.length x.2.c4, .slice x.2.a5 x.2.x.f2.f5.length x.2.c5]
def flatC (xs : List (Nat × RS)) : List Value := xs.flatMap cellsC
theorem flatC_snoc (l : List (Nat × RS)) (x : Nat × RS) : flatC (l ++ [x]) = flatC l ++ cellsC x := by simp [flatC]
def CRow (b : Nat) (v : Value) (xs : List (Nat × RS)) (W : World) : Prop := W.ownsRow b 67 9 v xs.length (flatC xs) ∧ ∀ x ∈ xs, FT x.2 W
theorem cellsC_new (w : World) (cs : List Value) (t : TypeId) (j : Nat) (u : Value) (h : cs[j]? = some u) : (w.alloc (.cells cs.toArray t)).cell? ((⟨w.heap.size, 0, none⟩ : Addr).add j) = some u := by
  have e : (⟨w.heap.size, 0, none⟩ : Addr).add j = ⟨w.heap.size, j, none⟩ := by unfold Addr.add; split <;> simp_all
  rw [e, cell_of_row _ _ _ _ _ _ (World.alloc_heap_new w (.cells cs.toArray t)), List.getElem?_toArray]
  exact h
theorem KeepU.grown {B : Nat} {W W' : World} {v : Value} {n : Nat} {base e size : Nat} {xs : List Value} (h : W.grownBy W' v.ownBlock) (ho : W.ownsRow base e size v n xs) (hB : B ≤ base) (hBW : B ≤ W.heap.size) (he : ¬ (e = 35 ∨ e = 89)) : KeepU B W W' :=
  ⟨(RowKit.Below.refl B W).grown h hBW (fun k hk => Nat.le_trans hB (own_base ho k hk)), fun k hk => by
    refine h.block k hk.lt (fun e' => ?_)
    obtain ⟨cells, hc⟩ := own_typed ho k e'.symm
    obtain ⟨q, cs, hq, hh⟩ := hk
    rw [hc] at hh
    injection hh with hh; injection hh with _ h2 _
    exact he (h2 ▸ hq)⟩
theorem KeepU.box {B : Nat} {W : World} {b t : Nat} {u : Value} (h : Boxed W b t u) (hB : B ≤ b) (ht : ¬ (t = 35 ∨ t = 89)) (u' : Value) : KeepU B W (W.setCell ⟨b, 0, none⟩ u') :=
  ⟨(RowKit.Below.refl B W).setCell hB u', fun k hk => by
    refine Below.heap_setCell W ⟨b, 0, none⟩ u' k (fun e' => ?_)
    obtain ⟨q, cs, hq, hh⟩ := hk
    have e2 : k = b := e'
    subst e2
    rw [show W.heap[k]? = _ from h] at hh
    injection hh with hh; injection hh with _ h2 _
    exact ht (h2 ▸ hq)⟩
theorem box9 {w : World} {b T : Nat} {c0 c1 c2 c3 c4 c5 c6 c7 c8 : Value} (h : w.heap[b]? = some (.cells #[c0, c1, c2, c3, c4, c5, c6, c7, c8] T (0, 0))) : w.cell? ⟨b, 0, none⟩ = some c0 ∧ w.cell? ⟨b, 1, none⟩ = some c1 ∧ w.cell? ⟨b, 2, none⟩ = some c2 ∧ w.cell? ⟨b, 3, none⟩ = some c3 ∧ w.cell? ⟨b, 4, none⟩ = some c4 ∧ w.cell? ⟨b, 5, none⟩ = some c5 ∧ w.cell? ⟨b, 6, none⟩ = some c6 ∧ w.cell? ⟨b, 7, none⟩ = some c7 ∧ w.cell? ⟨b, 8, none⟩ = some c8 := by
  refine ⟨?_, ?_, ?_, ?_, ?_, ?_, ?_, ?_, ?_⟩ <;> (rw [cell_of_row w b _ _ _ _ h]; rfl)
theorem ft_own (B : Nat) : OwnFrom B (fun (pre : List (Nat × RS)) W => ∀ x ∈ pre, FT x.2 W) := fun pre X Y row h hg hr x hx =>
  (h x hx).keep (B := 0) ⟨⟨hg.os, hg.tape, hg.output, hg.size, fun k hk => absurd hk (Nat.not_lt_zero k)⟩, fun k hk => by
    refine hg.block k hk.lt (fun e' => ?_)
    obtain ⟨_, o, ho, hc⟩ := hr k e'.symm
    obtain ⟨q, cs, hq, hh⟩ := hk
    rw [hh] at ho
    cases ho
    cases hc⟩
theorem others_calls (wb : Nat) (w : World) : Calls Try.prog 100 #[.pointer (some ⟨wb, 0, none⟩)] w fun e w' => e = .returned (.func (.func 143) #[] #[.pointer (some ⟨w.heap.size, 0, none⟩)]) ∧ w' = w.alloc (.cells #[.pointer (some ⟨wb, 0, none⟩)] 23) := by
  have hu23 := Try.underlying23
  go_enter Try.func100, Try.ntmps100
  go_wp2
  go_ret
  exact ⟨rfl, rfl⟩
set_option maxRecDepth 100000 in
set_option maxHeartbeats 8000000 in
theorem append_seq (lb : Array Value) (S Sp : List (Nat × RS) → Prop) (w : World) (hseq : GoodSeq 143 lb encC (KeepU w.heap.size) (fun x W => FT x.2 W) S Sp 90000 w) :
    Calls Try.prog 142 #[.slice none 0 0, .func (.func 143) #[] lb] w fun e w' => ∃ v0 xs, e = .returned v0 ∧ S xs ∧ CRow w.heap.size v0 xs w' ∧ RowKit.Below w.heap.size w w' := by
  have hu60 := Try.underlying60
  have hu67 := Try.underlying67
  obtain ⟨i0, hi, hz0, hz1, hz2⟩ := info_parts info67
  refine (callsIn_wide (n := 6)).1 ?_
  refine callsIn_of_wp_marks Try.func142 rfl trivial ?_ rfl
  simp only [Try.ntmps142, List.size_toArray, List.length_cons, List.length_nil, Nat.reduceAdd, Nat.reduceSub, Array.replicate_succ, Array.replicate_zero, List.push_toArray, List.append_toArray, List.nil_append, List.cons_append]
  gi_wp2_with fail
  have b2 := Boxed.new w 60 (.slice none 0 0)
  have hB0 : RowKit.Below w.heap.size w (w.alloc (.cells #[.slice none 0 0] 60)) := below_alloc (RowKit.Below.refl _ w) _
  have hsz : (w.alloc (.cells #[.slice none 0 0] 60)).heap.size = w.heap.size + 1 := by simp
  have ow0 : (w.alloc (.cells #[.slice none 0 0] 60)).ownsRow w.heap.size 67 9 (.slice none 0 0) 0 [] := ⟨rfl, .inl ⟨rfl, rfl⟩⟩
  obtain ⟨W0, hW0⟩ : ∃ W0, (w.alloc (.cells #[.slice none 0 0] 60)) = W0 := ⟨_, rfl⟩
  rw [hW0] at b2 hB0 hsz ow0 ⊢
  clear hW0
  refine range_all rfl (enters_of Try.func143 (by kernel_rfl) rfl) hseq KeepU.trans (fun W l o o' hl h1 h2 h3 => KeepU.put (w := W0) (by omega) W l o o' hl h1 h2 h3) (fun h k => h.keep k) hB0 (fun _ => rfl)
    (fun pre W => (∃ v, Boxed W w.heap.size 60 v ∧ W.ownsRow w.heap.size 67 9 v pre.length (flatC pre) ∧ True) ∧ RowKit.Below w.heap.size w W ∧ ∀ x ∈ pre, FT x.2 W)
    (OwnFrom.and (Own.from (holdsRow_own w.heap.size w.heap.size 60 67 9 (fun pre : List (Nat × RS) => pre.length) (fun pre : List (Nat × RS) => flatC pre) (fun _ _ => True)) _) (OwnFrom.and (ownFrom_below (Nat.le_refl _) (by omega)) (ft_own _)))
    ⟨⟨_, b2, ow0, trivial⟩, hB0, fun x hx => by simp at hx⟩
    (fun x a' W => ∃ Bx, w.heap.size < Bx ∧ W.heap[Bx]? = some (.cells (cellsC x).toArray 67 (0, 0)) ∧ a' = { tmps := #[.slice none 0 0, .func (.func 143) #[] lb, .pointer (some ⟨w.heap.size, 0, none⟩), undef, .slice none 0 0, .pointer (some ⟨Bx, 0, none⟩), .func (.func 143) #[] lb, .agg #[.int .i64 x.1, .int .i64 x.2.x.f0, .bool (!x.2.x.f1), .int .i64 x.2.x.f2.f0, .int .i64 x.2.x.f2.f1, .int .i64 x.2.x.f2.f2, .string x.2.x.f2.f3, .slice x.2.a4 x.2.x.f2.f4.length x.2.c4, .slice x.2.a5 x.2.x.f2.f5.length x.2.c5], undef, undef, undef, undef, undef], defers := [] })
    (fun x a' _ X Y row hs hg hr => by
      obtain ⟨Bx, e1, e2, e3⟩ := hs
      refine ⟨Bx, e1, (hg.block Bx (blk_lt e2) (fun e' => ?_)).trans e2, e3⟩
      obtain ⟨_, o, ho, hc⟩ := hr Bx e'.symm
      rw [e2] at ho
      cases ho
      cases hc)
    ?assign ?body ?done
  case assign =>
    rintro l pre x W K ⟨⟨v1, bR1, hrow, -⟩, hB1, hFT⟩ hK
    dsimp only [encC]
    gi_wp2
    exact hK _ _ ((KeepsOthers.alloc _ _).from _) (KeepU.of_below hB1.size (below_alloc (RowKit.Below.refl _ W) _)) ⟨⟨_, bR1.alloc _, hrow.alloc _, trivial⟩, hB1.alloc hB1.size _, fun y hy => (hFT y hy).keep (KeepU.of_below hB1.size (below_alloc (RowKit.Below.refl _ W) _))⟩ ⟨W.heap.size, bR1.lt, World.alloc_heap_new W _, rfl⟩
  case body =>
    rintro l pre x a' W ⟨⟨v1, bR1, hrow, -⟩, hB1, hFT⟩ ⟨Bx, hBx, bX, rfl⟩ hgood hlt
    obtain ⟨x0, x1, x2, x3, x4, x5, x6, x7, x8⟩ := box9 bX
    have cR := bR1.cell
    have fR := bR1.frozen
    have hsW := hB1.size
    gi_wp2_with (gi_at_builtin; refine wpListIn_append_own _ rfl _ _ 60 rfl w.heap.size 67 i0 _ 9 112 Try.underlying60 hi hz0 hz1 hz2 rfl (by decide) _ _ _ rfl (hrow.alloc _) ⟨W.heap.size, 0, none⟩ 1 1 (cellsC x) rfl rfl (cellsC_new W (cellsC x) _) (by simp [cellsC, Value.oneCell']) (by simp [maxLen]; omega) (by omega) (by simp; omega) ?_; intro v' w1 hown' hgrow _; obtain ⟨g', cap', rfl⟩ := ownsRow_succ hown'; obtain ⟨hv1, hv2, hr2, hk2, hb2⟩ := bR1.appended (by decide) hrow hB1.size (by omega) hown' hgrow; have hc1 := hv1.cell; have hf1 := hv1.frozen)
    have hr3 : (w1.setCell ⟨w.heap.size, 0, none⟩ (.slice (some ⟨g', 0, none⟩) (pre.length + 1) cap')).ownsRow w.heap.size 67 9 (.slice (some ⟨g', 0, none⟩) (pre.length + 1) cap') (pre ++ [x]).length (flatC (pre ++ [x])) := by rw [List.length_append, flatC_snoc]; exact hr2
    have hku := (KeepU.of_below hB1.size (below_alloc (RowKit.Below.refl _ W) (.cells (cellsC x).toArray 67))).trans ((KeepU.grown (B := w.heap.size) hgrow (hrow.alloc _) (Nat.le_refl _) (by simp; omega) (by decide)).trans (KeepU.box hv1 (Nat.le_refl _) (by decide) (.slice (some ⟨g', 0, none⟩) (pre.length + 1) cap')))
    exact ⟨hk2.from _, hku, ⟨_, hv2, hr3, trivial⟩, hB1.trans hb2, fun y hy => by
      rcases List.mem_append.1 hy with hy | hy
      · exact (hFT y hy).keep hku
      · obtain rfl := List.mem_singleton.1 hy
        exact hgood.keep hku⟩
  case done =>
    rintro D ys W hD hS ⟨⟨v1, bR1, hrow, -⟩, hB1, hFT⟩ hK
    have cR := bR1.cell
    have hkd := KeepU.put (B := w.heap.size) (w := w) (Nat.le_refl _) W D _ (.deferred none) (by omega) hK rfl rfl
    gi_wp2
    refine ⟨by simp, .inl ⟨_, _, rfl, run_takeDeferred hK, ?_⟩⟩
    exact ⟨_, results_tmp rfl _ _ _, v1, ys, rfl, hS, ⟨ownsRow_putObj hrow _ hK rfl, fun y hy => (hFT y hy).keep (KeepU.put (B := w.heap.size) (w := w) (Nat.le_refl _) W D _ _ (by omega) hK rfl rfl)⟩, hB1.trans (belowK_b (w := w) (Nat.le_refl _) W D _ _ (by omega) hK rfl rfl)⟩
set_option maxHeartbeats 4000000 in
theorem collect_calls (lb : Array Value) (S Sp : List (Nat × RS) → Prop) (w : World) (hseq : GoodSeq 143 lb encC (KeepU w.heap.size) (fun x W => FT x.2 W) S Sp 90000 w) :
    Calls Try.prog 99 #[.func (.func 143) #[] lb] w fun e w' => ∃ v0 xs, e = .returned v0 ∧ S xs ∧ CRow w.heap.size v0 xs w' ∧ RowKit.Below w.heap.size w w' := by
  have KA := Aside0.mk (append_seq lb S Sp w hseq)
  clear hseq
  go_enter Try.func99, Try.ntmps99
  go_wp2_with fail
  refine Calls.mono KA.out ?_
  rintro e w1 ⟨v0, xs, rfl, hS, hC, hb⟩
  have HP := Aside0.mk (And.intro hS (And.intro hC hb))
  clear hS hC hb
  go_wp2
  go_ret
  exact ⟨v0, xs, rfl, HP.out.1, HP.out.2.1, HP.out.2.2⟩
theorem CRow.lower {b b' : Nat} {v : Value} {xs : List (Nat × RS)} {W : World} (h : CRow b v xs W) (hb : b' ≤ b) : CRow b' v xs W := ⟨own_weaken h.1 hb, h.2⟩
set_option maxHeartbeats 8000000 in
theorem changes_calls (b0 : Nat) (L : WL) (s : WS) (w : World) (h : WorkIs b0 L s w) (hl9 : L.rs.length ≤ 90000) (hfn : ∀ x ∈ s.now, fewV x.f2) (hfb : ∀ x ∈ s.base, fewV x.f2) :
    Calls Try.prog 33 #[.pointer (some ⟨L.wb, 0, none⟩)] w fun e w' => ∃ v0 xs, e = .returned v0 ∧ xs.map strC = chgs s s.now.length ∧ CRow w.heap.size v0 xs w' ∧ RowKit.Below w.heap.size w w' := by
  have hu23 := Try.underlying23
  have H := Aside0.mk h
  have HP := Aside0.mk (And.intro hl9 (And.intro hfn hfb))
  clear h hl9 hfn hfb
  go_enter Try.func33, Try.ntmps33
  go_wp2_with fail
  refine Calls.mono (others_calls L.wb w) ?_
  rintro e w1 ⟨rfl, rfl⟩
  have hb1 := below_alloc (RowKit.Below.refl w.heap.size w) (.cells #[.pointer (some ⟨L.wb, 0, none⟩)] 23)
  have KC := Aside0.mk (collect_calls _ _ _ _ (others143 b0 L s w.heap.size _ (H.out.below hb1) HP.out.1 HP.out.2.1 HP.out.2.2 (blk_new w _)))
  have HB := Aside0.mk hb1
  clear hb1
  go_wp2_with fail
  refine Calls.mono KC.out ?_
  rintro e w2 ⟨v0, xs, rfl, hS, hC, hb⟩
  have HR := Aside0.mk (And.intro hS (And.intro (hC.lower HB.out.size) (HB.out.trans (hb.mono HB.out.size))))
  clear hS hC hb
  go_wp2
  go_ret
  exact ⟨v0, xs, rfl, HR.out.1, HR.out.2.1, HR.out.2.2⟩
end Go.Proofs.Ytogpnkkoablmiaa.V
end
section
namespace Go.Proofs.Ytogpnkkoablmiaa.V
open Go.Proofs.Ytogpnkkoablmiaa.P Go.Shelf Go.RowKit Go.Lib Go.Sort Go.Proofs.Ytogpnkkoablmiaa.Q Go.Proofs.YtogpnkkoablmiaaW.PrintWords Go.Proofs.YtogpnkkoablmiaaW.PrintLast Go.Proofs.YtogpnkkoablmiaaW.PrintMore
set_option linter.unusedVariables false
set_option linter.unusedSimpArgs false
attribute [local go_sem high] eqA28
attribute [local go_sem] nzv_ne nzv_beq nzv_bne
attribute [local go_sem] Oper.semAt_some
noncomputable def dirtyB (s : WS) : Bool := !(chgs s s.now.length).isEmpty || !(s.rn == s.bn && s.rg == s.bg)
theorem keepB {B b t : Nat} {u : Value} {X Y : World} {row : Option Nat} (h : Boxed X b t u) (hg : X.grownBy Y row) (hr : ∀ r, row = some r → B ≤ r ∧ ∃ o : Obj, X.heap[r]? = some o ∧ o.isCells = false) : Boxed Y b t u :=
  (hg.block b h.lt (fun e' => by
    obtain ⟨_, o, ho, hc⟩ := hr b e'.symm
    rw [show X.heap[b]? = _ from h] at ho
    cases ho
    cases hc)).trans h
set_option maxRecDepth 100000 in
set_option maxHeartbeats 8000000 in
theorem dirty_calls (b0 : Nat) (L : WL) (s : WS) (w : World) (h : WorkIs b0 L s w) (hl9 : L.rs.length ≤ 90000) (hfn : ∀ x ∈ s.now, fewV x.f2) (hfb : ∀ x ∈ s.base, fewV x.f2) :
    Calls Try.prog 35 #[.pointer (some ⟨L.wb, 0, none⟩)] w fun e w' => e = .returned (.bool (dirtyB s)) ∧ RowKit.Below w.heap.size w w' := by
  have hu23 := Try.underlying23
  have hu28 := Try.underlying28
  have hu120 := Try.underlying120
  have hu123 := Try.underlying123
  have H := Aside0.mk h
  have hb1 : RowKit.Below w.heap.size w ((w.alloc (.cells #[.bool false] 4)).alloc (.cells #[.pointer (some ⟨L.wb, 0, none⟩)] 23)) := below_alloc (below_alloc (RowKit.Below.refl _ w) _) _
  have GS := Aside0.mk (others143 b0 L s (w.heap.size + 1) _ (h.below hb1) hl9 hfn hfb (by have := blk_new (w.alloc (.cells #[.bool false] 4)) (.cells #[.pointer (some ⟨L.wb, 0, none⟩)] 23); simpa using this))
  have HBX := Aside0.mk (show Boxed ((w.alloc (.cells #[.bool false] 4)).alloc (.cells #[.pointer (some ⟨L.wb, 0, none⟩)] 23)) w.heap.size 4 (.bool false) from (Boxed.new w 4 (.bool false)).alloc _)
  have HB := Aside0.mk hb1
  clear hl9 hfn hfb hb1 h
  refine (callsIn_wide (n := 6)).1 ?_
  refine callsIn_of_wp_marks Try.func35 rfl trivial ?_ rfl
  simp only [Try.ntmps35, List.size_toArray, List.length_cons, List.length_nil, Nat.reduceAdd, Nat.reduceSub, Array.replicate_succ, Array.replicate_zero, List.push_toArray, List.append_toArray, List.nil_append, List.cons_append]
  have h100 : Fence.wide.fn 100 := trivial
  gi_wp2_with (gi_at_call 100; refine (callsIn_wide.2 (others_calls L.wb _)).mono ?_; rintro e w' ⟨rfl, rfl⟩)
  have hsz : ((w.alloc (.cells #[.bool false] 4)).alloc (.cells #[.pointer (some ⟨L.wb, 0, none⟩)] 23)).heap.size = w.heap.size + 2 := by simp
  obtain ⟨W0, hW0⟩ : ∃ W0, ((w.alloc (.cells #[.bool false] 4)).alloc (.cells #[.pointer (some ⟨L.wb, 0, none⟩)] 23)) = W0 := ⟨_, rfl⟩
  rw [hW0] at GS HBX HB hsz
  (try simp only [World.size_alloc] at hW0 ⊢)
  rw [hW0]
  clear hW0
  refine wpIn_rangeFunc_ownH rfl (by decide) (gf := 143) (lb := #[.pointer (some ⟨w.heap.size + 1, 0, none⟩)]) rfl trivial (enters_of Try.func143 (by kernel_rfl) rfl)
    (GS.out.stops 5) KeepU.trans (fun W l o o' hl h1 h2 h3 => KeepU.put (w := W0) (Nat.le_refl _) W l o o' hl h1 h2 h3) (RowKit.Below.refl _ _) (fun _ => rfl)
    (fun pre W => Boxed W w.heap.size 4 (.bool false) ∧ RowKit.Below w.heap.size w W ∧ pre = [])
    (fun c pre W => c = .ret ∧ Boxed W w.heap.size 4 (.bool true) ∧ RowKit.Below w.heap.size w W)
    (fun pre X Y row hs hg hr => ⟨keepB hs.1 hg hr, (ownFrom_below (n₀ := w.heap.size) (w₀ := w) (β := Unit) (Nat.le_refl _) (by omega)) () X Y row hs.2.1 hg hr, hs.2.2⟩)
    (fun c pre X Y row hs hg hr => ⟨hs.1, keepB hs.2.1 hg hr, (ownFrom_below (n₀ := w.heap.size) (w₀ := w) (β := Unit) (Nat.le_refl _) (by omega)) () X Y row hs.2.2 hg hr⟩)
    ⟨HBX.out, HB.out, rfl⟩
    (fun x a' W => a' = { tmps := #[.pointer (some ⟨L.wb, 0, none⟩), undef, .pointer (some ⟨w.heap.size, 0, none⟩), .pointer (some ⟨L.wb, 0, none⟩), .bool false, .pointer (some ⟨L.wb, 0, none⟩), .func (.func 143) #[] #[.pointer (some ⟨w.heap.size + 1, 0, none⟩)], .agg #[.int .i64 x.1, .int .i64 x.2.x.f0, .bool (!x.2.x.f1), .int .i64 x.2.x.f2.f0, .int .i64 x.2.x.f2.f1, .int .i64 x.2.x.f2.f2, .string x.2.x.f2.f3, .slice x.2.a4 x.2.x.f2.f4.length x.2.c4, .slice x.2.a5 x.2.x.f2.f5.length x.2.c5], undef, undef, undef, undef, undef, undef, undef, undef, undef, undef, undef], defers := [] })
    (fun x a' _ X Y row hs hg hr => hs)
    ?assign ?body ?done ?stop
  case assign =>
    rintro l pre x W K hI hK
    dsimp only [encC]
    gi_wp2
    exact hK _ W (KeepsFrom.refl _ _) (KeepU.refl _ _) hI (by simp)
  case body =>
    rintro l pre x a' W hl ⟨r, hr⟩ ⟨hbx, hbw, rfl⟩ rfl hlt
    have cB := hbx.cell
    have fB := hbx.frozen
    gi_wp2
    exact ⟨(KeepsOthers.setCell _ _ _).from _, rfl, hbx.set _, hbw.setCell (Nat.le_refl _) _⟩
  case done =>
    rintro D ys W hD hS ⟨hbx, hbw, rfl⟩ hK
    have HBX2 := Aside0.mk hbx
    have HBW := Aside0.mk hbw
    have HKD := Aside0.mk hK
    obtain ⟨-, k1, k2, -, k4, k5, -⟩ := (H.out.below hbw).box
    have hlb := (H.out.below hbw).lt.1
    have hwl := hbx.lt
    have hch : chgs s s.now.length = [] := hS.symm
    clear hK hbx hbw hS
    gi_wp2_with fail
    obtain ⟨c, hc⟩ : ∃ c, c = (!(s.rn == s.bn) || !(s.rg == s.bg)) := ⟨_, rfl⟩
    refine wpIn_wide.2 (wp_mono (Q := Exit.then (fun a' W' => a' = { tmps := #[.pointer (some ⟨L.wb, 0, none⟩), undef, .pointer (some ⟨w.heap.size, 0, none⟩), .pointer (some ⟨L.wb, 0, none⟩), .bool false, .pointer (some ⟨L.wb, 0, none⟩), .func (.func 143) #[] #[.pointer (some ⟨w.heap.size + 1, 0, none⟩)], undef, .pointer (some ⟨L.wb, 0, none⟩), .pointer (some ⟨L.wb, 0, none⟩), .pointer (some ⟨L.wb, 0, none⟩), .pointer (some ⟨L.wb, 1, none⟩), .agg #[.int .i64 s.rn, .int .i64 s.rg], .pointer (some ⟨L.wb, 0, none⟩), .pointer (some ⟨L.wb, 0, none⟩), .pointer (some ⟨L.wb, 3, none⟩), .pointer (some ⟨L.wb, 4, none⟩), .agg #[.int .i64 s.bn, .int .i64 s.bg], .bool c], defers := [{ target := .collected D, args := #[] }] } ∧ W' = (W.setCell ⟨w.heap.size, 0, none⟩ (.bool c)).drew) (fun _ _ _ => False)) ?_ ?_)
    · refine start_ (n := 12) (S := (fun w' => w'.cell? ⟨L.wb, 1, none⟩ = some (.int .i64 s.rn) ∧ w'.cell? ⟨L.wb, 2, none⟩ = some (.int .i64 s.rg) ∧ w'.cell? ⟨L.wb, 4, none⟩ = some (.int .i64 s.bn) ∧ w'.cell? ⟨L.wb, 5, none⟩ = some (.int .i64 s.bg))) (ds := [11]) #[false, false, false, false, false, false, false, false, false, false, false, false] (by kernel_rfl) rfl rfl (by refine ⟨?_, ?_, ?_, ?_⟩ <;> go_simp) (fun hHeld => ?_)
      have HH := Aside0.mk hHeld
      clear hHeld
      refine pure_ (i := 0) (N := some 8) (v := ?_) (a' := ?_) #[true, false, false, false, false, false, false, false, false, false, false, false] rfl rfl (by kernel_rfl) (fun _ _ _ h => h) (Or.inl ⟨by rfl, ?_⟩) ?_ ?_
      rotate_left
      · intro w'
        go_simp
        with_reducible rfl
      rotate_left
      · simp only [Act.put, List.setIfInBounds_toArray, List.set_cons_zero, List.set_cons_succ]
        rfl
      refine pure_ (i := 1) (N := some 9) (v := ?_) (a' := ?_) #[true, true, false, false, false, false, false, false, false, false, false, false] rfl rfl (by kernel_rfl) (fun _ _ _ h => h) (Or.inl ⟨by rfl, ?_⟩) ?_ ?_
      rotate_left
      · intro w'
        go_simp
        with_reducible rfl
      rotate_left
      · simp only [Act.put, List.setIfInBounds_toArray, List.set_cons_zero, List.set_cons_succ]
        rfl
      refine pure_ (i := 2) (N := some 10) (v := ?_) (a' := ?_) #[true, true, true, false, false, false, false, false, false, false, false, false] rfl rfl (by kernel_rfl) (fun _ _ _ h => h) (Or.inl ⟨by rfl, ?_⟩) ?_ ?_
      rotate_left
      · intro w'
        go_simp
        with_reducible rfl
      rotate_left
      · simp only [Act.put, List.setIfInBounds_toArray, List.set_cons_zero, List.set_cons_succ]
        rfl
      refine pure_ (i := 3) (N := some 11) (v := ?_) (a' := ?_) #[true, true, true, true, false, false, false, false, false, false, false, false] rfl rfl (by kernel_rfl) (fun _ _ _ h => h) (Or.inl ⟨by rfl, ?_⟩) ?_ ?_
      rotate_left
      · intro w'
        go_simp
        with_reducible rfl
      rotate_left
      · simp only [Act.put, List.setIfInBounds_toArray, List.set_cons_zero, List.set_cons_succ]
        rfl
      refine take_ (i := 4) (N := some 12) (v := ?_) (a' := ?_) #[true, true, true, true, true, false, false, false, false, false, false, false] rfl rfl (by kernel_rfl) (fun _ _ _ h => h) (Or.inl ⟨by rfl, ?_⟩) HH.out ?_ ?_
      rotate_left
      · intro w' hSw
        (try dsimp only at hSw)
        go_split_ands
        go_simp
        with_reducible rfl
      rotate_left
      · simp only [Act.put, List.setIfInBounds_toArray, List.set_cons_zero, List.set_cons_succ]
        rfl
      refine pure_ (i := 5) (N := some 13) (v := ?_) (a' := ?_) #[true, true, true, true, true, true, false, false, false, false, false, false] rfl rfl (by kernel_rfl) (fun _ _ _ h => h) (Or.inl ⟨by rfl, ?_⟩) ?_ ?_
      rotate_left
      · intro w'
        go_simp
        with_reducible rfl
      rotate_left
      · simp only [Act.put, List.setIfInBounds_toArray, List.set_cons_zero, List.set_cons_succ]
        rfl
      refine pure_ (i := 6) (N := some 14) (v := ?_) (a' := ?_) #[true, true, true, true, true, true, true, false, false, false, false, false] rfl rfl (by kernel_rfl) (fun _ _ _ h => h) (Or.inl ⟨by rfl, ?_⟩) ?_ ?_
      rotate_left
      · intro w'
        go_simp
        with_reducible rfl
      rotate_left
      · simp only [Act.put, List.setIfInBounds_toArray, List.set_cons_zero, List.set_cons_succ]
        rfl
      refine pure_ (i := 7) (N := some 15) (v := ?_) (a' := ?_) #[true, true, true, true, true, true, true, true, false, false, false, false] rfl rfl (by kernel_rfl) (fun _ _ _ h => h) (Or.inl ⟨by rfl, ?_⟩) ?_ ?_
      rotate_left
      · intro w'
        go_simp
        with_reducible rfl
      rotate_left
      · simp only [Act.put, List.setIfInBounds_toArray, List.set_cons_zero, List.set_cons_succ]
        rfl
      refine pure_ (i := 8) (N := some 16) (v := ?_) (a' := ?_) #[true, true, true, true, true, true, true, true, true, false, false, false] rfl rfl (by kernel_rfl) (fun _ _ _ h => h) (Or.inl ⟨by rfl, ?_⟩) ?_ ?_
      rotate_left
      · intro w'
        go_simp
        with_reducible rfl
      rotate_left
      · simp only [Act.put, List.setIfInBounds_toArray, List.set_cons_zero, List.set_cons_succ]
        rfl
      refine take_ (i := 9) (N := some 17) (v := ?_) (a' := ?_) #[true, true, true, true, true, true, true, true, true, true, false, false] rfl rfl (by kernel_rfl) (fun _ _ _ h => h) (Or.inl ⟨by rfl, ?_⟩) HH.out ?_ ?_
      rotate_left
      · intro w' hSw
        (try dsimp only at hSw)
        go_split_ands
        go_simp
        with_reducible rfl
      rotate_left
      · simp only [Act.put, List.setIfInBounds_toArray, List.set_cons_zero, List.set_cons_succ]
        rfl
      refine pure_ (i := 10) (N := some 18) (v := ?_) (a' := ?_) #[true, true, true, true, true, true, true, true, true, true, true, false] rfl rfl (by kernel_rfl) (fun _ _ _ h => h) (Or.inl ⟨by rfl, ?_⟩) ?_ ?_
      rotate_left
      · intro w'
        go_simp
        (try simp only [HNE])
        with_reducible rfl
      rotate_left
      · simp only [Act.put, List.setIfInBounds_toArray, List.set_cons_zero, List.set_cons_succ]
        rfl
      refine chain_ [11] _ _ _ _ (⟨_, _, rfl, rfl, rfl⟩) (by kernel_rfl) (by decide) ?_
      have cB := HBX2.out.cell
      have fB := HBX2.out.frozen
      go_wp2
      rw [hc]
      exact ⟨rfl, rfl⟩
    · intro e a' W' h
      cases e with
      | normal =>
        obtain ⟨rfl, rfl⟩ := h
        gi_wp2
        have hbs : Boxed (W.setCell ⟨w.heap.size, 0, none⟩ (.bool c)).drew w.heap.size 4 (.bool c) := HBX2.out.set (.bool c)
        have hKd : (W.setCell ⟨w.heap.size, 0, none⟩ (.bool c)).drew.heap[D]? = some (.deferred (some [])) := (Below.heap_setCell W ⟨w.heap.size, 0, none⟩ (.bool c) D (by show D ≠ w.heap.size; omega)).trans HKD.out
        have hbp : Boxed ((W.setCell ⟨w.heap.size, 0, none⟩ (.bool c)).drew.putObj D (.deferred none)) w.heap.size 4 (.bool c) := (World.putObj_heap_other (by omega)).trans hbs
        have cP := hbp.cell
        refine ⟨by simp, .inl ⟨_, _, rfl, run_takeDeferred hKd, ?_⟩⟩
        refine ⟨.bool c, ?_, ?_, ?_⟩
        · simp [results, Try.results35, go_sem, cP]
        · rw [hc]
          unfold dirtyB
          rw [hch]
          cases s.rn == s.bn <;> cases s.rg == s.bg <;> rfl
        · exact ((HBW.out.setCell (Nat.le_refl _) _).drew).trans (belowK_b (w := w) (Nat.le_refl _) _ D _ _ (by omega) hKd rfl rfl)
      | ret => exact h.elim
      | exit id => exact h.elim
      | goto t => exact h.elim
      | panic ch => exact h.elim
      | outgrown => exact h.elim
  case stop =>
    rintro D c pre W hD hS ⟨rfl, hbx, hbw⟩ hK
    gi_wp2
    have hbp : Boxed (W.putObj D (.deferred none)) w.heap.size 4 (.bool true) := (World.putObj_heap_other (by omega)).trans hbx
    have cP := hbp.cell
    refine ⟨by simp, .inl ⟨_, _, rfl, run_takeDeferred hK, ?_⟩⟩
    refine ⟨.bool true, ?_, ?_, ?_⟩
    · simp [results, Try.results35, go_sem, cP]
    · have hne : (chgs s s.now.length).isEmpty = false := by simpa using hS
      unfold dirtyB
      rw [hne]
      rfl
    · exact hbw.trans (belowK_b (w := w) (Nat.le_refl _) W D _ _ (by omega) hK rfl rfl)
end Go.Proofs.Ytogpnkkoablmiaa.V
end
section
namespace Go.Proofs.Ytogpnkkoablmiaa.V
open Go.Proofs.Ytogpnkkoablmiaa.P Go.Shelf Go.RowKit Go.Lib Go.Sort Go.Proofs.Ytogpnkkoablmiaa.Q Go.Proofs.YtogpnkkoablmiaaW.PrintWords Go.Proofs.YtogpnkkoablmiaaW.PrintLast Go.Proofs.YtogpnkkoablmiaaW.PrintMore
set_option linter.unusedVariables false
set_option linter.unusedSimpArgs false
attribute [local go_sem high] eqA28
attribute [local go_sem] nzv_ne nzv_beq nzv_bne
attribute [local go_sem] Oper.semAt_some
theorem alloc_nil (w : World) : Calls Try.prog 20 #[.pointer none] w fun e w' => e = .returned (.tuple #[.agg #[.int .i64 0, .int .i64 0], .int .i64 1]) ∧ RowKit.Below w.heap.size w w' := by
  have hu23 := Try.underlying23
  have hu28 := Try.underlying28
  have HB := below_alloc (RowKit.Below.refl w.heap.size w) (.cells #[.int .i64 0, .int .i64 0] 28)
  obtain ⟨z0, z1⟩ := box2 (blk_new w (.cells #[.int .i64 0, .int .i64 0] 28))
  go_enter Try.func20, Try.ntmps20
  go_wp2
  refine bodyPost_ret (v := .tuple #[.agg #[.int .i64 0, .int .i64 0], .int .i64 1]) (by simp [results, Try.results20, go_sem, z0, z1]) rfl ⟨rfl, HB⟩
theorem settle_nil (w : World) : Calls Try.prog 25 #[.pointer none] w fun e w' => e = .returned (.int .i64 1) ∧ w' = w := by
  have hu23 := Try.underlying23
  go_enter Try.func25, Try.ntmps25
  go_wp2
  go_ret
  exact ⟨rfl, rfl⟩
theorem reset_nil (w : World) : Calls Try.prog 38 #[.pointer none] w fun e w' => e = .returned (.int .i64 1) ∧ w' = w := by
  have hu23 := Try.underlying23
  go_enter Try.func38, Try.ntmps38
  go_wp2
  go_ret
  exact ⟨rfl, rfl⟩
theorem root_nil (w : World) : Calls Try.prog 31 #[.pointer none] w fun e w' => e = .returned (.agg #[.int .i64 0, .int .i64 0]) ∧ RowKit.Below w.heap.size w w' := by
  have hu23 := Try.underlying23
  have hu28 := Try.underlying28
  have HB := below_alloc (RowKit.Below.refl w.heap.size w) (.cells #[.int .i64 0, .int .i64 0] 28)
  obtain ⟨z0, z1⟩ := box2 (blk_new w (.cells #[.int .i64 0, .int .i64 0] 28))
  go_enter Try.func31, Try.ntmps31
  go_wp2
  refine bodyPost_ret (v := .agg #[.int .i64 0, .int .i64 0]) (by simp [results, Try.results31, go_sem, z0, z1]) rfl ⟨rfl, HB⟩
theorem slots_nil (w : World) : Calls Try.prog 30 #[.pointer none] w fun e w' => e = .returned (.slice none 0 0) ∧ w' = w := by
  have hu23 := Try.underlying23
  go_enter Try.func30, Try.ntmps30
  go_wp2
  go_ret
  exact ⟨rfl, rfl⟩
theorem changes_nil (w : World) : Calls Try.prog 33 #[.pointer none] w fun e w' => e = .returned (.slice none 0 0) ∧ w' = w := by
  have hu23 := Try.underlying23
  go_enter Try.func33, Try.ntmps33
  go_wp2
  go_ret
  exact ⟨rfl, rfl⟩
theorem dirty_nil (w : World) : Calls Try.prog 35 #[.pointer none] w fun e w' => e = .returned (.bool false) ∧ RowKit.Below w.heap.size w w' := by
  have hu23 := Try.underlying23
  have HB := below_alloc (RowKit.Below.refl w.heap.size w) (.cells #[.bool false] 4)
  have cP := (Boxed.new w 4 (.bool false)).cell
  go_enter Try.func35, Try.ntmps35
  go_wp2
  refine bodyPost_ret (v := .bool false) (by simp [results, Try.results35, go_sem, cP]) rfl ⟨rfl, HB⟩
theorem slot_nil (n g : Int) (w : World) : Calls Try.prog 88 #[.pointer none, .agg #[.int .i64 n, .int .i64 g]] w fun e w' => e = .returned (.tuple #[.pointer none, .int .i64 1]) ∧ RowKit.Below w.heap.size w w' := by
  have hu23 := Try.underlying23
  have hu28 := Try.underlying28
  have HB := below_alloc (RowKit.Below.refl w.heap.size w) (.cells #[.int .i64 n, .int .i64 g] 28)
  go_enter Try.func88, Try.ntmps88
  go_wp2
  refine bodyPost_ret (v := .tuple #[.pointer none, .int .i64 1]) (by simp [results, Try.results88, go_sem]) rfl ⟨rfl, HB⟩
theorem put_nil (n g : Int) (v : S35) (A4 : Option Addr) (c4 : Nat) (A5 : Option Addr) (c5 : Nat) (w : World) : Calls Try.prog 24 #[.pointer none, .agg #[.int .i64 n, .int .i64 g], .agg #[.int .i64 v.f0, .int .i64 v.f1, .int .i64 v.f2, .string v.f3, .slice A4 v.f4.length c4, .slice A5 v.f5.length c5]] w fun e w' => e = .returned (.int .i64 1) ∧ RowKit.Below w.heap.size w w' := by
  have hu23 := Try.underlying23
  have hu28 := Try.underlying28
  have hu35 := Try.underlying35
  go_enter Try.func24, Try.ntmps24
  go_wp2_with fail
  refine Calls.mono (slot_nil n g _) ?_
  rintro e w1 ⟨rfl, hb⟩
  have HB := Aside0.mk (below_step (below_alloc (below_alloc (RowKit.Below.refl w.heap.size w) _) _) hb)
  clear hb
  go_wp2
  go_ret
  exact ⟨rfl, HB.out⟩
end Go.Proofs.Ytogpnkkoablmiaa.V
end
section
namespace Go.Proofs.Ytogpnkkoablmiaa.V
open Go.Proofs.Ytogpnkkoablmiaa.P Go.Shelf Go.RowKit Go.Lib Go.Sort Go.Proofs.Ytogpnkkoablmiaa.Q Go.Proofs.YtogpnkkoablmiaaW.PrintWords Go.Proofs.YtogpnkkoablmiaaW.PrintLast Go.Proofs.YtogpnkkoablmiaaW.PrintMore
set_option linter.unusedVariables false
set_option linter.unusedSimpArgs false
attribute [local go_sem high] eqA28
attribute [local go_sem] nzv_ne nzv_beq nzv_bne
attribute [local go_sem] Oper.semAt_some
theorem plain_few : ∀ v : S35, fewV v → fewV (plain v) := by
  refine S35.ind ?_
  intro v ih4 ih5 hf
  obtain ⟨h4, h5, hl, hd⟩ := fewV_at hf
  have hp : ∀ p ∈ pairsP v.f5, fewV p.f1 := fun p hp => by
    obtain ⟨⟨q, hq, e⟩, _⟩ := pairsP_mem hp
    rw [e]
    exact ih5 q hq (hd q hq)
  have hpl := pairsP_len v.f5
  have hll : ∀ x ∈ v.f4.map plain, fewV x := fun x hx => by
    obtain ⟨y, hy, rfl⟩ := List.mem_map.1 hx
    exact ih4 y hy (hl y hy)
  have h0 : ∀ x ∈ ([] : List S35), fewV x := fun x hx => by simp at hx
  have h1 : ∀ p ∈ ([] : List S89), fewV p.f1 := fun x hx => by simp at hx
  rw [plain_eq]
  split
  · exact fewV_of (by simp) (by simp) h0 h1
  split
  · exact fewV_of (by simp) (by simp) h0 h1
  split
  · exact fewV_of (by simpa using h4) (by simp) hll h1
  split
  · exact fewV_of (by simp) (Nat.le_trans hpl h5) h0 hp
  split
  · exact fewV_of (by simp) (by simp) h0 h1
  split
  · exact fewV_of (by simp) (Nat.le_trans hpl h5) h0 hp
  · exact fewV_of (by simp [z35]) (by simp [z35]) h0 h1
def Wk (b0 wb : Nat) (X : Nat → Prop) (s : WS) (W : World) : Prop := ∃ L : WL, L.wb = wb ∧ WorkIs b0 L s W ∧ ∀ k, X k → L.z k
def Mv (b0 : Nat) (X : Nat → Prop) (W W' : World) : Prop := RowKit.Below b0 W W' ∧ (∀ (k : Nat) (cs : Array Value) (q : Nat), q ≠ 123 → q ≠ 69 → W.heap[k]? = some (.cells cs q (0, 0)) → W'.heap[k]? = some (.cells cs q (0, 0))) ∧ ∀ k, X k → W'.heap[k]? = W.heap[k]?
theorem Mv.trans {b0 : Nat} {X : Nat → Prop} {A B C : World} (h : Mv b0 X A B) (k : Mv b0 X B C) : Mv b0 X A C := ⟨h.1.trans k.1, fun i cs q h1 h2 hi => k.2.1 i cs q h1 h2 (h.2.1 i cs q h1 h2 hi), fun i hi => (k.2.2 i hi).trans (h.2.2 i hi)⟩
theorem mv_of {b0 : Nat} {X : Nat → Prop} {L : WL} {s : WS} {W W' : World} (h : WorkIs b0 L s W) (hX : ∀ k, X k → L.z k) (hm : Moves b0 L.S W W') : Mv b0 X W W' :=
  ⟨hm.1, fun k cs q h1 h2 hk => (hm.2.2 k (blk_lt hk) (by
    rintro (rfl | rfl)
    · rw [h.2.2.2.1] at hk
      injection hk with hk; injection hk with _ hq _
      exact h1 hq.symm
    · obtain ⟨cells, hc⟩ := own_typed h.2.2.2.2.1 L.g rfl
      rw [hc] at hk
      injection hk with hk; injection hk with _ hq _
      exact h2 hq.symm)).trans hk, fun k hk => hm.2.2 k (h.2.2.2.2.2.2.2.2.2 k (hX k hk)).1 (h.2.2.2.2.2.2.2.2.2 k (hX k hk)).2⟩
theorem wk_of {b0 : Nat} {X : Nat → Prop} {L : WL} {s s' : WS} {W W' : World} (h : WorkIs b0 L s W) (hX : ∀ k, X k → L.z k) (hp : AllPost b0 L s' W W') : Wk b0 L.wb X s' W' ∧ Mv b0 X W W' := by
  obtain ⟨L', h1, h2, h3, h4, h5⟩ := hp
  exact ⟨⟨L', h1, h3, fun k hk => by rw [h5]; exact hX k hk⟩, mv_of h hX h4⟩
theorem Wk.below {b0 wb : Nat} {X : Nat → Prop} {s : WS} {W W' : World} (h : Wk b0 wb X s W) (hb : RowKit.Below W.heap.size W W') : Wk b0 wb X s W' := by
  obtain ⟨L, e, hw, hX⟩ := h
  exact ⟨L, e, hw.below hb, hX⟩
theorem WorkIs.grown {b0 : Nat} {L : WL} {s : WS} {W W' : World} {row : Option Nat} (h : WorkIs b0 L s W) (hg : W.grownBy W' row) (hr : ∀ r, row = some r → L.z r) :
    WorkIs b0 { L with z := fun k => L.z k ∨ (W.heap.size ≤ k ∧ k < W'.heap.size) } s W' := by
  have hl := h.lt
  obtain ⟨h1, h2, h3, h4, h5, h6, h7, h8, h9, hz⟩ := h
  have hk : Kept W W' L.z := ⟨hg.size, fun i hi hn => hg.block i hi (fun e => hn (hr i e.symm))⟩
  have hM : ∀ k, (¬ L.N k ∧ k < W.heap.size) → ¬ WL.N { L with z := fun k => L.z k ∨ (W.heap.size ≤ k ∧ k < W'.heap.size) } k := fun k hk => by
    rintro (e | e | e)
    · exact hk.1 (.inl e)
    · exact hk.1 (.inr e)
    · have := hk.2; omega
  refine ⟨h1, h2, h3, ?_, ?_, h6, fun y hy => FV.mono (FV.kept (FV.bound (h7 y hy)) hk (fun k hk e => hk.1 (.inr e))) hM, h8, Kd.F_mono (Kd.F_kept (Kd.F_bound h9) hk (fun k hk e => hk.1 (.inr e))) hM, ?_⟩
  · exact (hk.2 L.wb hl.1 (fun e => (hz _ e).2 (.inl rfl))).trans h4
  · exact own_move h5 (fun k hk' => hk.2 k (h5.lt k hk').2 (fun e => (hz _ e).2 (.inr (by have : k = L.g := by simpa [Value.ownBlock] using hk'.symm
                                                                                          exact this))))
  · rintro k (e | e)
    · exact ⟨Nat.lt_of_lt_of_le (hz k e).1 hg.size, (hz k e).2⟩
    · refine ⟨e.2, ?_⟩
      rintro (e2 | e2)
      · have e2 : k = L.wb := e2
        omega
      · have e2 : k = L.g := e2
        omega
theorem Wk.grown {b0 wb : Nat} {X : Nat → Prop} {s : WS} {W W' : World} {row : Option Nat} (h : Wk b0 wb X s W) (hg : W.grownBy W' row) (hr : ∀ r, row = some r → X r) : Wk b0 wb (fun k => X k ∨ (W.heap.size ≤ k ∧ k < W'.heap.size)) s W' := by
  obtain ⟨L, e, hw, hX⟩ := h
  exact ⟨{ L with z := fun k => L.z k ∨ (W.heap.size ≤ k ∧ k < W'.heap.size) }, e, hw.grown hg (fun r e => hX r (hr r e)), fun k hk => Or.elim hk (fun e => Or.inl (hX k e)) (fun e => Or.inr e)⟩
theorem Wk.fresh {b0 wb : Nat} {X : Nat → Prop} {s : WS} {W W' : World} (h : Wk b0 wb X s W) (hb : RowKit.Below W.heap.size W W') : Wk b0 wb (fun k => X k ∨ (W.heap.size ≤ k ∧ k < W'.heap.size)) s W' :=
  h.grown (row := none) ⟨hb.os, hb.tape, hb.output, hb.size, fun k hk _ => hb.block k hk⟩ (fun r e => by cases e)
theorem Wk.frees {b0 wb : Nat} {X Y : Nat → Prop} {s : WS} {W : World} (h : Wk b0 wb X s W) (hY : ∀ k, Y k → X k) : Wk b0 wb Y s W := by
  obtain ⟨L, e, hw, hX⟩ := h
  exact ⟨L, e, hw, fun k hk => hX k (hY k hk)⟩
theorem Mv.of_below {b0 : Nat} {X : Nat → Prop} {W W' : World} (h0 : b0 ≤ W.heap.size) (hX : ∀ k, X k → k < W.heap.size) (hb : RowKit.Below W.heap.size W W') : Mv b0 X W W' := ⟨hb.mono h0, fun k cs q _ _ hk => blk_below hk hb, fun k hk => hb.block k (hX k hk)⟩
theorem Mv.blk {b0 : Nat} {X : Nat → Prop} {W W' : World} (h : Mv b0 X W W') {k q : Nat} {cs : Array Value} (hk : W.heap[k]? = some (.cells cs q (0, 0))) (h1 : q ≠ 123 := by decide) (h2 : q ≠ 69 := by decide) : W'.heap[k]? = some (.cells cs q (0, 0)) := h.2.1 k cs q h1 h2 hk
theorem Mv.row {b0 : Nat} {X : Nat → Prop} {W W' : World} (h : Mv b0 X W W') {base e size n : Nat} {v : Value} {xs : List Value} (ho : W.ownsRow base e size v n xs) (h1 : e ≠ 123 := by decide) (h2 : e ≠ 69 := by decide) : W'.ownsRow base e size v n xs :=
  own_move ho (fun k hk => by
    obtain ⟨cells, hc⟩ := own_typed ho k hk
    exact (h.2.1 k cells e h1 h2 hc).trans hc.symm)
def OkX (x : S69) : Prop := fewV x.f2 ∧ 0 ≤ x.f0 ∧ x.f0 ≤ 65535
def OkS (s : WS) : Prop := (∀ x ∈ s.now, OkX x) ∧ (∀ x ∈ s.base, OkX x) ∧ 0 < s.now.length ∧ 0 < s.base.length
theorem z35_few : fewV z35 := fewV_of (by simp [z35]) (by simp [z35]) (fun x hx => by simp [z35] at hx) (fun x hx => by simp [z35] at hx)
theorem set_all {s : List S69} {i : Nat} {y : S69} (h : ∀ x ∈ s, OkX x) (hy : OkX y) : ∀ x ∈ s.set i y, OkX x := fun x hx => by
  rcases List.mem_or_eq_of_mem_set hx with hx | rfl
  · exact h x hx
  · exact hy
theorem okx_at {s : List S69} (h : ∀ x ∈ s, OkX x) (i : Nat) : OkX (s.getD i z69) := by
  by_cases hi : i < s.length
  · exact h _ (getD_mem _ _ hi _)
  · rw [List.getD_eq_getElem?_getD, List.getElem?_eq_none (by omega)]
    exact ⟨z35_few, by simp [z69], by simp [z69]⟩
theorem ok_alloc {s : WS} (h : OkS s) : OkS (allocS s) := by
  obtain ⟨h1, h2, h3, h4⟩ := h
  unfold allocS
  split
  · exact ⟨set_all h1 (okx_at h1 _), h2, by simpa using h3, h4⟩
  split
  · exact ⟨h1, h2, h3, h4⟩
  · refine ⟨fun x hx => ?_, h2, by simp, h4⟩
    rcases List.mem_append.1 hx with hx | hx
    · exact h1 x hx
    · obtain rfl := List.mem_singleton.1 hx
      exact ⟨z35_few, by simp, by simp⟩
theorem alloc_len (s : WS) : (allocS s).now.length ≤ s.now.length + 1 := by
  unfold allocS
  split
  · simp
  split
  · omega
  · simp
theorem ok_put {s : WS} (h : OkS s) (n g : Int) (v : S35) (hf : fewV v) : OkS (putW s n g v) := by
  obtain ⟨h1, h2, h3, h4⟩ := h
  unfold putW
  split
  · rename_i he
    have hz : findE s n g = 0 := by unfold putE at he; split at he <;> simp_all
    obtain ⟨i, rfl, _, _, _, hg⟩ := findE_zero hz
    have ho := okx_at h1 i
    exact ⟨set_all h1 ⟨plain_few v hf, by rw [← hg]; exact ho.2.1, by rw [← hg]; exact ho.2.2⟩, h2, by simpa using h3, h4⟩
  · exact ⟨h1, h2, h3, h4⟩
theorem put_len (s : WS) (n g : Int) (v : S35) : (putW s n g v).now.length = s.now.length := by unfold putW; split <;> simp
theorem ok_del {s : WS} (h : OkS s) (n g : Int) : OkS (delW s n g) := by
  obtain ⟨h1, h2, h3, h4⟩ := h
  unfold delW
  split
  · rename_i hz
    obtain ⟨i, rfl, _, _, _, hg⟩ := findE_zero hz
    have ho := okx_at h1 i
    have h5 := ho.2.1
    have h6 := ho.2.2
    rw [hg] at h5 h6
    exact ⟨set_all h1 ⟨z35_few, by show (0 : Int) ≤ min (g + 1) 65535; omega, by show min (g + 1) 65535 ≤ (65535 : Int); omega⟩, h2, by simpa using h3, h4⟩
  · exact ⟨h1, h2, h3, h4⟩
theorem del_len (s : WS) (n g : Int) : (delW s n g).now.length = s.now.length := by unfold delW; split <;> simp
theorem ok_root {s : WS} (h : OkS s) (n g : Int) : OkS (rootW s n g) := by unfold rootW; split <;> exact h
theorem ok_settle {s : WS} (h : OkS s) : OkS (settleW s) := ⟨h.1, h.1, h.2.2.1, h.2.2.1⟩
theorem ok_reset {s : WS} (h : OkS s) : OkS (resetW s) := ⟨h.2.1, h.2.1, h.2.2.2, h.2.2.2⟩
theorem ok_new {b : List S69} {rn rg most : Int} (hb : ∀ x ∈ b, fewV x.f2) (hE : newE b rn rg most = 0) : OkS (newW b rn rg most) := by
  have hg : b.any badG = false := by
    unfold newE at hE
    split at hE
    · cases hE
    split at hE
    · cases hE
    · rename_i h; simpa using h
  have hx : ∀ x ∈ newNow b, OkX x := fun x hx => by
    unfold newNow at hx
    obtain ⟨i, _, rfl⟩ := List.mem_map.1 hx
    unfold newS
    split
    · rename_i hi
      have hm := getD_mem b i hi z69
      have h1 : badG (b.getD i z69) = false := by
        have := List.any_eq_false.1 hg _ hm
        simpa using this
      have h2 : 0 ≤ (b.getD i z69).f0 ∧ (b.getD i z69).f0 ≤ 65535 := by simpa [badG, inB] using h1
      split
      · exact ⟨plain_few _ (hb _ hm), h2⟩
      · exact ⟨z35_few, h2⟩
    · exact ⟨z35_few, by simp [z69], by simp [z69]⟩
  have hl : 0 < (newNow b).length := by unfold newNow; simp; omega
  exact ⟨hx, hx, hl, hl⟩
theorem new_len (b : List S69) : (newNow b).length = max 1 b.length := by unfold newNow; simp
theorem L_alloc {b0 wb : Nat} {X : Nat → Prop} {s : WS} {W : World} (h : Wk b0 wb X s W) (h0 : b0 ≤ W.heap.size) (hl : s.now.length ≤ 90000) : Calls Try.prog 20 #[.pointer (some ⟨wb, 0, none⟩)] W fun e w' => e = .returned (.tuple #[.agg #[.int .i64 (allocR s).1, .int .i64 (allocR s).2.1], .int .i64 (allocR s).2.2]) ∧ Wk b0 wb X (allocS s) w' ∧ Mv b0 X W w' := by
  obtain ⟨L, rfl, hw, hX⟩ := h
  refine (walloc_calls b0 L s W hw h0 (by rw [← hw.len]; exact hl)).mono ?_
  rintro e w' ⟨rfl, hp⟩
  exact ⟨rfl, wk_of hw hX hp⟩
theorem L_put {b0 wb : Nat} {X : Nat → Prop} {s : WS} {W : World} {n g : Int} {v : S35} {A4 : Option Addr} {c4 : Nat} {A5 : Option Addr} {c5 : Nat} (h : Wk b0 wb X s W) (h0 : b0 ≤ W.heap.size) (hv : HasV v A4 c4 A5 c5 W) (hfv : fewV v) : Calls Try.prog 24 #[.pointer (some ⟨wb, 0, none⟩), .agg #[.int .i64 n, .int .i64 g], .agg #[.int .i64 v.f0, .int .i64 v.f1, .int .i64 v.f2, .string v.f3, .slice A4 v.f4.length c4, .slice A5 v.f5.length c5]] W fun e w' => e = .returned (.int .i64 (putE s n g v)) ∧ Wk b0 wb X (putW s n g v) w' ∧ Mv b0 X W w' := by
  obtain ⟨L, rfl, hw, hX⟩ := h
  refine (wput_calls b0 L s n g v A4 c4 A5 c5 W hw h0 hv hfv).mono ?_
  rintro e w' ⟨rfl, hp⟩
  exact ⟨rfl, wk_of hw hX hp.all⟩
theorem L_delete {b0 wb : Nat} {X : Nat → Prop} {s : WS} {W : World} {n g : Int} (h : Wk b0 wb X s W) (h0 : b0 ≤ W.heap.size) (ho : OkS s) : Calls Try.prog 23 #[.pointer (some ⟨wb, 0, none⟩), .agg #[.int .i64 n, .int .i64 g]] W fun e w' => e = .returned (.int .i64 (findE s n g)) ∧ Wk b0 wb X (delW s n g) w' ∧ Mv b0 X W w' := by
  obtain ⟨L, rfl, hw, hX⟩ := h
  refine (wdelete_calls b0 L s n g W hw h0 (fun x hx => ⟨(ho.1 x hx).2.1, (ho.1 x hx).2.2⟩)).mono ?_
  rintro e w' ⟨rfl, hp⟩
  exact ⟨rfl, wk_of hw hX hp.all⟩
theorem L_settle {b0 wb : Nat} {X : Nat → Prop} {s : WS} {W : World} (h : Wk b0 wb X s W) (h0 : b0 ≤ W.heap.size) (ho : OkS s) (hl : s.now.length ≤ 90000) : Calls Try.prog 25 #[.pointer (some ⟨wb, 0, none⟩)] W fun e w' => e = .returned (.int .i64 0) ∧ Wk b0 wb X (settleW s) w' ∧ Mv b0 X W w' := by
  obtain ⟨L, rfl, hw, hX⟩ := h
  refine (wsettle_calls b0 L s W hw h0 (by rw [← hw.len]; exact ho.2.2.1) (by rw [← hw.len]; exact hl)).mono ?_
  rintro e w' ⟨rfl, hp⟩
  exact ⟨rfl, wk_of hw hX hp⟩
theorem L_reset {b0 wb : Nat} {X : Nat → Prop} {s : WS} {W : World} (h : Wk b0 wb X s W) (h0 : b0 ≤ W.heap.size) (ho : OkS s) (hl : s.base.length ≤ 90000) : Calls Try.prog 38 #[.pointer (some ⟨wb, 0, none⟩)] W fun e w' => e = .returned (.int .i64 0) ∧ Wk b0 wb X (resetW s) w' ∧ Mv b0 X W w' := by
  obtain ⟨L, rfl, hw, hX⟩ := h
  refine (wreset_calls b0 L s W hw h0 ho.2.2.2 hl).mono ?_
  rintro e w' ⟨rfl, hp⟩
  exact ⟨rfl, wk_of hw hX hp⟩
theorem L_setroot {b0 wb : Nat} {X : Nat → Prop} {s : WS} {W : World} {n g : Int} (h : Wk b0 wb X s W) (h0 : b0 ≤ W.heap.size) : Calls Try.prog 96 #[.pointer (some ⟨wb, 0, none⟩), .agg #[.int .i64 n, .int .i64 g]] W fun e w' => e = .returned (.int .i64 (rootE s n g)) ∧ Wk b0 wb X (rootW s n g) w' ∧ Mv b0 X W w' := by
  obtain ⟨L, rfl, hw, hX⟩ := h
  refine (wsetroot_calls b0 L s n g W hw h0).mono ?_
  rintro e w' ⟨rfl, hp, hm⟩
  exact ⟨rfl, wk_of hw hX ⟨L, rfl, .inl rfl, hp, hm, rfl⟩⟩
theorem L_get {b0 wb : Nat} {X : Nat → Prop} {s : WS} {W : World} {n g : Int} (h : Wk b0 wb X s W) (ho : OkS s) : Calls Try.prog 21 #[.pointer (some ⟨wb, 0, none⟩), .agg #[.int .i64 n, .int .i64 g]] W fun e w' => ∃ a4 n4 a5 n5, e = .returned (.tuple #[.agg #[.int .i64 (getW s n g).f0, .int .i64 (getW s n g).f1, .int .i64 (getW s n g).f2, .string (getW s n g).f3, .slice a4 (getW s n g).f4.length n4, .slice a5 (getW s n g).f5.length n5], .int .i64 (findE s n g)]) ∧ HasV (getW s n g) a4 n4 a5 n5 w' ∧ RowKit.Below W.heap.size W w' := by
  obtain ⟨L, rfl, hw, hX⟩ := h
  exact wget_calls b0 L s n g W hw (fun x hx => (ho.1 x hx).1)
theorem L_root {b0 wb : Nat} {X : Nat → Prop} {s : WS} {W : World} (h : Wk b0 wb X s W) : Calls Try.prog 31 #[.pointer (some ⟨wb, 0, none⟩)] W fun e w' => e = .returned (.agg #[.int .i64 s.rn, .int .i64 s.rg]) ∧ RowKit.Below W.heap.size W w' := by
  obtain ⟨L, rfl, hw, hX⟩ := h
  exact wroot_calls b0 L s W hw
theorem L_changes {b0 wb : Nat} {X : Nat → Prop} {s : WS} {W : World} (h : Wk b0 wb X s W) (ho : OkS s) (hl : s.now.length ≤ 90000) : Calls Try.prog 33 #[.pointer (some ⟨wb, 0, none⟩)] W fun e w' => ∃ v0 xs, e = .returned v0 ∧ xs.map strC = chgs s s.now.length ∧ CRow W.heap.size v0 xs w' ∧ RowKit.Below W.heap.size W w' := by
  obtain ⟨L, rfl, hw, hX⟩ := h
  exact changes_calls b0 L s W hw (by rw [← hw.len]; exact hl) (fun x hx => (ho.1 x hx).1) (fun x hx => (ho.2.1 x hx).1)
theorem L_dirty {b0 wb : Nat} {X : Nat → Prop} {s : WS} {W : World} (h : Wk b0 wb X s W) (ho : OkS s) (hl : s.now.length ≤ 90000) : Calls Try.prog 35 #[.pointer (some ⟨wb, 0, none⟩)] W fun e w' => e = .returned (.bool (dirtyB s)) ∧ RowKit.Below W.heap.size W w' := by
  obtain ⟨L, rfl, hw, hX⟩ := h
  exact dirty_calls b0 L s W hw (by rw [← hw.len]; exact hl) (fun x hx => (ho.1 x hx).1) (fun x hx => (ho.2.1 x hx).1)
end Go.Proofs.Ytogpnkkoablmiaa.V
end
section
namespace Go.Proofs.Ytogpnkkoablmiaa.V
open Go.Proofs.Ytogpnkkoablmiaa.P Go.Shelf Go.RowKit Go.Lib Go.Sort Go.Proofs.Ytogpnkkoablmiaa.Q Go.Proofs.YtogpnkkoablmiaaW.PrintWords Go.Proofs.YtogpnkkoablmiaaW.PrintLast Go.Proofs.YtogpnkkoablmiaaW.PrintMore
set_option linter.unusedVariables false
set_option linter.unusedSimpArgs false
attribute [local go_sem high] eqA28
attribute [local go_sem] nzv_ne nzv_beq nzv_bne
attribute [local go_sem] Oper.semAt_some
def vInt : S35 := ⟨2, 7, 0, ⟨#[]⟩, [], []⟩
theorem vInt_few : fewV vInt := fewV_of (by simp [vInt]) (by simp [vInt]) (fun x hx => by simp [vInt] at hx) (fun x hx => by simp [vInt] at hx)
def st0 : WS := ⟨[z69], 0, 0, [z69], 0, 0, 9⟩
def st1 : WS := ⟨[z69, ⟨0, true, z35⟩], 0, 0, [z69], 0, 0, 9⟩
def st2 : WS := ⟨[z69, ⟨0, true, vInt⟩], 0, 0, [z69], 0, 0, 9⟩
def st3 : WS := ⟨[z69, ⟨1, false, z35⟩], 0, 0, [z69], 0, 0, 9⟩
def st4 : WS := ⟨[z69, ⟨1, true, z35⟩], 0, 0, [z69], 0, 0, 9⟩
theorem st0_eq : newW [] 0 0 9 = st0 := rfl
theorem st0_e : newE [] 0 0 9 = 0 := rfl
theorem st1_eq : allocS st0 = st1 := rfl
theorem st1_r : allocR st0 = (1, 0, 0) := rfl
theorem plain_vInt : plain vInt = vInt := by rw [plain_eq]; simp [vInt]
theorem chk_vInt : chkV vInt true 0 = 0 := by
  rw [chkV_eq]
  simp only [vInt, chkL, chkD]
  simp [ownE, extraB, beyondB]
theorem st2_e : putE st1 1 0 vInt = 0 := by
  unfold putE
  rw [chk_vInt, plain_vInt]
  rfl
theorem st2_eq : putW st1 1 0 vInt = st2 := by
  unfold putW
  rw [st2_e, plain_vInt]
  rfl
theorem st3_e : findE st2 1 0 = 0 := rfl
theorem st3_eq : delW st2 1 0 = st3 := rfl
theorem st4_eq : allocS st3 = st4 := rfl
theorem st4_r : allocR st3 = (1, 1, 0) := rfl
theorem st4_g : findE st4 1 0 = 13 := rfl
theorem st4_c : chgs st4 st4.now.length = [(1, plainS ⟨1, true, z35⟩)] := by
  have h : st4.now.length = 2 := rfl
  rw [h, chgs_succ, chgs_succ]
  simp [chgs, chgAt, st4]
theorem st4_d : dirtyB st4 = true := by
  unfold dirtyB
  rw [st4_c]
  rfl
theorem st_ok : OkS st0 ∧ OkS st1 ∧ OkS st2 ∧ OkS st3 ∧ OkS st4 := by
  have h0 : OkS st0 := by rw [← st0_eq]; exact ok_new (fun x hx => by simp at hx) st0_e
  have h1 : OkS st1 := by rw [← st1_eq]; exact ok_alloc h0
  have h2 : OkS st2 := by rw [← st2_eq]; exact ok_put h1 1 0 _ vInt_few
  have h3 : OkS st3 := by rw [← st3_eq]; exact ok_del h2 1 0
  have h4 : OkS st4 := by rw [← st4_eq]; exact ok_alloc h3
  exact ⟨h0, h1, h2, h3, h4⟩
theorem L_new {b : List S69} {A : Option Addr} {c : Nat} {rn rg most : Int} {w : World} (hb0 : k69.C w A b.length b) (hl : b.length ≤ 80000) (hf : ∀ x ∈ b, fewV x.f2) (hE : newE b rn rg most = 0) :
    Calls Try.prog 17 #[.slice A b.length c, .agg #[.int .i64 rn, .int .i64 rg], .int .i64 most] w fun e w' => ∃ wb, e = .returned (.tuple #[.pointer (some ⟨wb, 0, none⟩), .int .i64 0]) ∧ Wk w.heap.size wb (fun _ => False) (newW b rn rg most) w' ∧ RowKit.Below w.heap.size w w' := by
  refine (wnew_calls b A c rn rg most w hb0 hl hf).mono ?_
  rintro e w' (⟨h, _⟩ | ⟨_, L, rfl, hw, hb⟩)
  · exact absurd hE h
  · exact ⟨L.wb, rfl, ⟨L, rfl, hw, fun k hk => hk.elim⟩, hb⟩
theorem L_new_bad {b : List S69} {A : Option Addr} {c : Nat} {rn rg most : Int} {w : World} (hb0 : k69.C w A b.length b) (hl : b.length ≤ 80000) (hf : ∀ x ∈ b, fewV x.f2) (hE : newE b rn rg most ≠ 0) :
    Calls Try.prog 17 #[.slice A b.length c, .agg #[.int .i64 rn, .int .i64 rg], .int .i64 most] w fun e w' => e = .returned (.tuple #[.pointer none, .int .i64 (newE b rn rg most)]) ∧ RowKit.Below w.heap.size w w' := by
  refine (wnew_calls b A c rn rg most w hb0 hl hf).mono ?_
  rintro e w' (⟨_, rfl, hb⟩ | ⟨h, _⟩)
  · exact ⟨rfl, hb⟩
  · exact absurd h hE
set_option maxHeartbeats 20000000 in
set_option maxRecDepth 100000 in
theorem works_calls (w : World) : Calls Try.prog 19 #[] w fun e w' => e = .returned (.bool true) ∧ RowKit.Below w.heap.size w w' := by
  have hu28 := Try.underlying28
  have hu35 := Try.underlying35
  have hu23 := Try.underlying23
  have hu46 := Try.underlying46
  have hu60 := Try.underlying60
  have hu67 := Try.underlying67
  have KN := Aside0.mk (L_new (b := []) (A := none) (c := 0) (rn := 0) (rg := 0) (most := 9) (w := w) (Kd.F_now (Kd.F_nil k69 w (fun _ => True))) (by simp) (fun x hx => by simp at hx) st0_e)
  go_enter Try.func19, Try.ntmps19
  simp only [List.append_eq, List.cons_append, List.nil_append, List.append]
  go_wp2_with fail
  refine Calls.mono KN.out ?_
  rintro e w1 ⟨wb, rfl, hk, hb⟩
  rw [st0_eq] at hk
  have HB := Aside0.mk hb
  have KA : Aside0 (Calls Try.prog 20 #[.pointer (some ⟨wb, 0, none⟩)] w1 fun e w' => e = .returned (.tuple #[.agg #[.int .i64 1, .int .i64 0], .int .i64 0]) ∧ Wk w.heap.size wb (fun _ => False) st1 w' ∧ Mv w.heap.size (fun _ => False) w1 w') := Aside0.mk (by have h := L_alloc hk hb.size (by decide); rw [st1_r, st1_eq] at h; exact h)
  clear hk hb KN
  go_wp2_with fail
  refine Calls.mono KA.out ?_
  rintro e w2 ⟨rfl, hk, hm⟩
  replace HB := Aside0.mk (HB.out.trans hm.1)
  have HA := Aside0.mk (blk_new w2 (.cells #[.int .i64 1, .int .i64 0] 28))
  have hk2 := hk.below (below_alloc (RowKit.Below.refl _ w2) (.cells #[.int .i64 1, .int .i64 0] 28))
  replace HB := Aside0.mk (below_alloc HB.out (.cells #[.int .i64 1, .int .i64 0] 28))
  have KP : Aside0 (Calls Try.prog 24 #[.pointer (some ⟨wb, 0, none⟩), .agg #[.int .i64 1, .int .i64 0], .agg #[.int .i64 2, .int .i64 7, .int .i64 0, .string ⟨#[]⟩, .slice none 0 0, .slice none 0 0]] (w2.alloc (.cells #[.int .i64 1, .int .i64 0] 28)) fun e w' => e = .returned (.int .i64 0) ∧ Wk w.heap.size wb (fun _ => False) st2 w' ∧ Mv w.heap.size (fun _ => False) (w2.alloc (.cells #[.int .i64 1, .int .i64 0] 28)) w') := Aside0.mk (by
    have h := L_put (n := 1) (g := 0) (v := vInt) (A4 := none) (c4 := 0) (A5 := none) (c5 := 0) hk2 HB.out.size ⟨Nat.le_refl _, Kd.F_now (Kd.F_nil k35 _ (fun _ => True)), Nat.le_refl _, Kd.F_now (Kd.F_nil k89 _ (fun _ => True))⟩ vInt_few
    rw [st2_e, st2_eq] at h
    exact h)
  clear hk hk2 hm KA
  have hw2 : w2.heap.size < (w2.alloc (.cells #[.int .i64 1, .int .i64 0] 28)).heap.size := by simp
  obtain ⟨a0, a1⟩ := box2 HA.out
  go_wp2_with fail
  refine Calls.mono KP.out ?_
  rintro e w3 ⟨rfl, hk, hm⟩
  replace HB := Aside0.mk (HB.out.trans hm.1)
  replace HA := Aside0.mk (hm.blk HA.out)
  have KD : Aside0 (Calls Try.prog 23 #[.pointer (some ⟨wb, 0, none⟩), .agg #[.int .i64 1, .int .i64 0]] w3 fun e w' => e = .returned (.int .i64 0) ∧ Wk w.heap.size wb (fun _ => False) st3 w' ∧ Mv w.heap.size (fun _ => False) w3 w') := Aside0.mk (by have h := L_delete (n := 1) (g := 0) hk HB.out.size st_ok.2.2.1; rw [st3_e, st3_eq] at h; exact h)
  clear hk hm KP a0 a1 hw2
  obtain ⟨a0, a1⟩ := box2 HA.out
  have hw3 := blk_lt HA.out
  go_wp2_with fail
  refine Calls.mono KD.out ?_
  rintro e w4 ⟨rfl, hk, hm⟩
  replace HB := Aside0.mk (HB.out.trans hm.1)
  replace HA := Aside0.mk (hm.blk HA.out)
  have KA : Aside0 (Calls Try.prog 20 #[.pointer (some ⟨wb, 0, none⟩)] w4 fun e w' => e = .returned (.tuple #[.agg #[.int .i64 1, .int .i64 1], .int .i64 0]) ∧ Wk w.heap.size wb (fun _ => False) st4 w' ∧ Mv w.heap.size (fun _ => False) w4 w') := Aside0.mk (by have h := L_alloc hk HB.out.size (by decide); rw [st4_r, st4_eq] at h; exact h)
  clear hk hm KD a0 a1 hw3
  go_wp2_with fail
  refine Calls.mono KA.out ?_
  rintro e w5 ⟨rfl, hk, hm⟩
  replace HB := Aside0.mk (HB.out.trans hm.1)
  replace HA := Aside0.mk (hm.blk HA.out)
  have HN := Aside0.mk (blk_new w5 (.cells #[.int .i64 1, .int .i64 1] 28))
  have hbb := below_alloc (RowKit.Below.refl _ w5) (.cells #[.int .i64 1, .int .i64 1] 28)
  have HK := Aside0.mk (hk.below hbb)
  replace HB := Aside0.mk (below_alloc HB.out (.cells #[.int .i64 1, .int .i64 1] 28))
  have hw5 : w5.heap.size < (w5.alloc (.cells #[.int .i64 1, .int .i64 1] 28)).heap.size := by simp
  replace HA := Aside0.mk (blk_below HA.out hbb)
  have hlA := blk_lt HA.out
  clear hk hm KA hbb
  obtain ⟨a0, a1⟩ := box2 HA.out
  have KG := Aside0.mk (L_get (n := 1) (g := 0) HK.out st_ok.2.2.2.2)
  rw [st4_g] at KG
  generalize getW st4 1 0 = gv at KG
  go_wp2_with fail
  refine Calls.mono KG.out ?_
  rintro e w6 ⟨a4, n4, a5, n5, rfl, -, hb⟩
  replace HB := Aside0.mk (HB.out.trans (hb.mono HB.out.size))
  replace HA := Aside0.mk (blk_below HA.out hb)
  replace HN := Aside0.mk (blk_below HN.out hb)
  replace HK := Aside0.mk (HK.out.below hb)
  have hbb := below_alloc (RowKit.Below.refl _ w6) (.cells #[.int .i64 gv.f0, .int .i64 gv.f1, .int .i64 gv.f2, .string gv.f3, .slice a4 gv.f4.length n4, .slice a5 gv.f5.length n5] 35)
  replace HB := Aside0.mk (HB.out.trans (hbb.mono HB.out.size))
  replace HA := Aside0.mk (blk_below HA.out hbb)
  replace HN := Aside0.mk (blk_below HN.out hbb)
  replace HK := Aside0.mk (HK.out.below hbb)
  have KC := Aside0.mk (L_changes HK.out st_ok.2.2.2.2 (by decide))
  rw [st4_c] at KC
  clear hb hbb KG a0 a1 hw5 hlA
  go_wp2_with fail
  refine Calls.mono KC.out ?_
  rintro e w7 ⟨v0, xs, rfl, hxs, hrow, hb⟩
  replace HB := Aside0.mk (HB.out.trans (hb.mono HB.out.size))
  replace HA := Aside0.mk (blk_below HA.out hb)
  replace HN := Aside0.mk (blk_below HN.out hb)
  replace HK := Aside0.mk (HK.out.below hb)
  obtain ⟨x, rfl⟩ : ∃ x, xs = [x] := by
    match xs, hxs with
    | [], h => simp at h
    | [x], _ => exact ⟨x, rfl⟩
    | x :: y :: r, h => simp at h
  have hxe : x.2.x = plainS ⟨1, true, z35⟩ := by
    have h : strC x = (1, plainS ⟨1, true, z35⟩) := by simpa using hxs
    exact congrArg Prod.snd h
  have hro := hrow.1
  rw [show flatC [x] = cellsC x by simp [flatC], show ([x] : List (Nat × RS)).length = 0 + 1 from rfl] at hro
  obtain ⟨gl, cl, rfl⟩ := ownsRow_succ hro
  have HL := Aside0.mk (show w7.cell? ⟨gl, 1, none⟩ = some (.int .i64 1) ∧ w7.cell? ⟨gl, 2, none⟩ = some (.bool false) ∧ gl < w7.heap.size from by
    refine ⟨?_, ?_, (hro.lt gl rfl).2⟩
    · rw [hro.cellAt 1 (by omega)]
      show some (Value.int .i64 x.2.x.f0) = _
      rw [hxe]; rfl
    · rw [hro.cellAt 2 (by omega)]
      show some (Value.bool (!x.2.x.f1)) = _
      rw [hxe]; rfl)
  clear hb KC hxs hrow hxe hro
  go_wp2_with fail
  refine Calls.mono (alloc_nil w7) ?_
  rintro e w8 ⟨rfl, hb⟩
  replace hb := below_alloc hb (.cells #[.int .i64 0, .int .i64 0] 28)
  replace HB := Aside0.mk (HB.out.trans (hb.mono HB.out.size))
  replace HA := Aside0.mk (blk_below HA.out hb)
  replace HN := Aside0.mk (blk_below HN.out hb)
  replace HK := Aside0.mk (HK.out.below hb)
  replace HL := Aside0.mk (show (w8.alloc (.cells #[.int .i64 0, .int .i64 0] 28)).cell? ⟨gl, 1, none⟩ = some (.int .i64 1) ∧ (w8.alloc (.cells #[.int .i64 0, .int .i64 0] 28)).cell? ⟨gl, 2, none⟩ = some (.bool false) ∧ gl < (w8.alloc (.cells #[.int .i64 0, .int .i64 0] 28)).heap.size from ⟨(hb.cell HL.out.2.2).trans HL.out.1, (hb.cell HL.out.2.2).trans HL.out.2.1, Nat.lt_of_lt_of_le HL.out.2.2 hb.size⟩)
  have KB := Aside0.mk (L_new_bad (b := []) (A := none) (c := 0) (rn := 0) (rg := 0) (most := 0) (w := w8.alloc (.cells #[.int .i64 0, .int .i64 0] 28)) (Kd.F_now (Kd.F_nil k69 _ (fun _ => True))) (by simp) (fun x hx => by simp at hx) (by decide))
  rw [show newE [] 0 0 0 = 2 from rfl] at KB
  clear hb
  go_wp2_with fail
  refine Calls.mono KB.out ?_
  rintro e w9 ⟨rfl, hb⟩
  replace HB := Aside0.mk (HB.out.trans (hb.mono HB.out.size))
  replace HA := Aside0.mk (blk_below HA.out hb)
  replace HN := Aside0.mk (blk_below HN.out hb)
  replace HK := Aside0.mk (HK.out.below hb)
  have l1 := (hb.cell HL.out.2.2).trans HL.out.1
  have l2 := (hb.cell HL.out.2.2).trans HL.out.2.1
  have hgl : gl < w9.heap.size := Nat.lt_of_lt_of_le HL.out.2.2 hb.size
  have KD := Aside0.mk (L_dirty HK.out st_ok.2.2.2.2 (by decide))
  rw [st4_d] at KD
  clear hb KB HL
  obtain ⟨a0, a1⟩ := box2 HA.out
  obtain ⟨b0, b1⟩ := box2 HN.out
  have hlA := blk_lt HA.out
  have hlB := blk_lt HN.out
  go_wp2_with fail
  refine Calls.mono KD.out ?_
  rintro e w10 ⟨rfl, hb⟩
  replace HB := Aside0.mk (HB.out.trans (hb.mono HB.out.size))
  replace HA := Aside0.mk (blk_below HA.out hb)
  clear KD a0 a1 b0 b1 hlA hlB l1 l2 hgl hb HK HN
  obtain ⟨a0, a1⟩ := box2 HA.out
  have hlA := blk_lt HA.out
  go_wp2_with fail
  refine Calls.mono (put_nil 1 0 z35 none 0 none 0 w10) ?_
  rintro e w11 ⟨rfl, hb⟩
  replace HB := Aside0.mk (HB.out.trans (hb.mono HB.out.size))
  clear a0 a1 hlA hb HA
  go_wp2_with fail
  refine Calls.mono (settle_nil w11) ?_
  rintro e w12 ⟨rfl, rfl⟩
  go_wp2_with fail
  refine Calls.mono (reset_nil _) ?_
  rintro e w13 ⟨rfl, rfl⟩
  go_wp2_with fail
  refine Calls.mono (dirty_nil _) ?_
  rintro e w14 ⟨rfl, hb⟩
  replace HB := Aside0.mk (HB.out.trans (hb.mono HB.out.size))
  clear hb
  go_wp2_with fail
  refine Calls.mono (slots_nil _) ?_
  rintro e w15 ⟨rfl, rfl⟩
  go_wp2_with fail
  refine Calls.mono (changes_nil _) ?_
  rintro e w16 ⟨rfl, rfl⟩
  go_wp2_with fail
  refine Calls.mono (root_nil _) ?_
  rintro e w17 ⟨rfl, hb⟩
  replace HB := Aside0.mk (HB.out.trans (hb.mono HB.out.size))
  clear hb
  go_wp2
  go_ret
  exact ⟨rfl, HB.out⟩
end Go.Proofs.Ytogpnkkoablmiaa.V
end
