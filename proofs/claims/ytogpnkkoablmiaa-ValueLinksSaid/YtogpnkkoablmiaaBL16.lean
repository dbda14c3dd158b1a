/- Parts of the proof: what the theorem reaches, put together by a program of this session. -/
import Derived.ArgAppend
import Derived.Below
import Derived.BigGuardPart
import Derived.BigQuiet
import Derived.BigRegion
import Derived.Deep.AppendLies
import Derived.Deep.CutBlock
import Derived.Deep.DeepCutAuto
import Derived.Deep.Draws
import Derived.Deep.LoopGhost
import Derived.Deep.OwnRows
import Derived.Deep.QuietTactic
import Derived.Deep.RegionHeld3
import Derived.KernelRfl
import Derived.Laws.BitsLemmas
import Derived.Laws.BytesArg
import Derived.Laws.IdiomCopy
import Derived.Laws.MakeOwn
import Derived.Laws.OwnMore
import Derived.Laws.Rows
import Derived.Laws.Slices
import Derived.Laws.StructEq
import Derived.Lib.AppendIntMem
import Derived.Lib.AppendStr
import Derived.Lib.Bytealg
import Derived.Lib.ConvBytes
import Derived.Lib.Hide
import Derived.Lib.OwnBridge
import Derived.Maps.AppendAt
import Derived.Maps.OwnOps
import Derived.Maps.Views
import Derived.OrdersHeld
import Derived.Outline
import Derived.OwnWalk
import Derived.RowKit
import Derived.RowKit3
import Derived.Shelf.SlSortCmp.KitK
import Derived.Sort.LotA
import Derived.Sort.WalkB12
import Derived.Sort.WalkB2
import Derived.Tactics
import Derived.Test.YtogpnkkoablmiaaProg
import Derived.WalkKit
import Derived.WalkLawsBesides
import Derived.WideLaws
import Derived.Test.YtogpnkkoablmiaaBL1
import Derived.Test.YtogpnkkoablmiaaBL2
import Derived.Test.YtogpnkkoablmiaaBL3
import Derived.Test.YtogpnkkoablmiaaBL4
import Derived.Test.YtogpnkkoablmiaaBL5
import Derived.Test.YtogpnkkoablmiaaBL6
import Derived.Test.YtogpnkkoablmiaaBL7
import Derived.Test.YtogpnkkoablmiaaBL9
import Derived.Test.YtogpnkkoablmiaaBL10
import Derived.Test.YtogpnkkoablmiaaBL11
import Derived.Test.YtogpnkkoablmiaaBL12
import Derived.Test.YtogpnkkoablmiaaBL13
import Derived.Test.YtogpnkkoablmiaaBL14
section
namespace Go.Proofs.Ytogpnkkoablmiaa.V
open Go.Shelf Go.RowKit Go.Lib Go.Sort Go.Proofs.Ytogpnkkoablmiaa.Q Go.Proofs.YtogpnkkoablmiaaW.PrintWords Go.Proofs.YtogpnkkoablmiaaW.PrintLast Go.Proofs.YtogpnkkoablmiaaW.PrintMore
set_option linter.unusedVariables false
set_option linter.unusedSimpArgs false
def AlSaid (a : S35) : Prop := ∀ (b : S35) (A4 : Option Addr) (c4 : Nat) (A5 : Option Addr) (c5 : Nat) (B4 : Option Addr) (d4 : Nat) (B5 : Option Addr) (d5 : Nat) (w : World), a.f4.length ≤ c4 → k35.C w A4 a.f4.length a.f4 → a.f5.length ≤ c5 → k89.C w A5 a.f5.length a.f5 →
  b.f4.length ≤ d4 → k35.C w B4 b.f4.length b.f4 → b.f5.length ≤ d5 → k89.C w B5 b.f5.length b.f5 →
  Calls Try.prog 123 #[.agg #[.int .i64 a.f0, .int .i64 a.f1, .int .i64 a.f2, .string a.f3, .slice A4 a.f4.length c4, .slice A5 a.f5.length c5], .agg #[.int .i64 b.f0, .int .i64 b.f1, .int .i64 b.f2, .string b.f3, .slice B4 b.f4.length d4, .slice B5 b.f5.length d5]] w fun e w' => e = .returned (.bool (eqB a b)) ∧ RowKit.Below w.heap.size w w'
set_option maxHeartbeats 8000000 in
set_option maxRecDepth 100000 in
theorem efv_calls (xs ys : List S35) (A : Option Addr) (c : Nat) (B : Option Addr) (d : Nat) (w : World) (la : xs.length ≤ c) (ra : k35.C w A xs.length xs) (lb : ys.length ≤ d) (rb : k35.C w B ys.length ys) (ih : ∀ x ∈ xs, AlSaid x) :
    Calls Try.prog 160 #[.slice A xs.length c, .slice B ys.length d, .func (.func 123) #[] #[]] w fun e w' => e = .returned (.bool (eqB xs ys)) ∧ RowKit.Below w.heap.size w w' := by
  have hu35 := Try.underlying35
  have m4 := Kd.C_max ra
  have RA := Aside0.mk ra
  have RB := Aside0.mk rb
  have IH := Aside0.mk ih
  clear ra rb ih
  by_cases hl : xs.length = ys.length
  · have hl' : ys.length = xs.length := hl.symm
    rw [hl'] at lb ⊢
    have HL := Aside0.mk hl'
    clear hl hl'
    go_enter Try.func160, Try.ntmps160
    go_wp2
    go_loopw [17] (fun i wr => ∃ k : Nat, k ≤ xs.length ∧ i = .int .i64 k ∧ Aside0 (RowKit.Below w.heap.size w wr) ∧ Aside0 (∀ j, j < k → xs.getD j z35 = ys.getD j z35)) (fun i _ => xs.length - (intOf i).toNat)
    case atStart => exact ⟨0, Nat.zero_le _, rfl, ⟨RowKit.Below.refl _ _⟩, ⟨fun j hj => by omega⟩⟩
    case round =>
      obtain ⟨k, hk, rfl, HB, HE⟩ := hrel
      by_cases hlt : k < xs.length
      · obtain ⟨ad, P4, p4, P5, p5, rfl, x0, x1, x2, x3, x4, x5, lp4, gp4, lp5, gp5⟩ := at35 (Kd.C_below RA.out HB.out) k hlt
        have RB' := Kd.C_below RB.out HB.out
        rw [HL.out] at RB'
        obtain ⟨bd, Q4, q4, Q5, q5, rfl, y0, y1, y2, y3, y4, y5, lq4, gq4, lq5, gq5⟩ := at35 RB' k hlt
        have hmem := getD_mem xs k hlt z35
        have IHx := Aside0.mk (IH.out _ hmem)
        generalize hx : xs.getD k z35 = x at *
        generalize hy : ys.getD k z35 = y at *
        have NX := Aside0.mk (And.intro hx hy)
        have G := Aside0.mk (And.intro lp4 (And.intro gp4 (And.intro lp5 (And.intro gp5 (And.intro lq4 (And.intro gq4 (And.intro lq5 gq5)))))))
        clear hx hy hmem lp4 gp4 lp5 gp5 lq4 gq4 lq5 gq5 RB'
        replace x0 := x0 ⟨wr, RowKit.Below.refl _ _⟩
        replace x1 := x1 ⟨wr, RowKit.Below.refl _ _⟩
        replace x2 := x2 ⟨wr, RowKit.Below.refl _ _⟩
        replace x3 := x3 ⟨wr, RowKit.Below.refl _ _⟩
        replace x4 := x4 ⟨wr, RowKit.Below.refl _ _⟩
        replace x5 := x5 ⟨wr, RowKit.Below.refl _ _⟩
        have hB1 := below_alloc (RowKit.Below.refl wr.heap.size wr) (.cells #[.int .i64 x.f0, .int .i64 x.f1, .int .i64 x.f2, .string x.f3, .slice P4 x.f4.length p4, .slice P5 x.f5.length p5] 35)
        replace y0 := y0 ⟨_, hB1⟩
        replace y1 := y1 ⟨_, hB1⟩
        replace y2 := y2 ⟨_, hB1⟩
        replace y3 := y3 ⟨_, hB1⟩
        replace y4 := y4 ⟨_, hB1⟩
        replace y5 := y5 ⟨_, hB1⟩
        simp only [] at x0 x1 x2 x3 x4 x5 y0 y1 y2 y3 y4 y5
        clear hB1
        go_wp2_with fail
        have hB2 := below_alloc (below_alloc (RowKit.Below.refl wr.heap.size wr) (.cells #[.int .i64 x.f0, .int .i64 x.f1, .int .i64 x.f2, .string x.f3, .slice P4 x.f4.length p4, .slice P5 x.f5.length p5] 35)) (.cells #[.int .i64 y.f0, .int .i64 y.f1, .int .i64 y.f2, .string y.f3, .slice Q4 y.f4.length q4, .slice Q5 y.f5.length q5] 35)
        refine Calls.mono (IHx.out y P4 p4 P5 p5 Q4 q4 Q5 q5 _ G.out.1 (Kd.C_below G.out.2.1 hB2) G.out.2.2.1 (Kd.C_below G.out.2.2.2.1 hB2) G.out.2.2.2.2.1 (Kd.C_below G.out.2.2.2.2.2.1 hB2) G.out.2.2.2.2.2.2.1 (Kd.C_below G.out.2.2.2.2.2.2.2 hB2)) ?_
        rintro e w7 ⟨rfl, hb⟩
        have HB7 := Aside0.mk (HB.out.trans ((below_step hB2 hb).mono HB.out.size))
        clear hb hB2 x0 x1 x2 x3 x4 x5 y0 y1 y2 y3 y4 y5
        by_cases hxy : x = y
        · have hv : eqB x y = true := eqB_true hxy
          rw [hv]
          clear hv
          have NXY := Aside0.mk hxy
          clear hxy
          go_wp2
          refine ⟨⟨k + 1, by omega, by go_num, HB7, ⟨fun j hj => ?_⟩⟩, by simp [intOf]; omega⟩
          rcases Nat.lt_or_ge j k with h | h
          · exact HE.out j h
          · obtain rfl : j = k := by omega
            rw [NX.out.1, NX.out.2, NXY.out]
        · have hv : eqB x y = false := eqB_false hxy
          rw [hv]
          clear hv
          have hf := Aside0.mk (eqB_false (a := xs) (b := ys) (fun h => hxy (by rw [← NX.out.1, ← NX.out.2, h])))
          clear hxy
          go_wp2
          go_ret
          exact ⟨ret_b hf.out.symm, HB7.out⟩
      · have hf := Aside0.mk (eqB_true (ext_getD z35 HL.out (fun j hj => HE.out j (by omega))))
        go_wp2
        go_ret
        exact ⟨ret_b hf.out.symm, HB.out⟩
  · have hf := Aside0.mk (eqB_false (a := xs) (b := ys) (fun h => hl (by rw [h])))
    have hlz : ((xs.length : Int) != (ys.length : Int)) = true := by simp; omega
    go_enter Try.func160, Try.ntmps160
    go_wp2
    go_ret
    exact ⟨ret_b hf.out.symm, RowKit.Below.refl _ _⟩
set_option maxHeartbeats 8000000 in
set_option maxRecDepth 100000 in
theorem al162 (a b : S89) (ih : AlSaid a.f1) (A4 : Option Addr) (c4 : Nat) (A5 : Option Addr) (c5 : Nat) (B4 : Option Addr) (d4 : Nat) (B5 : Option Addr) (d5 : Nat) (w : World) (la4 : a.f1.f4.length ≤ c4) (ra4 : k35.C w A4 a.f1.f4.length a.f1.f4) (la5 : a.f1.f5.length ≤ c5) (ra5 : k89.C w A5 a.f1.f5.length a.f1.f5)
    (lb4 : b.f1.f4.length ≤ d4) (rb4 : k35.C w B4 b.f1.f4.length b.f1.f4) (lb5 : b.f1.f5.length ≤ d5) (rb5 : k89.C w B5 b.f1.f5.length b.f1.f5) :
    Calls Try.prog 162 #[.agg #[.string a.f0, .int .i64 a.f1.f0, .int .i64 a.f1.f1, .int .i64 a.f1.f2, .string a.f1.f3, .slice A4 a.f1.f4.length c4, .slice A5 a.f1.f5.length c5], .agg #[.string b.f0, .int .i64 b.f1.f0, .int .i64 b.f1.f1, .int .i64 b.f1.f2, .string b.f1.f3, .slice B4 b.f1.f4.length d4, .slice B5 b.f1.f5.length d5]] w fun e w' => e = .returned (.bool (eqB a b)) ∧ RowKit.Below w.heap.size w w' := by
  have HC := Aside0.mk (fun w1 (hb : RowKit.Below w.heap.size w w1) => ih b.f1 A4 c4 A5 c5 B4 d4 B5 d5 w1 la4 (Kd.C_below ra4 hb) la5 (Kd.C_below ra5 hb) lb4 (Kd.C_below rb4 hb) lb5 (Kd.C_below rb5 hb))
  clear ra4 ra5 rb4 rb5
  obtain ⟨ka, a⟩ := a
  obtain ⟨kb, b⟩ := b
  simp only [] at *
  by_cases hk : ka = kb
  · subst hk
    have HE := Aside0.mk (show eqB (⟨ka, a⟩ : S89) ⟨ka, b⟩ = eqB a b by
      by_cases h : a = b
      · rw [eqB_true h, eqB_true (by rw [h])]
      · rw [eqB_false h, eqB_false (fun e => h (by injection e))])
    go_enter Try.func162, Try.ntmps162
    go_wp2_with fail
    refine Calls.mono (HC.out _ (below_alloc (below_alloc (RowKit.Below.refl _ _) _) _)) ?_
    rintro e w1 ⟨rfl, hb⟩
    have HB := Aside0.mk (below_step (below_alloc (below_alloc (RowKit.Below.refl w.heap.size w) _) _) hb)
    clear hb
    generalize eqB a b = c at *
    go_wp2
    go_ret
    exact ⟨ret_b HE.out.symm, HB.out⟩
  · have hf := Aside0.mk (eqB_false (a := (⟨ka, a⟩ : S89)) (b := ⟨kb, b⟩) (fun e => hk (by injection e)))
    have hk' : ¬ ka.toList = kb.toList := fun h => hk (ba_inj h)
    clear hk
    go_enter Try.func162, Try.ntmps162
    go_wp2
    go_ret
    exact ⟨ret_b hf.out.symm, below_alloc (below_alloc (RowKit.Below.refl _ _) _) _⟩
set_option maxHeartbeats 8000000 in
set_option maxRecDepth 100000 in
theorem efd_calls (xs ys : List S89) (A : Option Addr) (c : Nat) (B : Option Addr) (d : Nat) (w : World) (la : xs.length ≤ c) (ra : k89.C w A xs.length xs) (lb : ys.length ≤ d) (rb : k89.C w B ys.length ys) (ih : ∀ x ∈ xs, AlSaid x.f1) :
    Calls Try.prog 161 #[.slice A xs.length c, .slice B ys.length d, .func (.func 162) #[] #[]] w fun e w' => e = .returned (.bool (eqB xs ys)) ∧ RowKit.Below w.heap.size w w' := by
  have hu35 := Try.underlying35
  have m4 := Kd.C_max ra
  have RA := Aside0.mk ra
  have RB := Aside0.mk rb
  have IH := Aside0.mk ih
  clear ra rb ih
  by_cases hl : xs.length = ys.length
  · have hl' : ys.length = xs.length := hl.symm
    rw [hl'] at lb ⊢
    have HL := Aside0.mk hl'
    clear hl hl'
    go_enter Try.func161, Try.ntmps161
    go_wp2
    go_loopw [17] (fun i wr => ∃ k : Nat, k ≤ xs.length ∧ i = .int .i64 k ∧ Aside0 (RowKit.Below w.heap.size w wr) ∧ Aside0 (∀ j, j < k → xs.getD j z89 = ys.getD j z89)) (fun i _ => xs.length - (intOf i).toNat)
    case atStart => exact ⟨0, Nat.zero_le _, rfl, ⟨RowKit.Below.refl _ _⟩, ⟨fun j hj => by omega⟩⟩
    case round =>
      obtain ⟨k, hk, rfl, HB, HE⟩ := hrel
      by_cases hlt : k < xs.length
      · obtain ⟨ad, P4, p4, P5, p5, rfl, x0, x1, x2, x3, x4, x5, x6, lp4, gp4, lp5, gp5⟩ := at89 (Kd.C_below RA.out HB.out) k hlt
        have RB' := Kd.C_below RB.out HB.out
        rw [HL.out] at RB'
        obtain ⟨bd, Q4, q4, Q5, q5, rfl, y0, y1, y2, y3, y4, y5, y6, lq4, gq4, lq5, gq5⟩ := at89 RB' k hlt
        have hmem := getD_mem xs k hlt z89
        have IHx := Aside0.mk (IH.out _ hmem)
        generalize hx : xs.getD k z89 = x at *
        generalize hy : ys.getD k z89 = y at *
        have NX := Aside0.mk (And.intro hx hy)
        have G := Aside0.mk (And.intro lp4 (And.intro gp4 (And.intro lp5 (And.intro gp5 (And.intro lq4 (And.intro gq4 (And.intro lq5 gq5)))))))
        clear hx hy hmem lp4 gp4 lp5 gp5 lq4 gq4 lq5 gq5 RB'
        replace x0 := x0 ⟨wr, RowKit.Below.refl _ _⟩
        replace x1 := x1 ⟨wr, RowKit.Below.refl _ _⟩
        replace x2 := x2 ⟨wr, RowKit.Below.refl _ _⟩
        replace x3 := x3 ⟨wr, RowKit.Below.refl _ _⟩
        replace x4 := x4 ⟨wr, RowKit.Below.refl _ _⟩
        replace x5 := x5 ⟨wr, RowKit.Below.refl _ _⟩
        replace x6 := x6 ⟨wr, RowKit.Below.refl _ _⟩
        have hB1 := below_alloc (RowKit.Below.refl wr.heap.size wr) (.cells #[.string x.f0, .int .i64 x.f1.f0, .int .i64 x.f1.f1, .int .i64 x.f1.f2, .string x.f1.f3, .slice P4 x.f1.f4.length p4, .slice P5 x.f1.f5.length p5] 89)
        replace y0 := y0 ⟨_, hB1⟩
        replace y1 := y1 ⟨_, hB1⟩
        replace y2 := y2 ⟨_, hB1⟩
        replace y3 := y3 ⟨_, hB1⟩
        replace y4 := y4 ⟨_, hB1⟩
        replace y5 := y5 ⟨_, hB1⟩
        replace y6 := y6 ⟨_, hB1⟩
        simp only [] at x0 x1 x2 x3 x4 x5 x6 y0 y1 y2 y3 y4 y5 y6
        clear hB1
        go_wp2_with fail
        have hB2 := below_alloc (below_alloc (RowKit.Below.refl wr.heap.size wr) (.cells #[.string x.f0, .int .i64 x.f1.f0, .int .i64 x.f1.f1, .int .i64 x.f1.f2, .string x.f1.f3, .slice P4 x.f1.f4.length p4, .slice P5 x.f1.f5.length p5] 89)) (.cells #[.string y.f0, .int .i64 y.f1.f0, .int .i64 y.f1.f1, .int .i64 y.f1.f2, .string y.f1.f3, .slice Q4 y.f1.f4.length q4, .slice Q5 y.f1.f5.length q5] 89)
        refine Calls.mono (al162 x y IHx.out P4 p4 P5 p5 Q4 q4 Q5 q5 _ G.out.1 (Kd.C_below G.out.2.1 hB2) G.out.2.2.1 (Kd.C_below G.out.2.2.2.1 hB2) G.out.2.2.2.2.1 (Kd.C_below G.out.2.2.2.2.2.1 hB2) G.out.2.2.2.2.2.2.1 (Kd.C_below G.out.2.2.2.2.2.2.2 hB2)) ?_
        rintro e w7 ⟨rfl, hb⟩
        have HB7 := Aside0.mk (HB.out.trans ((below_step hB2 hb).mono HB.out.size))
        clear hb hB2 x0 x1 x2 x3 x4 x5 x6 y0 y1 y2 y3 y4 y5 y6
        by_cases hxy : x = y
        · have hv : eqB x y = true := eqB_true hxy
          rw [hv]
          clear hv
          have NXY := Aside0.mk hxy
          clear hxy
          go_wp2
          refine ⟨⟨k + 1, by omega, by go_num, HB7, ⟨fun j hj => ?_⟩⟩, by simp [intOf]; omega⟩
          rcases Nat.lt_or_ge j k with h | h
          · exact HE.out j h
          · obtain rfl : j = k := by omega
            rw [NX.out.1, NX.out.2, NXY.out]
        · have hv : eqB x y = false := eqB_false hxy
          rw [hv]
          clear hv
          have hf := Aside0.mk (eqB_false (a := xs) (b := ys) (fun h => hxy (by rw [← NX.out.1, ← NX.out.2, h])))
          clear hxy
          go_wp2
          go_ret
          exact ⟨ret_b hf.out.symm, HB7.out⟩
      · have hf := Aside0.mk (eqB_true (ext_getD z89 HL.out (fun j hj => HE.out j (by omega))))
        go_wp2
        go_ret
        exact ⟨ret_b hf.out.symm, HB.out⟩
  · have hf := Aside0.mk (eqB_false (a := xs) (b := ys) (fun h => hl (by rw [h])))
    have hlz : ((xs.length : Int) != (ys.length : Int)) = true := by simp; omega
    go_enter Try.func161, Try.ntmps161
    go_wp2
    go_ret
    exact ⟨ret_b hf.out.symm, RowKit.Below.refl _ _⟩
set_option maxHeartbeats 8000000 in
set_option maxRecDepth 100000 in
theorem alike_all : ∀ a, AlSaid a := by
  refine S35.ind ?_
  rintro ⟨a0, a1, a2, a3, a4, a5⟩ ih4 ih5 ⟨b0, b1, b2, b3, b4, b5⟩ A4 c4 A5 c5 B4 d4 B5 d5 w la4 ra4 la5 ra5 lb4 rb4 lb5 rb5
  simp only [] at *
  have hu35 := Try.underlying35
  have E4 := Aside0.mk (fun w1 (hb : RowKit.Below w.heap.size w w1) => efv_calls a4 b4 A4 c4 B4 d4 w1 la4 (Kd.C_below ra4 hb) lb4 (Kd.C_below rb4 hb) ih4)
  have E5 := Aside0.mk (fun w1 (hb : RowKit.Below w.heap.size w w1) => efd_calls a5 b5 A5 c5 B5 d5 w1 la5 (Kd.C_below ra5 hb) lb5 (Kd.C_below rb5 hb) ih5)
  clear ih4 ih5 ra4 ra5 rb4 rb5
  by_cases h0 : a0 = b0
  · by_cases h1 : a1 = b1
    · by_cases h2 : a2 = b2
      · by_cases h3 : a3 = b3
        · subst h0
          subst h1
          subst h2
          subst h3
          by_cases h4 : a4 = b4
          · have hv : eqB a4 b4 = true := eqB_true h4
            have HE := Aside0.mk (show eqB (⟨a0, a1, a2, a3, a4, a5⟩ : S35) ⟨a0, a1, a2, a3, b4, b5⟩ = eqB a5 b5 by
              by_cases h : a5 = b5
              · rw [eqB_true h, eqB_true (by rw [h, h4])]
              · rw [eqB_false h, eqB_false (fun e => h (by injection e))])
            clear h4
            go_enter Try.func123, Try.ntmps123
            go_wp2_with fail
            refine Calls.mono (E4.out _ (below_alloc (below_alloc (RowKit.Below.refl _ _) _) _)) ?_
            rintro e w1 ⟨rfl, hb⟩
            have b1' := blk_below (blk_alloc (blk_new w (.cells #[.int .i64 a0, .int .i64 a1, .int .i64 a2, .string a3, .slice A4 a4.length c4, .slice A5 a5.length c5] 35)) _) hb
            have b2' := blk_below (blk_new (w.alloc (.cells #[.int .i64 a0, .int .i64 a1, .int .i64 a2, .string a3, .slice A4 a4.length c4, .slice A5 a5.length c5] 35)) (.cells #[.int .i64 a0, .int .i64 a1, .int .i64 a2, .string a3, .slice B4 b4.length d4, .slice B5 b5.length d5] 35)) hb
            have HB := Aside0.mk (below_step (below_alloc (below_alloc (RowKit.Below.refl w.heap.size w) _) _) hb)
            simp only [World.size_alloc] at b1' b2'
            have x5 := (box35 b1').2.2.2.2.2
            have y5 := (box35 b2').2.2.2.2.2
            clear hb b1' b2'
            rw [hv]
            clear hv
            go_wp2_with fail
            refine Calls.mono (E5.out _ HB.out) ?_
            rintro e w2 ⟨rfl, hb⟩
            have HB2 := Aside0.mk (HB.out.trans (hb.mono HB.out.size))
            clear hb x5 y5
            generalize eqB a5 b5 = c at *
            go_wp2
            go_ret
            exact ⟨ret_b HE.out.symm, HB2.out⟩
          · have hv : eqB a4 b4 = false := eqB_false h4
            have HF := Aside0.mk (eqB_false (a := (⟨a0, a1, a2, a3, a4, a5⟩ : S35)) (b := ⟨a0, a1, a2, a3, b4, b5⟩) (fun e => h4 (by injection e)))
            clear h4
            go_enter Try.func123, Try.ntmps123
            go_wp2_with fail
            refine Calls.mono (E4.out _ (below_alloc (below_alloc (RowKit.Below.refl _ _) _) _)) ?_
            rintro e w1 ⟨rfl, hb⟩
            have HB := Aside0.mk (below_step (below_alloc (below_alloc (RowKit.Below.refl w.heap.size w) _) _) hb)
            clear hb
            rw [hv]
            clear hv
            go_wp2
            go_ret
            exact ⟨ret_b HF.out.symm, HB.out⟩
        · have HF := Aside0.mk (eqB_false (a := (⟨a0, a1, a2, a3, a4, a5⟩ : S35)) (b := ⟨b0, b1, b2, b3, b4, b5⟩) (fun e => h3 (by injection e)))
          subst h0
          subst h1
          subst h2
          have h3' : ¬ a3.toList = b3.toList := fun h => h3 (ba_inj h)
          have h3b : (a3.toList == b3.toList) = false := by simp [h3']
          have h3c : (a3.toList != b3.toList) = true := by simp [h3']
          clear h3
          go_enter Try.func123, Try.ntmps123
          go_wp2
          go_ret
          exact ⟨ret_b HF.out.symm, below_alloc (below_alloc (RowKit.Below.refl _ _) _) _⟩
      · have HF := Aside0.mk (eqB_false (a := (⟨a0, a1, a2, a3, a4, a5⟩ : S35)) (b := ⟨b0, b1, b2, b3, b4, b5⟩) (fun e => h2 (by injection e)))
        subst h0
        subst h1
        go_enter Try.func123, Try.ntmps123
        go_wp2
        go_ret
        exact ⟨ret_b HF.out.symm, below_alloc (below_alloc (RowKit.Below.refl _ _) _) _⟩
    · have HF := Aside0.mk (eqB_false (a := (⟨a0, a1, a2, a3, a4, a5⟩ : S35)) (b := ⟨b0, b1, b2, b3, b4, b5⟩) (fun e => h1 (by injection e)))
      subst h0
      go_enter Try.func123, Try.ntmps123
      go_wp2
      go_ret
      exact ⟨ret_b HF.out.symm, below_alloc (below_alloc (RowKit.Below.refl _ _) _) _⟩
  · have HF := Aside0.mk (eqB_false (a := (⟨a0, a1, a2, a3, a4, a5⟩ : S35)) (b := ⟨b0, b1, b2, b3, b4, b5⟩) (fun e => h0 (by injection e)))
    go_enter Try.func123, Try.ntmps123
    go_wp2
    go_ret
    exact ⟨ret_b HF.out.symm, below_alloc (below_alloc (RowKit.Below.refl _ _) _) _⟩
end Go.Proofs.Ytogpnkkoablmiaa.V
end
section
namespace Go.Proofs.Ytogpnkkoablmiaa.V
open Go.Shelf Go.RowKit Go.Lib Go.Sort Go.Proofs.Ytogpnkkoablmiaa.Q Go.Proofs.YtogpnkkoablmiaaW.PrintWords Go.Proofs.YtogpnkkoablmiaaW.PrintLast Go.Proofs.YtogpnkkoablmiaaW.PrintMore
set_option linter.unusedVariables false
set_option linter.unusedSimpArgs false
set_option maxHeartbeats 8000000 in
set_option maxRecDepth 100000 in
theorem same_calls (a b : S35) (A4 : Option Addr) (c4 : Nat) (A5 : Option Addr) (c5 : Nat) (B4 : Option Addr) (d4 : Nat) (B5 : Option Addr) (d5 : Nat) (w : World) (fa : fewV a) (fb : fewV b) (la4a : a.f4.length ≤ c4) (ra4a : k35.C w A4 a.f4.length a.f4) (la5a : a.f5.length ≤ c5) (ra5a : k89.C w A5 a.f5.length a.f5) (la4b : b.f4.length ≤ d4) (ra4b : k35.C w B4 b.f4.length b.f4) (la5b : b.f5.length ≤ d5) (ra5b : k89.C w B5 b.f5.length b.f5) :
    Calls Try.prog 61 #[.agg #[.int .i64 a.f0, .int .i64 a.f1, .int .i64 a.f2, .string a.f3, .slice A4 a.f4.length c4, .slice A5 a.f5.length c5], .agg #[.int .i64 b.f0, .int .i64 b.f1, .int .i64 b.f2, .string b.f3, .slice B4 b.f4.length d4, .slice B5 b.f5.length d5]] w fun e w' => e = .returned (.bool (eqB (plain a) (plain b))) ∧ RowKit.Below w.heap.size w w' := by
  have hu35 := Try.underlying35
  have PA := Aside0.mk (fun w1 (hb : RowKit.Below w.heap.size w w1) => plain59_all a A4 c4 A5 c5 w1 fa la4a (Kd.C_below ra4a hb) la5a (Kd.C_below ra5a hb))
  have PB := Aside0.mk (fun w1 (hb : RowKit.Below w.heap.size w w1) => plain59_all b B4 d4 B5 d5 w1 fb la4b (Kd.C_below ra4b hb) la5b (Kd.C_below ra5b hb))
  obtain ⟨cc, hcc⟩ : ∃ cc, cc = eqB (plain a) (plain b) := ⟨_, rfl⟩
  rw [← hcc]
  have HC := Aside0.mk hcc
  clear fa fb ra4a ra5a ra4b ra5b hcc
  go_enter Try.func61, Try.ntmps61
  go_wp2_with fail
  have hW := Aside0.mk ((below_alloc (below_alloc (RowKit.Below.refl w.heap.size w) (.cells #[.int .i64 a.f0, .int .i64 a.f1, .int .i64 a.f2, .string a.f3, .slice A4 a.f4.length c4, .slice A5 a.f5.length c5] 35)) (.cells #[.int .i64 b.f0, .int .i64 b.f1, .int .i64 b.f2, .string b.f3, .slice B4 b.f4.length d4, .slice B5 b.f5.length d5] 35)).drew)
  refine start_ (n := 6) (S := fun w' => w'.heap[w.heap.size]? = some (.cells #[.int .i64 a.f0, .int .i64 a.f1, .int .i64 a.f2, .string a.f3, .slice A4 a.f4.length c4, .slice A5 a.f5.length c5] 35 (0, 0)) ∧ w'.heap[w.heap.size + 1]? = some (.cells #[.int .i64 b.f0, .int .i64 b.f1, .int .i64 b.f2, .string b.f3, .slice B4 b.f4.length d4, .slice B5 b.f5.length d5] 35 (0, 0))) (ds := [3, 4, 5]) #[false, false, false, false, false, false] (by kernel_rfl) rfl rfl (by exact ⟨blk_drew (blk_alloc (blk_new w (.cells #[.int .i64 a.f0, .int .i64 a.f1, .int .i64 a.f2, .string a.f3, .slice A4 a.f4.length c4, .slice A5 a.f5.length c5] 35)) _), by have h := blk_drew (blk_new (w.alloc (.cells #[.int .i64 a.f0, .int .i64 a.f1, .int .i64 a.f2, .string a.f3, .slice A4 a.f4.length c4, .slice A5 a.f5.length c5] 35)) (.cells #[.int .i64 b.f0, .int .i64 b.f1, .int .i64 b.f2, .string b.f3, .slice B4 b.f4.length d4, .slice B5 b.f5.length d5] 35)); simpa using h⟩) (fun hHeld => ?_)
  refine take_ (i := 0) (N := some 5) (v := ?_) (a' := ?_) #[true, false, false, false, false, false] rfl rfl (by kernel_rfl) (fun _ _ _ h => h) (Or.inl ⟨by rfl, ?_⟩) hHeld ?_ ?_
  rotate_left
  · intro w' hSw
    obtain ⟨x0, x1, x2, x3, x4, x5⟩ := box35 hSw.1
    go_simp
    with_reducible rfl
  rotate_left
  · simp only [Act.put, List.setIfInBounds_toArray, List.set_cons_zero, List.set_cons_succ]
    rfl
  refine take_ (i := 2) (N := some 7) (v := ?_) (a' := ?_) #[true, false, true, false, false, false] rfl rfl (by kernel_rfl) (fun _ _ _ h => h) (Or.inl ⟨by rfl, ?_⟩) hHeld ?_ ?_
  rotate_left
  · intro w' hSw
    obtain ⟨x0, x1, x2, x3, x4, x5⟩ := box35 hSw.2
    go_simp
    with_reducible rfl
  rotate_left
  · simp only [Act.put, List.setIfInBounds_toArray, List.set_cons_zero, List.set_cons_succ]
    rfl
  have HH := Aside0.mk hHeld
  clear hHeld
  generalize ((w.alloc (.cells #[.int .i64 a.f0, .int .i64 a.f1, .int .i64 a.f2, .string a.f3, .slice A4 a.f4.length c4, .slice A5 a.f5.length c5] 35)).alloc (.cells #[.int .i64 b.f0, .int .i64 b.f1, .int .i64 b.f2, .string b.f3, .slice B4 b.f4.length d4, .slice B5 b.f5.length d5] 35)).drew = W at *
  refine one_ (i := 1) (N := some 6) #[true, true, true, false, false, false] rfl rfl (by kernel_rfl) (by decide) (fun K hK => ?_)
  refine goes_ Try.func59 (by kernel_rfl) rfl #[.agg #[.int .i64 a.f0, .int .i64 a.f1, .int .i64 a.f2, .string a.f3, .slice A4 a.f4.length c4, .slice A5 a.f5.length c5]] (by rfl) rfl rfl (by first | rfl | (simp only [List.map_toArray, List.map_cons, List.map_nil]; rfl)) ?_
  refine Calls.mono (PA.out _ hW.out) ?_
  rintro e w1 ⟨v4, v5, rfl, r4, r5, hb⟩
  obtain ⟨a4', n4', e4⟩ := Kd.R_slice r4
  obtain ⟨a5', n5', e5⟩ := Kd.R_slice r5
  subst e4
  subst e5
  have hW1 := Aside0.mk (hW.out.trans (hb.mono hW.out.size))
  refine ⟨_, rfl, ?_⟩
  refine hK.out _ _ ⟨(hb.block _ (blk_lt HH.out.1)).trans HH.out.1, (hb.block _ (blk_lt HH.out.2)).trans HH.out.2⟩ (fun _ => ?_)
  have X1 := Aside0.mk (And.intro (Kd.R_reads' r4) (Kd.R_reads' r5))
  clear hK K r4 r5 hb HH
  refine norm_ (a' := ?_) ?_ ?_
  rotate_left
  · show Act.put _ (some 6) _ = _
    simp only [Act.put, List.setIfInBounds_toArray, List.set_cons_zero, List.set_cons_succ]
    rfl
  refine chain_ [3, 4, 5] _ _ _ _ (⟨_, _, rfl, rfl, ⟨_, _, rfl, rfl, ⟨_, _, rfl, rfl, rfl⟩⟩⟩) (by kernel_rfl) (by decide) ?_
  generalize plain a = pa at *
  go_wp2_with fail
  refine Calls.mono (PB.out _ hW1.out) ?_
  rintro e w2 ⟨v4, v5, rfl, r4, r5, hb⟩
  obtain ⟨b4', m4', e4⟩ := Kd.R_slice r4
  obtain ⟨b5', m5', e5⟩ := Kd.R_slice r5
  subst e4
  subst e5
  have hW2 := Aside0.mk (hW1.out.trans (hb.mono hW1.out.size))
  have hb12 := Aside0.mk hb
  have X2 := Aside0.mk (And.intro (Kd.R_reads' r4) (Kd.R_reads' r5))
  clear r4 r5 hb
  generalize plain b = pb at *
  go_wp2_with fail
  refine Calls.mono (alike_all pa pb a4' n4' a5' n5' b4' m4' b5' m5' _ X1.out.1.2.1 (Kd.C_below X1.out.1.2.2 hb12.out) X1.out.2.2.1 (Kd.C_below X1.out.2.2.2 hb12.out) X2.out.1.2.1 X2.out.1.2.2 X2.out.2.2.1 X2.out.2.2.2) ?_
  rintro e w3 ⟨rfl, hb⟩
  have hW3 := Aside0.mk (hW2.out.trans (hb.mono hW2.out.size))
  clear hb
  generalize eqB pa pb = c at *
  go_wp2
  go_ret
  exact ⟨ret_b HC.out.symm, hW3.out⟩
end Go.Proofs.Ytogpnkkoablmiaa.V
end
section
namespace Go.Proofs.Ytogpnkkoablmiaa.V
open Go.Shelf Go.RowKit Go.Lib Go.Sort Go.Proofs.Ytogpnkkoablmiaa.Q Go.Proofs.YtogpnkkoablmiaaW.PrintWords Go.Proofs.YtogpnkkoablmiaaW.PrintLast Go.Proofs.YtogpnkkoablmiaaW.PrintMore
set_option linter.unusedVariables false
set_option linter.unusedSimpArgs false
def posK (xs : List S89) (key : ByteArray) : Nat := xs.countP (fun x => ltK x.f0 key)
def hasK (xs : List S89) (key : ByteArray) : Bool := xs.any (fun x => decide (x.f0.data = key.data))
theorem cmpK_neg {a b : ByteArray} : cmpK a b < 0 ↔ ltK a b = true := by
  unfold cmpK
  cases h1 : ltK a b <;> cases h2 : ltK b a <;> simp
theorem cmpK_zero {a b : ByteArray} : cmpK a b = 0 ↔ a = b := by
  constructor
  · intro h
    rcases ltK_tri a b with h1 | h1 | h1
    · have := cmpK_neg.2 h1; omega
    · exact h1
    · unfold cmpK at h
      rw [if_neg (by rw [ltK_asymm h1]; decide), if_pos h1] at h
      omega
  · rintro rfl
    unfold cmpK
    rw [ltK_irrefl]
    rfl
set_option maxHeartbeats 4000000 in
theorem clo164 (x : S89) (key : ByteArray) (A4 : Option Addr) (c4 : Nat) (A5 : Option Addr) (c5 : Nat) (w : World) :
    Calls Try.prog 164 #[.agg #[.string x.f0, .int .i64 x.f1.f0, .int .i64 x.f1.f1, .int .i64 x.f1.f2, .string x.f1.f3, .slice A4 x.f1.f4.length c4, .slice A5 x.f1.f5.length c5], .string key] w fun e w' => e = .returned (.int .i64 (cmpK x.f0 key)) ∧ RowKit.Below w.heap.size w w' := by
  have HC := Aside0.mk (cmpStr_calls x.f0 key)
  generalize cmpK x.f0 key = c at *
  go_enter Try.func164, Try.ntmps164
  go_wp2_with fail
  refine Calls.mono (HC.out _) ?_
  rintro e w1 ⟨rfl, rfl⟩
  go_wp2
  go_ret
  exact ⟨rfl, below_alloc (RowKit.Below.refl _ _) _⟩
theorem rise_get {xs : List S89} (h : Rise xs) {i j : Nat} (hij : i < j) (hj : j < xs.length) : ltK (xs.getD i z89).f0 (xs.getD j z89).f0 = true := by
  have := List.pairwise_iff_getElem.1 h i j (by omega) hj hij
  rw [List.getD_eq_getElem?_getD, List.getD_eq_getElem?_getD, List.getElem?_eq_getElem (by omega), List.getElem?_eq_getElem hj]
  exact this
theorem posK_eq {xs : List S89} {key : ByteArray} {i : Nat} (hi : i ≤ xs.length) (h1 : ∀ t, t < i → ltK (xs.getD t z89).f0 key = true) (h2 : ∀ t, i ≤ t → t < xs.length → ltK (xs.getD t z89).f0 key = false) : posK xs key = i := by
  unfold posK
  have e : xs = xs.take i ++ xs.drop i := (List.take_append_drop i xs).symm
  rw [e, List.countP_append, List.countP_eq_length.2, List.countP_eq_zero.2]
  · simp; omega
  · intro x hx
    obtain ⟨t, ht, rfl⟩ := List.mem_iff_getElem.1 hx
    have hl : i + t < xs.length := by simp at ht; omega
    have := h2 (i + t) (by omega) hl
    rw [List.getD_eq_getElem?_getD, List.getElem?_eq_getElem hl] at this
    rw [List.getElem_drop]
    simpa using this
  · intro x hx
    obtain ⟨t, ht, rfl⟩ := List.mem_iff_getElem.1 hx
    have hl : t < i := by simp at ht; omega
    have := h1 t hl
    rw [List.getD_eq_getElem?_getD, List.getElem?_eq_getElem (by omega)] at this
    rw [List.getElem_take]
    exact this
theorem hasK_at {xs : List S89} {key : ByteArray} (hr : Rise xs) {i : Nat} (h1 : ∀ t, t < i → ltK (xs.getD t z89).f0 key = true) (h2 : ∀ t, i ≤ t → t < xs.length → ltK (xs.getD t z89).f0 key = false) :
    hasK xs key = (decide (i < xs.length) && decide ((xs.getD i z89).f0 = key)) := by
  apply Bool.eq_iff_iff.2
  simp only [Bool.and_eq_true, decide_eq_true_eq]
  constructor
  · intro h
    obtain ⟨x, hx, he⟩ := List.any_eq_true.1 h
    have he' : x.f0 = key := ByteArray.ext (of_decide_eq_true he)
    obtain ⟨t, ht, rfl⟩ := List.mem_iff_getElem.1 hx
    have e : xs.getD t z89 = xs[t] := by rw [List.getD_eq_getElem?_getD, List.getElem?_eq_getElem ht]; rfl
    have hti : i ≤ t := by
      rcases Nat.lt_or_ge t i with h3 | h3
      · have := h1 t h3
        rw [e, he', ltK_irrefl] at this
        cases this
      · exact h3
    refine ⟨by omega, ?_⟩
    rcases Nat.lt_or_ge i t with h3 | h3
    · have h4 := rise_get hr h3 ht
      rw [e, he', h2 i (Nat.le_refl _) (by omega)] at h4
      cases h4
    · obtain rfl : i = t := by omega
      rw [e, he']
  · rintro ⟨hi, he⟩
    refine List.any_eq_true.2 ⟨xs.getD i z89, getD_mem xs i hi z89, decide_eq_true (by rw [he])⟩
set_option maxHeartbeats 8000000 in
set_option maxRecDepth 100000 in
theorem bs_calls (xs : List S89) (A : Option Addr) (c : Nat) (key : ByteArray) (w : World) (hlen : xs.length ≤ 90000) (hr : Rise xs) (hR : k89.C w A xs.length xs) :
    Calls Try.prog 163 #[.slice A xs.length c, .string key, .func (.func 164) #[] #[]] w fun e w' => e = .returned (.tuple #[.int .i64 (posK xs key), .bool (hasK xs key)]) ∧ RowKit.Below w.heap.size w w' := by
  have hu33 := Try.underlying33
  have HR := Aside0.mk (And.intro hr hR)
  clear hr hR
  go_enter Try.func163, Try.ntmps163
  go_wp2
  go_loopw [9, 10] (fun s9 s10 wr => ∃ lo hi : Nat, s9 = .int .i64 lo ∧ s10 = .int .i64 hi ∧ lo ≤ hi ∧ hi ≤ xs.length ∧ Aside0 (RowKit.Below w.heap.size w wr) ∧ Aside0 ((∀ t, t < lo → ltK (xs.getD t z89).f0 key = true) ∧ (∀ t, hi ≤ t → t < xs.length → ltK (xs.getD t z89).f0 key = false))) (fun s9 s10 _ => (intOf s10).toNat - (intOf s9).toNat)
  case atStart => exact ⟨0, xs.length, rfl, rfl, Nat.zero_le _, Nat.le_refl _, ⟨RowKit.Below.refl _ _⟩, ⟨fun t ht => absurd ht (Nat.not_lt_zero _), fun t h1 h2 => by omega⟩⟩
  case round =>
    obtain ⟨lo, hi, rfl, rfl, hlh, hhi, HB, HI⟩ := hrel
    by_cases hlt : lo < hi
    · have hm : (lo + hi) / 2 < xs.length := by omega
      obtain ⟨ad, P4, p4, P5, p5, rfl, x0, x1, x2, x3, x4, x5, x6, lp4, gp4, lp5, gp5⟩ := at89 (Kd.C_below HR.out.2 HB.out) ((lo + hi) / 2) hm
      have HL := Aside0.mk (fun t (h : t ≤ (lo + hi) / 2) (hk : ltK (xs.getD ((lo + hi) / 2) z89).f0 key = true) => (show ltK (xs.getD t z89).f0 key = true by
        rcases Nat.lt_or_ge t ((lo + hi) / 2) with h1 | h1
        · exact ltK_trans (rise_get HR.out.1 h1 hm) hk
        · obtain rfl : t = (lo + hi) / 2 := by omega
          exact hk))
      have HL2 := Aside0.mk (fun t (h : (lo + hi) / 2 ≤ t) (ht : t < xs.length) (hk : ltK (xs.getD t z89).f0 key = true) => (show ltK (xs.getD ((lo + hi) / 2) z89).f0 key = true by
        rcases Nat.lt_or_ge ((lo + hi) / 2) t with h1 | h1
        · exact ltK_trans (rise_get HR.out.1 h1 ht) hk
        · obtain rfl : t = (lo + hi) / 2 := by omega
          exact hk))
      have e1 : (((lo : Int) + (hi : Int)) / 2).toNat = (lo + hi) / 2 := by omega
      have e2 : (0 : Int) ≤ ((lo : Int) + (hi : Int)) / 2 := by omega
      have e3 : ((lo : Int) + (hi : Int)) / 2 < (xs.length : Int) := by omega
      generalize xs.getD ((lo + hi) / 2) z89 = x at *
      replace x0 := x0 ⟨wr, RowKit.Below.refl _ _⟩
      replace x1 := x1 ⟨wr, RowKit.Below.refl _ _⟩
      replace x2 := x2 ⟨wr, RowKit.Below.refl _ _⟩
      replace x3 := x3 ⟨wr, RowKit.Below.refl _ _⟩
      replace x4 := x4 ⟨wr, RowKit.Below.refl _ _⟩
      replace x5 := x5 ⟨wr, RowKit.Below.refl _ _⟩
      replace x6 := x6 ⟨wr, RowKit.Below.refl _ _⟩
      simp only [] at x0 x1 x2 x3 x4 x5 x6
      clear lp4 gp4 lp5 gp5
      go_wp2_with fail
      refine Calls.mono (clo164 x key P4 p4 P5 p5 _) ?_
      rintro e w7 ⟨rfl, hb⟩
      have HB7 := Aside0.mk (HB.out.trans (hb.mono HB.out.size))
      clear hb x0 x1 x2 x3 x4 x5 x6
      by_cases hc : cmpK x.f0 key < 0
      · have HK := Aside0.mk (cmpK_neg.1 hc)
        generalize cmpK x.f0 key = cc at *
        go_wp2
        exact ⟨⟨(lo + hi) / 2 + 1, hi, by go_num, rfl, by omega, hhi, HB7, ⟨fun t ht => HL.out t (by omega) HK.out, HI.out.2⟩⟩, by simp [intOf]; omega⟩
      · have HK := Aside0.mk (show ltK x.f0 key = false by cases h : ltK x.f0 key; rfl; exact absurd (cmpK_neg.2 h) hc)
        generalize cmpK x.f0 key = cc at *
        go_wp2
        refine ⟨⟨lo, (lo + hi) / 2, rfl, by go_num, by omega, by omega, HB7, ⟨HI.out.1, fun t h1 h2 => ?_⟩⟩, by simp [intOf]; omega⟩
        cases h : ltK (xs.getD t z89).f0 key
        · rfl
        · have := HL2.out t h1 h2 h
          rw [HK.out] at this
          cases this
    · obtain rfl : hi = lo := by omega
      have HP := Aside0.mk (posK_eq hhi HI.out.1 HI.out.2)
      have HH := Aside0.mk (hasK_at HR.out.1 HI.out.1 HI.out.2)
      by_cases hm : hi < xs.length
      · obtain ⟨ad, P4, p4, P5, p5, rfl, x0, x1, x2, x3, x4, x5, x6, lp4, gp4, lp5, gp5⟩ := at89 (Kd.C_below HR.out.2 HB.out) hi hm
        generalize xs.getD hi z89 = x at *
        replace x0 := x0 ⟨wr, RowKit.Below.refl _ _⟩
        replace x1 := x1 ⟨wr, RowKit.Below.refl _ _⟩
        replace x2 := x2 ⟨wr, RowKit.Below.refl _ _⟩
        replace x3 := x3 ⟨wr, RowKit.Below.refl _ _⟩
        replace x4 := x4 ⟨wr, RowKit.Below.refl _ _⟩
        replace x5 := x5 ⟨wr, RowKit.Below.refl _ _⟩
        replace x6 := x6 ⟨wr, RowKit.Below.refl _ _⟩
        simp only [] at x0 x1 x2 x3 x4 x5 x6
        clear lp4 gp4 lp5 gp5
        have hd : decide ((hi : Int) < (xs.length : Int)) = true := decide_eq_true (by omega)
        go_wp2_with fail
        refine Calls.mono (clo164 x key P4 p4 P5 p5 _) ?_
        rintro e w7 ⟨rfl, hb⟩
        have HB7 := Aside0.mk (HB.out.trans (hb.mono HB.out.size))
        clear hb x0 x1 x2 x3 x4 x5 x6
        by_cases hc : x.f0 = key
        · have hc0 : cmpK x.f0 key = 0 := cmpK_zero.2 hc
          have HK := Aside0.mk (show hasK xs key = true by rw [HH.out, decide_eq_true hm, decide_eq_true hc]; rfl)
          rw [hc0]
          clear hc hc0
          go_wp2
          go_ret2
          exact ⟨by rw [HP.out, HK.out]; rfl, HB7.out⟩
        · have hc0 : ¬ cmpK x.f0 key = 0 := fun h => hc (cmpK_zero.1 h)
          have HK := Aside0.mk (show hasK xs key = false by rw [HH.out, decide_eq_false hc]; simp)
          generalize cmpK x.f0 key = cc at *
          clear hc
          go_wp2
          go_ret2
          exact ⟨by rw [HP.out, HK.out]; first | rfl | simp [hc0], HB7.out⟩
      · have HK := Aside0.mk (show hasK xs key = false by rw [HH.out, decide_eq_false hm]; simp)
        have hd : decide ((hi : Int) < (xs.length : Int)) = false := decide_eq_false (by omega)
        go_wp2
        go_ret2
        exact ⟨by rw [HP.out, HK.out]; rfl, HB.out⟩
set_option maxHeartbeats 4000000 in
theorem place_calls (xs : List S89) (A : Option Addr) (c : Nat) (key : ByteArray) (w : World) (hlen : xs.length ≤ 90000) (hr : Rise xs) (hR : k89.C w A xs.length xs) :
    Calls Try.prog 124 #[.slice A xs.length c, .string key] w fun e w' => e = .returned (.tuple #[.int .i64 (posK xs key), .bool (hasK xs key)]) ∧ RowKit.Below w.heap.size w w' := by
  have H := Aside0.mk (bs_calls xs A c key w hlen hr hR)
  clear hr hR
  generalize posK xs key = p at *
  generalize hasK xs key = h at *
  go_enter Try.func124, Try.ntmps124
  go_wp2_with fail
  refine Calls.mono H.out ?_
  rintro e w1 ⟨rfl, hb⟩
  have HB := Aside0.mk hb
  clear hb
  go_wp2
  go_ret2
  exact ⟨rfl, HB.out⟩
def getV (v : S35) (key : ByteArray) : S35 := match (plain v).f5.find? (fun p => decide (p.f0.data = key.data)) with | some p => p.f1 | none => z35
theorem pairsP_rise (d : List S89) : Rise (pairsP d) := by
  unfold pairsP
  have h := (fst_fold (d.map (fun p => (⟨p.f0, plain p.f1⟩ : S89))) [] [] fst_nil).1
  exact List.Pairwise.filter _ h
theorem plain_rise (v : S35) : Rise (plain v).f5 := by
  rw [plain_eq]
  have hn : Rise ([] : List S89) := List.Pairwise.nil
  split
  · exact hn
  · split
    · exact hn
    · split
      · exact hn
      · split
        · exact pairsP_rise _
        · split
          · exact hn
          · split
            · exact pairsP_rise _
            · exact hn
theorem pairsP_len (d : List S89) : (pairsP d).length ≤ d.length := by
  unfold pairsP
  refine Nat.le_trans (List.length_filter_le _ _) ?_
  have := pairs_len (d.map (fun p => (⟨p.f0, plain p.f1⟩ : S89))) d.length
  rw [List.take_of_length_le (by simp)] at this
  exact this
theorem plain_len (v : S35) : (plain v).f5.length ≤ v.f5.length := by
  rw [plain_eq]
  split
  · simp
  · split
    · simp
    · split
      · simp
      · split
        · exact pairsP_len _
        · split
          · simp
          · split
            · exact pairsP_len _
            · simp [z35]
theorem find_at {xs : List S89} {key : ByteArray} {i : Nat} (hi : i < xs.length) (hk : (xs.getD i z89).f0 = key) (h1 : ∀ t, t < i → (xs.getD t z89).f0 ≠ key) : xs.find? (fun p => decide (p.f0.data = key.data)) = some (xs.getD i z89) := by
  rw [List.find?_eq_some_iff_getElem]
  have e : ∀ t (ht : t < xs.length), xs.getD t z89 = xs[t] := fun t ht => by rw [List.getD_eq_getElem?_getD, List.getElem?_eq_getElem ht]; rfl
  refine ⟨decide_eq_true (by rw [hk]), i, hi, (e i hi).symm, fun t ht => ?_⟩
  have := h1 t ht
  rw [e t (by omega)] at this
  have h2 : ¬ xs[t].f0.data = key.data := fun h => this (ByteArray.ext h)
  simp [h2]
theorem find_pos {xs : List S89} {key : ByteArray} (hr : Rise xs) (hh : hasK xs key = true) : posK xs key < xs.length ∧ xs.find? (fun p => decide (p.f0.data = key.data)) = some (xs.getD (posK xs key) z89) := by
  obtain ⟨x, hx, he⟩ := List.any_eq_true.1 hh
  have he' : x.f0 = key := ByteArray.ext (of_decide_eq_true he)
  obtain ⟨i, hi, rfl⟩ := List.mem_iff_getElem.1 hx
  have e : xs.getD i z89 = xs[i] := by rw [List.getD_eq_getElem?_getD, List.getElem?_eq_getElem hi]; rfl
  have l1 : ∀ t, t < i → ltK (xs.getD t z89).f0 key = true := fun t ht => by have := rise_get hr ht hi; rwa [e, he'] at this
  have l2 : ∀ t, i ≤ t → t < xs.length → ltK (xs.getD t z89).f0 key = false := fun t h1 h2 => by
    rcases Nat.lt_or_ge i t with h3 | h3
    · have := rise_get hr h3 h2
      rw [e, he'] at this
      exact ltK_asymm this
    · obtain rfl : i = t := by omega
      rw [e, he', ltK_irrefl]
  have hp : posK xs key = i := posK_eq (by omega) l1 l2
  rw [hp]
  refine ⟨hi, find_at hi (by rw [e, he']) (fun t ht h => ?_)⟩
  have := l1 t ht
  rw [h, ltK_irrefl] at this
  cases this
theorem find_none {xs : List S89} {key : ByteArray} (hh : hasK xs key = false) : xs.find? (fun p => decide (p.f0.data = key.data)) = none := by
  rw [List.find?_eq_none]
  intro x hx h
  have : hasK xs key = true := List.any_eq_true.2 ⟨x, hx, h⟩
  rw [hh] at this
  cases this
end Go.Proofs.Ytogpnkkoablmiaa.V
end
section
namespace Go.Proofs.Ytogpnkkoablmiaa.V
open Go.Shelf Go.RowKit Go.Lib Go.Sort Go.Proofs.Ytogpnkkoablmiaa.Q Go.Proofs.YtogpnkkoablmiaaW.PrintWords Go.Proofs.YtogpnkkoablmiaaW.PrintLast Go.Proofs.YtogpnkkoablmiaaW.PrintMore
set_option linter.unusedVariables false
set_option linter.unusedSimpArgs false
set_option maxHeartbeats 8000000 in
set_option maxRecDepth 100000 in
theorem get_calls (v : S35) (key : ByteArray) (A4 : Option Addr) (c4 : Nat) (A5 : Option Addr) (c5 : Nat) (w : World) (fv : fewV v) (la4v : v.f4.length ≤ c4) (ra4v : k35.C w A4 v.f4.length v.f4) (la5v : v.f5.length ≤ c5) (ra5v : k89.C w A5 v.f5.length v.f5) :
    Calls Try.prog 63 #[.agg #[.int .i64 v.f0, .int .i64 v.f1, .int .i64 v.f2, .string v.f3, .slice A4 v.f4.length c4, .slice A5 v.f5.length c5], .string key] w fun e w' => ∃ v4 v5, e = .returned (.tuple #[.agg #[.int .i64 (getV v key).f0, .int .i64 (getV v key).f1, .int .i64 (getV v key).f2, .string (getV v key).f3, v4, v5], .bool (hasK (plain v).f5 key)]) ∧ k35.R 35 w' w.heap.size (fun _ => True) v4 (getV v key).f4 ∧ k89.R 89 w' w.heap.size (fun _ => True) v5 (getV v key).f5 ∧ RowKit.Below w.heap.size w w' := by
  have hu35 := Try.underlying35
  have hu33 := Try.underlying33
  have PA := Aside0.mk (fun w1 (hb : RowKit.Below w.heap.size w w1) => plain59_all v A4 c4 A5 c5 w1 fv la4v (Kd.C_below ra4v hb) la5v (Kd.C_below ra5v hb))
  have XL := Aside0.mk (And.intro (plain_rise v) (Nat.le_trans (plain_len v) (fewV_at fv).2.1))
  have HG := Aside0.mk (show getV v key = match (plain v).f5.find? (fun p => decide (p.f0.data = key.data)) with | some p => p.f1 | none => z35 from rfl)
  clear ra4v ra5v fv
  obtain ⟨bb, hbb⟩ : ∃ bb, bb = hasK (plain v).f5 key := ⟨_, rfl⟩
  rw [← hbb]
  have HK := Aside0.mk hbb
  clear hbb
  generalize getV v key = gv at *
  generalize plain v = pv at *
  go_enter Try.func63, Try.ntmps63
  go_wp2_with fail
  refine Calls.mono (PA.out _ (below_alloc (below_alloc (RowKit.Below.refl _ _) _) _)) ?_
  rintro e w1 ⟨v4, v5, rfl, r4, r5, hb⟩
  have b2 := blk_below (blk_new (w.alloc (.cells #[.int .i64 v.f0, .int .i64 v.f1, .int .i64 v.f2, .string v.f3, .slice A4 v.f4.length c4, .slice A5 v.f5.length c5] 35)) (.cells #[.int .i64 0, .int .i64 0, .int .i64 0, .string ⟨#[]⟩, .slice none 0 0, .slice none 0 0] 35)) hb
  have HB1 := Aside0.mk (below_step (below_alloc (below_alloc (RowKit.Below.refl w.heap.size w) (.cells #[.int .i64 v.f0, .int .i64 v.f1, .int .i64 v.f2, .string v.f3, .slice A4 v.f4.length c4, .slice A5 v.f5.length c5] 35)) (.cells #[.int .i64 0, .int .i64 0, .int .i64 0, .string ⟨#[]⟩, .slice none 0 0, .slice none 0 0] 35)) hb)
  have hs1 := hb.size
  simp only [World.size_alloc] at b2 r5 hs1
  have B2 := Aside0.mk b2
  have R5 := Aside0.mk r5
  obtain ⟨A', c', hv⟩ := Kd.R_slice r5
  obtain ⟨A4', c4', hv4⟩ := Kd.R_slice r4
  obtain ⟨n4', hn4'⟩ : ∃ n4', n4' = pv.f4.length := ⟨_, rfl⟩
  rw [← hn4'] at hv4
  clear hn4' r4 r5
  subst hv
  subst hv4
  clear hb b2 PA
  generalize pv.f5 = xs at *
  have hfd : ∀ (q0 q1 q2 : Int) (q3 : ByteArray) (q4 q5 : Value) (w : World), (Instr.field 35 (.agg #[.int .i64 q0, .int .i64 q1, .int .i64 q2, .string q3, q4, q5]) 5).run Try.prog w = .ok q5 w := fun _ _ _ _ _ _ _ => by kernel_rfl
  go_wp2_with fail
  refine Calls.mono (place_calls xs A' c' key _ XL.out.2 XL.out.1 (Kd.R_reads' R5.out).2.2) ?_
  rintro e w2 ⟨rfl, hb⟩
  have B3 := Aside0.mk ((hb.block _ (blk_lt B2.out)).trans B2.out)
  have HB2 := Aside0.mk (HB1.out.trans (hb.mono HB1.out.size))
  have R6 := Aside0.mk (Kd.R_below R5.out hb)
  have hs2 : w.heap.size + 1 < w2.heap.size := by have := hb.size; omega
  clear hb B2 HB1 R5
  obtain ⟨y0, y1, y2, y3, y4, y5⟩ := box35 B3.out
  have t0 := frz B3.out (n := 0)
  have t1 := frz B3.out (n := 1)
  have t2 := frz B3.out (n := 2)
  have t3 := frz B3.out (n := 3)
  have t4 := frz B3.out (n := 4)
  have t5 := frz B3.out (n := 5)
  cases hh : hasK xs key with
  | true =>
    have HF := Aside0.mk (find_pos XL.out.1 hh)
    have hlt := HF.out.1
    have HH := Aside0.mk (HK.out.trans hh)
    clear hh HK
    generalize posK xs key = i at *
    obtain ⟨g, cap, hv, _⟩ := Kd.R_form R6.out (by omega)
    injection hv with hA _ hcap
    subst hA
    subst hcap
    obtain ⟨e4, e5, hM, x0, x1, x2, x3, x4, x5, x6⟩ := elem89 R6.out i hlt
    have HX := Aside0.mk (show gv = (xs.getD i z89).f1 by rw [HG.out, HF.out.2])
    have hM' := Aside0.mk hM
    clear hM HG HF
    generalize xs.getD i z89 = x at *
    have hsv := k89_openM hM'.out
    obtain ⟨e4_, e5_, hce, hr4, hr5⟩ := hsv
    obtain ⟨a4', n4', q4⟩ := Kd.R_slice hr4
    obtain ⟨a5', n5', q5⟩ := Kd.R_slice hr5
    injection hce with _ hce
    injection hce with _ hce
    injection hce with _ hce
    injection hce with _ hce
    injection hce with _ hce
    injection hce with h4e hce
    injection hce with h5e hce
    subst h4e
    subst h5e
    obtain ⟨n4, hn4⟩ : ∃ n4, n4 = x.f1.f4.length := ⟨_, rfl⟩
    obtain ⟨n5, hn5⟩ : ∃ n5, n5 = x.f1.f5.length := ⟨_, rfl⟩
    rw [← hn4] at q4
    rw [← hn5] at q5
    clear hn4 hn5 hr4 hr5 hce
    subst q4
    subst q5
    have i0 : (0 : Int) ≤ (i : Int) := by omega
    have i1 : (i : Int) < (xs.length : Int) := by omega
    go_wp2
    have BF := Aside0.mk (six_set (c0 := .int .i64 x.f1.f0) (c1 := .int .i64 x.f1.f1) (c2 := .int .i64 x.f1.f2) (c3 := .string x.f1.f3) (c4 := .slice a4' n4 n4') (c5 := .slice a5' n5 n5') B3.out)
    have MF := Aside0.mk (Kd.M_far (d := k89) (p := ⟨w.heap.size + 1, 5, none⟩) (Kd.M_far (d := k89) (p := ⟨w.heap.size + 1, 4, none⟩) (Kd.M_far (d := k89) (p := ⟨w.heap.size + 1, 3, none⟩) (Kd.M_far (d := k89) (p := ⟨w.heap.size + 1, 2, none⟩) (Kd.M_far (d := k89) (p := ⟨w.heap.size + 1, 1, none⟩) (Kd.M_far (d := k89) (p := ⟨w.heap.size + 1, 0, none⟩) (k89.M_bound hM'.out) (fun k hk => by have := hk.2.1; show k ≠ w.heap.size + 1; omega) (.int .i64 x.f1.f0)) (fun k hk => by have := hk.2.1; show k ≠ w.heap.size + 1; omega) (.int .i64 x.f1.f1)) (fun k hk => by have := hk.2.1; show k ≠ w.heap.size + 1; omega) (.int .i64 x.f1.f2)) (fun k hk => by have := hk.2.1; show k ≠ w.heap.size + 1; omega) (.string x.f1.f3)) (fun k hk => by have := hk.2.1; show k ≠ w.heap.size + 1; omega) (.slice a4' n4 n4')) (fun k hk => by have := hk.2.1; show k ≠ w.heap.size + 1; omega) (.slice a5' n5 n5'))
    have LF := Aside0.mk (RowKit.Below.setCell (RowKit.Below.setCell (RowKit.Below.setCell (RowKit.Below.setCell (RowKit.Below.setCell (RowKit.Below.setCell (HB2.out) (p := ⟨w.heap.size + 1, 0, none⟩) (Nat.le_succ _) (.int .i64 x.f1.f0)) (p := ⟨w.heap.size + 1, 1, none⟩) (Nat.le_succ _) (.int .i64 x.f1.f1)) (p := ⟨w.heap.size + 1, 2, none⟩) (Nat.le_succ _) (.int .i64 x.f1.f2)) (p := ⟨w.heap.size + 1, 3, none⟩) (Nat.le_succ _) (.string x.f1.f3)) (p := ⟨w.heap.size + 1, 4, none⟩) (Nat.le_succ _) (.slice a4' n4 n4')) (p := ⟨w.heap.size + 1, 5, none⟩) (Nat.le_succ _) (.slice a5' n5 n5'))
    clear x0 x1 x2 x3 x4 x5 x6 y0 y1 y2 y3 y4 y5 t0 t1 t2 t3 t4 t5
    generalize ((((((w2.setCell ⟨w.heap.size + 1, 0, none⟩ (.int .i64 x.f1.f0)).setCell ⟨w.heap.size + 1, 1, none⟩ (.int .i64 x.f1.f1)).setCell ⟨w.heap.size + 1, 2, none⟩ (.int .i64 x.f1.f2)).setCell ⟨w.heap.size + 1, 3, none⟩ (.string x.f1.f3)).setCell ⟨w.heap.size + 1, 4, none⟩ (.slice a4' n4 n4')).setCell ⟨w.heap.size + 1, 5, none⟩ (.slice a5' n5 n5')) = WF at *
    obtain ⟨r0, r1, r2, r3, r4, r5⟩ := box35 BF.out
    obtain ⟨u4, u5, hce, hr4, hr5⟩ := k89_openM MF.out
    injection hce with _ hce
    injection hce with _ hce
    injection hce with _ hce
    injection hce with _ hce
    injection hce with _ hce
    injection hce with h4e hce
    injection hce with h5e hce
    subst h4e
    subst h5e
    refine bodyPost_ret (v := .tuple #[.agg #[.int .i64 x.f1.f0, .int .i64 x.f1.f1, .int .i64 x.f1.f2, .string x.f1.f3, .slice a4' n4 n4', .slice a5' n5 n5'], .bool true]) (by simp [results, Try.results63, go_sem, r0, r1, r2, r3, r4, r5]) rfl ⟨.slice a4' n4 n4', .slice a5' n5 n5', by rw [HX.out, HH.out], ?_, ?_, LF.out⟩
    · rw [HX.out]; exact Kd.R_lower (Kd.R_mono hr4 (fun _ _ => trivial)) (by omega)
    · rw [HX.out]; exact Kd.R_lower (Kd.R_mono hr5 (fun _ _ => trivial)) (by omega)
  | false =>
    have HX := Aside0.mk (show gv = z35 by rw [HG.out, find_none hh])
    have HH := Aside0.mk (HK.out.trans hh)
    clear hh HK
    generalize posK xs key = i at *
    go_wp2
    have BF := Aside0.mk (six_set (c0 := .int .i64 0) (c1 := .int .i64 0) (c2 := .int .i64 0) (c3 := .string ⟨#[]⟩) (c4 := .slice none 0 0) (c5 := .slice none 0 0) B3.out)
    have LF := Aside0.mk (RowKit.Below.setCell (RowKit.Below.setCell (RowKit.Below.setCell (RowKit.Below.setCell (RowKit.Below.setCell (RowKit.Below.setCell (HB2.out) (p := ⟨w.heap.size + 1, 0, none⟩) (Nat.le_succ _) (.int .i64 0)) (p := ⟨w.heap.size + 1, 1, none⟩) (Nat.le_succ _) (.int .i64 0)) (p := ⟨w.heap.size + 1, 2, none⟩) (Nat.le_succ _) (.int .i64 0)) (p := ⟨w.heap.size + 1, 3, none⟩) (Nat.le_succ _) (.string ⟨#[]⟩)) (p := ⟨w.heap.size + 1, 4, none⟩) (Nat.le_succ _) (.slice none 0 0)) (p := ⟨w.heap.size + 1, 5, none⟩) (Nat.le_succ _) (.slice none 0 0))
    clear y0 y1 y2 y3 y4 y5 t0 t1 t2 t3 t4 t5
    generalize ((((((w2.setCell ⟨w.heap.size + 1, 0, none⟩ (.int .i64 0)).setCell ⟨w.heap.size + 1, 1, none⟩ (.int .i64 0)).setCell ⟨w.heap.size + 1, 2, none⟩ (.int .i64 0)).setCell ⟨w.heap.size + 1, 3, none⟩ (.string ⟨#[]⟩)).setCell ⟨w.heap.size + 1, 4, none⟩ (.slice none 0 0)).setCell ⟨w.heap.size + 1, 5, none⟩ (.slice none 0 0)) = WF at *
    obtain ⟨r0, r1, r2, r3, r4, r5⟩ := box35 BF.out
    refine bodyPost_ret (v := .tuple #[.agg #[.int .i64 0, .int .i64 0, .int .i64 0, .string ⟨#[]⟩, .slice none 0 0, .slice none 0 0], .bool false]) (by simp [results, Try.results63, go_sem, r0, r1, r2, r3, r4, r5]) rfl ⟨.slice none 0 0, .slice none 0 0, by rw [HX.out, HH.out]; rfl, by rw [HX.out]; exact Kd.R_nil _ _ _ _ _, by rw [HX.out]; exact Kd.R_nil _ _ _ _ _, LF.out⟩
end Go.Proofs.Ytogpnkkoablmiaa.V
end
