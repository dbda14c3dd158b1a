/- Parts of the proof: what the theorem reaches, put together by a program of this session. -/
import Derived.Test.YtogpnkkoablmiaaBY15
section
namespace Go.Proofs.Ytogpnkkoablmiaa.V
open Go.Shelf Go.RowKit Go.Lib Go.Sort Go.Proofs.Ytogpnkkoablmiaa.Q Go.Proofs.YtogpnkkoablmiaaW.PrintWords Go.Proofs.YtogpnkkoablmiaaW.PrintLast Go.Proofs.YtogpnkkoablmiaaW.PrintMore
set_option linter.unusedVariables false
set_option linter.unusedSimpArgs false
def AlSaid (a : S35) : Prop := ∀ (b : S35) (A4 : Option Addr) (c4 : Nat) (A5 : Option Addr) (c5 : Nat) (B4 : Option Addr) (d4 : Nat) (B5 : Option Addr) (d5 : Nat) (w : World), a.f4.length ≤ c4 → k35.C w A4 a.f4.length a.f4 → a.f5.length ≤ c5 → k89.C w A5 a.f5.length a.f5 →
 b.f4.length ≤ d4 → k35.C w B4 b.f4.length b.f4 → b.f5.length ≤ d5 → k89.C w B5 b.f5.length b.f5 →
 Calls Try.prog 123 #[.agg #[.int .i64 a.f0, .int .i64 a.f1, .int .i64 a.f2, .string a.f3, .slice A4 a.f4.length c4, .slice A5 a.f5.length c5], .agg #[.int .i64 b.f0, .int .i64 b.f1, .int .i64 b.f2, .string b.f3, .slice B4 b.f4.length d4, .slice B5 b.f5.length d5]] w fun e w' => e = .returned (.bool (eqB a b)) ∧ RowKit.Below w.heap.size w w'
set_option maxHeartbeats 8000000 in
set_option maxRecDepth 100000 in
theorem efv_calls (xs ys : List S35) (A : Option Addr) (c : Nat) (B : Option Addr) (d : Nat) (w : World) (la : xs.length ≤ c) (ra : k35.C w A xs.length xs) (lb : ys.length ≤ d) (rb : k35.C w B ys.length ys) (ih : ∀ x ∈ xs, AlSaid x) :
 Calls Try.prog 160 #[.slice A xs.length c, .slice B ys.length d, .func (.func 123) #[] #[]] w fun e w' => e = .returned (.bool (eqB xs ys)) ∧ RowKit.Below w.heap.size w w' := by
 have hu35 := Try.underlying35
 have m4 := Kd.C_max ra
 have RA := Aside0.mk ra
 have RB := Aside0.mk rb
 have IH := Aside0.mk ih
 clear ra rb ih
 by_cases hl : xs.length = ys.length
 · have hl' : ys.length = xs.length := hl.symm
   rw [hl'] at lb ⊢
   have HL := Aside0.mk hl'
   clear hl hl'
   go_enter Try.func160, Try.ntmps160
   go_wp2
   go_loopw [17] (fun i wr => ∃ k : Nat, k ≤ xs.length ∧ i = .int .i64 k ∧ Aside0 (RowKit.Below w.heap.size w wr) ∧ Aside0 (∀ j, j < k → xs.getD j z35 = ys.getD j z35)) (fun i _ => xs.length - (intOf i).toNat)
   case atStart => exact ⟨0, Nat.zero_le _, rfl, ⟨RowKit.Below.refl _ _⟩, ⟨fun j hj => by omega⟩⟩
   case round =>
    obtain ⟨k, hk, rfl, HB, HE⟩ := hrel
    by_cases hlt : k < xs.length
    · obtain ⟨ad, P4, p4, P5, p5, rfl, x0, x1, x2, x3, x4, x5, lp4, gp4, lp5, gp5⟩ := at35 (Kd.C_below RA.out HB.out) k hlt
      have RB' := Kd.C_below RB.out HB.out
      rw [HL.out] at RB'
      obtain ⟨bd, Q4, q4, Q5, q5, rfl, y0, y1, y2, y3, y4, y5, lq4, gq4, lq5, gq5⟩ := at35 RB' k hlt
      have hmem := getD_mem xs k hlt z35
      have IHx := Aside0.mk (IH.out _ hmem)
      generalize hx : xs.getD k z35 = x at *
      generalize hy : ys.getD k z35 = y at *
      have NX := Aside0.mk (And.intro hx hy)
      have G := Aside0.mk (And.intro lp4 (And.intro gp4 (And.intro lp5 (And.intro gp5 (And.intro lq4 (And.intro gq4 (And.intro lq5 gq5)))))))
      clear hx hy hmem lp4 gp4 lp5 gp5 lq4 gq4 lq5 gq5 RB'
      replace x0 := x0 ⟨wr, RowKit.Below.refl _ _⟩
      replace x1 := x1 ⟨wr, RowKit.Below.refl _ _⟩
      replace x2 := x2 ⟨wr, RowKit.Below.refl _ _⟩
      replace x3 := x3 ⟨wr, RowKit.Below.refl _ _⟩
      replace x4 := x4 ⟨wr, RowKit.Below.refl _ _⟩
      replace x5 := x5 ⟨wr, RowKit.Below.refl _ _⟩
      have hB1 := below_alloc (RowKit.Below.refl wr.heap.size wr) (.cells #[.int .i64 x.f0, .int .i64 x.f1, .int .i64 x.f2, .string x.f3, .slice P4 x.f4.length p4, .slice P5 x.f5.length p5] 35)
      replace y0 := y0 ⟨_, hB1⟩
      replace y1 := y1 ⟨_, hB1⟩
      replace y2 := y2 ⟨_, hB1⟩
      replace y3 := y3 ⟨_, hB1⟩
      replace y4 := y4 ⟨_, hB1⟩
      replace y5 := y5 ⟨_, hB1⟩
      simp only [] at x0 x1 x2 x3 x4 x5 y0 y1 y2 y3 y4 y5
      clear hB1
      go_wp2_with fail
      have hB2 := below_alloc (below_alloc (RowKit.Below.refl wr.heap.size wr) (.cells #[.int .i64 x.f0, .int .i64 x.f1, .int .i64 x.f2, .string x.f3, .slice P4 x.f4.length p4, .slice P5 x.f5.length p5] 35)) (.cells #[.int .i64 y.f0, .int .i64 y.f1, .int .i64 y.f2, .string y.f3, .slice Q4 y.f4.length q4, .slice Q5 y.f5.length q5] 35)
      refine Calls.mono (IHx.out y P4 p4 P5 p5 Q4 q4 Q5 q5 _ G.out.1 (Kd.C_below G.out.2.1 hB2) G.out.2.2.1 (Kd.C_below G.out.2.2.2.1 hB2) G.out.2.2.2.2.1 (Kd.C_below G.out.2.2.2.2.2.1 hB2) G.out.2.2.2.2.2.2.1 (Kd.C_below G.out.2.2.2.2.2.2.2 hB2)) ?_
      rintro e w7 ⟨rfl, hb⟩
      have HB7 := Aside0.mk (HB.out.trans ((below_step hB2 hb).mono HB.out.size))
      clear hb hB2 x0 x1 x2 x3 x4 x5 y0 y1 y2 y3 y4 y5
      by_cases hxy : x = y
      · have hv : eqB x y = true := eqB_true hxy
        rw [hv]
        clear hv
        have NXY := Aside0.mk hxy
        clear hxy
        go_wp2
        refine ⟨⟨k + 1, by omega, by go_num, HB7, ⟨fun j hj => ?_⟩⟩, by simp [intOf]; omega⟩
        rcases Nat.lt_or_ge j k with h | h
        · exact HE.out j h
        · obtain rfl : j = k := by omega
          rw [NX.out.1, NX.out.2, NXY.out]
      · have hv : eqB x y = false := eqB_false hxy
        rw [hv]
        clear hv
        have hf := Aside0.mk (eqB_false (a := xs) (b := ys) (fun h => hxy (by rw [← NX.out.1, ← NX.out.2, h])))
        clear hxy
        go_wp2
        go_ret
        exact ⟨ret_b hf.out.symm, HB7.out⟩
    · have hf := Aside0.mk (eqB_true (ext_getD z35 HL.out (fun j hj => HE.out j (by omega))))
      go_wp2
      go_ret
      exact ⟨ret_b hf.out.symm, HB.out⟩
 · have hf := Aside0.mk (eqB_false (a := xs) (b := ys) (fun h => hl (by rw [h])))
   have hlz : ((xs.length : Int) != (ys.length : Int)) = true := by simp; omega
   go_enter Try.func160, Try.ntmps160
   go_wp2
   go_ret
   exact ⟨ret_b hf.out.symm, RowKit.Below.refl _ _⟩
set_option maxHeartbeats 8000000 in
set_option maxRecDepth 100000 in
theorem al162 (a b : S89) (ih : AlSaid a.f1) (A4 : Option Addr) (c4 : Nat) (A5 : Option Addr) (c5 : Nat) (B4 : Option Addr) (d4 : Nat) (B5 : Option Addr) (d5 : Nat) (w : World) (la4 : a.f1.f4.length ≤ c4) (ra4 : k35.C w A4 a.f1.f4.length a.f1.f4) (la5 : a.f1.f5.length ≤ c5) (ra5 : k89.C w A5 a.f1.f5.length a.f1.f5)
 (lb4 : b.f1.f4.length ≤ d4) (rb4 : k35.C w B4 b.f1.f4.length b.f1.f4) (lb5 : b.f1.f5.length ≤ d5) (rb5 : k89.C w B5 b.f1.f5.length b.f1.f5) :
 Calls Try.prog 162 #[.agg #[.string a.f0, .int .i64 a.f1.f0, .int .i64 a.f1.f1, .int .i64 a.f1.f2, .string a.f1.f3, .slice A4 a.f1.f4.length c4, .slice A5 a.f1.f5.length c5], .agg #[.string b.f0, .int .i64 b.f1.f0, .int .i64 b.f1.f1, .int .i64 b.f1.f2, .string b.f1.f3, .slice B4 b.f1.f4.length d4, .slice B5 b.f1.f5.length d5]] w fun e w' => e = .returned (.bool (eqB a b)) ∧ RowKit.Below w.heap.size w w' := by
 have HC := Aside0.mk (fun w1 (hb : RowKit.Below w.heap.size w w1) => ih b.f1 A4 c4 A5 c5 B4 d4 B5 d5 w1 la4 (Kd.C_below ra4 hb) la5 (Kd.C_below ra5 hb) lb4 (Kd.C_below rb4 hb) lb5 (Kd.C_below rb5 hb))
 clear ra4 ra5 rb4 rb5
 obtain ⟨ka, a⟩ := a
 obtain ⟨kb, b⟩ := b
 simp only [] at *
 by_cases hk : ka = kb
 · subst hk
   have HE := Aside0.mk (show eqB (⟨ka, a⟩ : S89) ⟨ka, b⟩ = eqB a b by
    by_cases h : a = b
    · rw [eqB_true h, eqB_true (by rw [h])]
    · rw [eqB_false h, eqB_false (fun e => h (by injection e))])
   go_enter Try.func162, Try.ntmps162
   go_wp2_with fail
   refine Calls.mono (HC.out _ (below_alloc (below_alloc (RowKit.Below.refl _ _) _) _)) ?_
   rintro e w1 ⟨rfl, hb⟩
   have HB := Aside0.mk (below_step (below_alloc (below_alloc (RowKit.Below.refl w.heap.size w) _) _) hb)
   clear hb
   generalize eqB a b = c at *
   go_wp2
   go_ret
   exact ⟨ret_b HE.out.symm, HB.out⟩
 · have hf := Aside0.mk (eqB_false (a := (⟨ka, a⟩ : S89)) (b := ⟨kb, b⟩) (fun e => hk (by injection e)))
   have hk' : ¬ ka.toList = kb.toList := fun h => hk (ba_inj h)
   clear hk
   go_enter Try.func162, Try.ntmps162
   go_wp2
   go_ret
   exact ⟨ret_b hf.out.symm, below_alloc (below_alloc (RowKit.Below.refl _ _) _) _⟩
set_option maxHeartbeats 8000000 in
set_option maxRecDepth 100000 in
theorem efd_calls (xs ys : List S89) (A : Option Addr) (c : Nat) (B : Option Addr) (d : Nat) (w : World) (la : xs.length ≤ c) (ra : k89.C w A xs.length xs) (lb : ys.length ≤ d) (rb : k89.C w B ys.length ys) (ih : ∀ x ∈ xs, AlSaid x.f1) :
 Calls Try.prog 161 #[.slice A xs.length c, .slice B ys.length d, .func (.func 162) #[] #[]] w fun e w' => e = .returned (.bool (eqB xs ys)) ∧ RowKit.Below w.heap.size w w' := by
 have hu35 := Try.underlying35
 have m4 := Kd.C_max ra
 have RA := Aside0.mk ra
 have RB := Aside0.mk rb
 have IH := Aside0.mk ih
 clear ra rb ih
 by_cases hl : xs.length = ys.length
 · have hl' : ys.length = xs.length := hl.symm
   rw [hl'] at lb ⊢
   have HL := Aside0.mk hl'
   clear hl hl'
   go_enter Try.func161, Try.ntmps161
   go_wp2
   go_loopw [17] (fun i wr => ∃ k : Nat, k ≤ xs.length ∧ i = .int .i64 k ∧ Aside0 (RowKit.Below w.heap.size w wr) ∧ Aside0 (∀ j, j < k → xs.getD j z89 = ys.getD j z89)) (fun i _ => xs.length - (intOf i).toNat)
   case atStart => exact ⟨0, Nat.zero_le _, rfl, ⟨RowKit.Below.refl _ _⟩, ⟨fun j hj => by omega⟩⟩
   case round =>
    obtain ⟨k, hk, rfl, HB, HE⟩ := hrel
    by_cases hlt : k < xs.length
    · obtain ⟨ad, P4, p4, P5, p5, rfl, x0, x1, x2, x3, x4, x5, x6, lp4, gp4, lp5, gp5⟩ := at89 (Kd.C_below RA.out HB.out) k hlt
      have RB' := Kd.C_below RB.out HB.out
      rw [HL.out] at RB'
      obtain ⟨bd, Q4, q4, Q5, q5, rfl, y0, y1, y2, y3, y4, y5, y6, lq4, gq4, lq5, gq5⟩ := at89 RB' k hlt
      have hmem := getD_mem xs k hlt z89
      have IHx := Aside0.mk (IH.out _ hmem)
      generalize hx : xs.getD k z89 = x at *
      generalize hy : ys.getD k z89 = y at *
      have NX := Aside0.mk (And.intro hx hy)
      have G := Aside0.mk (And.intro lp4 (And.intro gp4 (And.intro lp5 (And.intro gp5 (And.intro lq4 (And.intro gq4 (And.intro lq5 gq5)))))))
      clear hx hy hmem lp4 gp4 lp5 gp5 lq4 gq4 lq5 gq5 RB'
      replace x0 := x0 ⟨wr, RowKit.Below.refl _ _⟩
      replace x1 := x1 ⟨wr, RowKit.Below.refl _ _⟩
      replace x2 := x2 ⟨wr, RowKit.Below.refl _ _⟩
      replace x3 := x3 ⟨wr, RowKit.Below.refl _ _⟩
      replace x4 := x4 ⟨wr, RowKit.Below.refl _ _⟩
      replace x5 := x5 ⟨wr, RowKit.Below.refl _ _⟩
      replace x6 := x6 ⟨wr, RowKit.Below.refl _ _⟩
      have hB1 := below_alloc (RowKit.Below.refl wr.heap.size wr) (.cells #[.string x.f0, .int .i64 x.f1.f0, .int .i64 x.f1.f1, .int .i64 x.f1.f2, .string x.f1.f3, .slice P4 x.f1.f4.length p4, .slice P5 x.f1.f5.length p5] 89)
      replace y0 := y0 ⟨_, hB1⟩
      replace y1 := y1 ⟨_, hB1⟩
      replace y2 := y2 ⟨_, hB1⟩
      replace y3 := y3 ⟨_, hB1⟩
      replace y4 := y4 ⟨_, hB1⟩
      replace y5 := y5 ⟨_, hB1⟩
      replace y6 := y6 ⟨_, hB1⟩
      simp only [] at x0 x1 x2 x3 x4 x5 x6 y0 y1 y2 y3 y4 y5 y6
      clear hB1
      go_wp2_with fail
      have hB2 := below_alloc (below_alloc (RowKit.Below.refl wr.heap.size wr) (.cells #[.string x.f0, .int .i64 x.f1.f0, .int .i64 x.f1.f1, .int .i64 x.f1.f2, .string x.f1.f3, .slice P4 x.f1.f4.length p4, .slice P5 x.f1.f5.length p5] 89)) (.cells #[.string y.f0, .int .i64 y.f1.f0, .int .i64 y.f1.f1, .int .i64 y.f1.f2, .string y.f1.f3, .slice Q4 y.f1.f4.length q4, .slice Q5 y.f1.f5.length q5] 89)
      refine Calls.mono (al162 x y IHx.out P4 p4 P5 p5 Q4 q4 Q5 q5 _ G.out.1 (Kd.C_below G.out.2.1 hB2) G.out.2.2.1 (Kd.C_below G.out.2.2.2.1 hB2) G.out.2.2.2.2.1 (Kd.C_below G.out.2.2.2.2.2.1 hB2) G.out.2.2.2.2.2.2.1 (Kd.C_below G.out.2.2.2.2.2.2.2 hB2)) ?_
      rintro e w7 ⟨rfl, hb⟩
      have HB7 := Aside0.mk (HB.out.trans ((below_step hB2 hb).mono HB.out.size))
      clear hb hB2 x0 x1 x2 x3 x4 x5 x6 y0 y1 y2 y3 y4 y5 y6
      by_cases hxy : x = y
      · have hv : eqB x y = true := eqB_true hxy
        rw [hv]
        clear hv
        have NXY := Aside0.mk hxy
        clear hxy
        go_wp2
        refine ⟨⟨k + 1, by omega, by go_num, HB7, ⟨fun j hj => ?_⟩⟩, by simp [intOf]; omega⟩
        rcases Nat.lt_or_ge j k with h | h
        · exact HE.out j h
        · obtain rfl : j = k := by omega
          rw [NX.out.1, NX.out.2, NXY.out]
      · have hv : eqB x y = false := eqB_false hxy
        rw [hv]
        clear hv
        have hf := Aside0.mk (eqB_false (a := xs) (b := ys) (fun h => hxy (by rw [← NX.out.1, ← NX.out.2, h])))
        clear hxy
        go_wp2
        go_ret
        exact ⟨ret_b hf.out.symm, HB7.out⟩
    · have hf := Aside0.mk (eqB_true (ext_getD z89 HL.out (fun j hj => HE.out j (by omega))))
      go_wp2
      go_ret
      exact ⟨ret_b hf.out.symm, HB.out⟩
 · have hf := Aside0.mk (eqB_false (a := xs) (b := ys) (fun h => hl (by rw [h])))
   have hlz : ((xs.length : Int) != (ys.length : Int)) = true := by simp; omega
   go_enter Try.func161, Try.ntmps161
   go_wp2
   go_ret
   exact ⟨ret_b hf.out.symm, RowKit.Below.refl _ _⟩
set_option maxHeartbeats 8000000 in
set_option maxRecDepth 100000 in
theorem alike_all : ∀ a, AlSaid a := by
 refine S35.ind ?_
 rintro ⟨a0, a1, a2, a3, a4, a5⟩ ih4 ih5 ⟨b0, b1, b2, b3, b4, b5⟩ A4 c4 A5 c5 B4 d4 B5 d5 w la4 ra4 la5 ra5 lb4 rb4 lb5 rb5
 simp only [] at *
 have hu35 := Try.underlying35
 have E4 := Aside0.mk (fun w1 (hb : RowKit.Below w.heap.size w w1) => efv_calls a4 b4 A4 c4 B4 d4 w1 la4 (Kd.C_below ra4 hb) lb4 (Kd.C_below rb4 hb) ih4)
 have E5 := Aside0.mk (fun w1 (hb : RowKit.Below w.heap.size w w1) => efd_calls a5 b5 A5 c5 B5 d5 w1 la5 (Kd.C_below ra5 hb) lb5 (Kd.C_below rb5 hb) ih5)
 clear ih4 ih5 ra4 ra5 rb4 rb5
 by_cases h0 : a0 = b0
 · by_cases h1 : a1 = b1
   · by_cases h2 : a2 = b2
     · by_cases h3 : a3 = b3
       · subst h0
         subst h1
         subst h2
         subst h3
         by_cases h4 : a4 = b4
         · have hv : eqB a4 b4 = true := eqB_true h4
           have HE := Aside0.mk (show eqB (⟨a0, a1, a2, a3, a4, a5⟩ : S35) ⟨a0, a1, a2, a3, b4, b5⟩ = eqB a5 b5 by
            by_cases h : a5 = b5
            · rw [eqB_true h, eqB_true (by rw [h, h4])]
            · rw [eqB_false h, eqB_false (fun e => h (by injection e))])
           clear h4
           go_enter Try.func123, Try.ntmps123
           go_wp2_with fail
           refine Calls.mono (E4.out _ (below_alloc (below_alloc (RowKit.Below.refl _ _) _) _)) ?_
           rintro e w1 ⟨rfl, hb⟩
           have b1' := blk_below (blk_alloc (blk_new w (.cells #[.int .i64 a0, .int .i64 a1, .int .i64 a2, .string a3, .slice A4 a4.length c4, .slice A5 a5.length c5] 35)) _) hb
           have b2' := blk_below (blk_new (w.alloc (.cells #[.int .i64 a0, .int .i64 a1, .int .i64 a2, .string a3, .slice A4 a4.length c4, .slice A5 a5.length c5] 35)) (.cells #[.int .i64 a0, .int .i64 a1, .int .i64 a2, .string a3, .slice B4 b4.length d4, .slice B5 b5.length d5] 35)) hb
           have HB := Aside0.mk (below_step (below_alloc (below_alloc (RowKit.Below.refl w.heap.size w) _) _) hb)
           simp only [World.size_alloc] at b1' b2'
           have x5 := (box35 b1').2.2.2.2.2
           have y5 := (box35 b2').2.2.2.2.2
           clear hb b1' b2'
           rw [hv]
           clear hv
           go_wp2_with fail
           refine Calls.mono (E5.out _ HB.out) ?_
           rintro e w2 ⟨rfl, hb⟩
           have HB2 := Aside0.mk (HB.out.trans (hb.mono HB.out.size))
           clear hb x5 y5
           generalize eqB a5 b5 = c at *
           go_wp2
           go_ret
           exact ⟨ret_b HE.out.symm, HB2.out⟩
         · have hv : eqB a4 b4 = false := eqB_false h4
           have HF := Aside0.mk (eqB_false (a := (⟨a0, a1, a2, a3, a4, a5⟩ : S35)) (b := ⟨a0, a1, a2, a3, b4, b5⟩) (fun e => h4 (by injection e)))
           clear h4
           go_enter Try.func123, Try.ntmps123
           go_wp2_with fail
           refine Calls.mono (E4.out _ (below_alloc (below_alloc (RowKit.Below.refl _ _) _) _)) ?_
           rintro e w1 ⟨rfl, hb⟩
           have HB := Aside0.mk (below_step (below_alloc (below_alloc (RowKit.Below.refl w.heap.size w) _) _) hb)
           clear hb
           rw [hv]
           clear hv
           go_wp2
           go_ret
           exact ⟨ret_b HF.out.symm, HB.out⟩
       · have HF := Aside0.mk (eqB_false (a := (⟨a0, a1, a2, a3, a4, a5⟩ : S35)) (b := ⟨b0, b1, b2, b3, b4, b5⟩) (fun e => h3 (by injection e)))
         subst h0
         subst h1
         subst h2
         have h3' : ¬ a3.toList = b3.toList := fun h => h3 (ba_inj h)
         have h3b : (a3.toList == b3.toList) = false := by simp [h3']
         have h3c : (a3.toList != b3.toList) = true := by simp [h3']
         clear h3
         go_enter Try.func123, Try.ntmps123
         go_wp2
         go_ret
         exact ⟨ret_b HF.out.symm, below_alloc (below_alloc (RowKit.Below.refl _ _) _) _⟩
     · have HF := Aside0.mk (eqB_false (a := (⟨a0, a1, a2, a3, a4, a5⟩ : S35)) (b := ⟨b0, b1, b2, b3, b4, b5⟩) (fun e => h2 (by injection e)))
       subst h0
       subst h1
       go_enter Try.func123, Try.ntmps123
       go_wp2
       go_ret
       exact ⟨ret_b HF.out.symm, below_alloc (below_alloc (RowKit.Below.refl _ _) _) _⟩
   · have HF := Aside0.mk (eqB_false (a := (⟨a0, a1, a2, a3, a4, a5⟩ : S35)) (b := ⟨b0, b1, b2, b3, b4, b5⟩) (fun e => h1 (by injection e)))
     subst h0
     go_enter Try.func123, Try.ntmps123
     go_wp2
     go_ret
     exact ⟨ret_b HF.out.symm, below_alloc (below_alloc (RowKit.Below.refl _ _) _) _⟩
 · have HF := Aside0.mk (eqB_false (a := (⟨a0, a1, a2, a3, a4, a5⟩ : S35)) (b := ⟨b0, b1, b2, b3, b4, b5⟩) (fun e => h0 (by injection e)))
   go_enter Try.func123, Try.ntmps123
   go_wp2
   go_ret
   exact ⟨ret_b HF.out.symm, below_alloc (below_alloc (RowKit.Below.refl _ _) _) _⟩
set_option maxHeartbeats 8000000 in
set_option maxRecDepth 100000 in
theorem same_calls (a b : S35) (A4 : Option Addr) (c4 : Nat) (A5 : Option Addr) (c5 : Nat) (B4 : Option Addr) (d4 : Nat) (B5 : Option Addr) (d5 : Nat) (w : World) (fa : fewV a) (fb : fewV b) (la4a : a.f4.length ≤ c4) (ra4a : k35.C w A4 a.f4.length a.f4) (la5a : a.f5.length ≤ c5) (ra5a : k89.C w A5 a.f5.length a.f5) (la4b : b.f4.length ≤ d4) (ra4b : k35.C w B4 b.f4.length b.f4) (la5b : b.f5.length ≤ d5) (ra5b : k89.C w B5 b.f5.length b.f5) :
 Calls Try.prog 61 #[.agg #[.int .i64 a.f0, .int .i64 a.f1, .int .i64 a.f2, .string a.f3, .slice A4 a.f4.length c4, .slice A5 a.f5.length c5], .agg #[.int .i64 b.f0, .int .i64 b.f1, .int .i64 b.f2, .string b.f3, .slice B4 b.f4.length d4, .slice B5 b.f5.length d5]] w fun e w' => e = .returned (.bool (eqB (plain a) (plain b))) ∧ RowKit.Below w.heap.size w w' := by
 have hu35 := Try.underlying35
 have PA := Aside0.mk (fun w1 (hb : RowKit.Below w.heap.size w w1) => plain59_all a A4 c4 A5 c5 w1 fa la4a (Kd.C_below ra4a hb) la5a (Kd.C_below ra5a hb))
 have PB := Aside0.mk (fun w1 (hb : RowKit.Below w.heap.size w w1) => plain59_all b B4 d4 B5 d5 w1 fb la4b (Kd.C_below ra4b hb) la5b (Kd.C_below ra5b hb))
 obtain ⟨cc, hcc⟩ : ∃ cc, cc = eqB (plain a) (plain b) := ⟨_, rfl⟩
 rw [← hcc]
 have HC := Aside0.mk hcc
 clear fa fb ra4a ra5a ra4b ra5b hcc
 go_enter Try.func61, Try.ntmps61
 go_wp2_with fail
 have hW := Aside0.mk ((below_alloc (below_alloc (RowKit.Below.refl w.heap.size w) (.cells #[.int .i64 a.f0, .int .i64 a.f1, .int .i64 a.f2, .string a.f3, .slice A4 a.f4.length c4, .slice A5 a.f5.length c5] 35)) (.cells #[.int .i64 b.f0, .int .i64 b.f1, .int .i64 b.f2, .string b.f3, .slice B4 b.f4.length d4, .slice B5 b.f5.length d5] 35)).drew)
 refine start_ (n := 6) (S := fun w' => w'.heap[w.heap.size]? = some (.cells #[.int .i64 a.f0, .int .i64 a.f1, .int .i64 a.f2, .string a.f3, .slice A4 a.f4.length c4, .slice A5 a.f5.length c5] 35 (0, 0)) ∧ w'.heap[w.heap.size + 1]? = some (.cells #[.int .i64 b.f0, .int .i64 b.f1, .int .i64 b.f2, .string b.f3, .slice B4 b.f4.length d4, .slice B5 b.f5.length d5] 35 (0, 0))) (ds := [3, 4, 5]) #[false, false, false, false, false, false] (by kernel_rfl) rfl rfl (by exact ⟨blk_drew (blk_alloc (blk_new w (.cells #[.int .i64 a.f0, .int .i64 a.f1, .int .i64 a.f2, .string a.f3, .slice A4 a.f4.length c4, .slice A5 a.f5.length c5] 35)) _), by have h := blk_drew (blk_new (w.alloc (.cells #[.int .i64 a.f0, .int .i64 a.f1, .int .i64 a.f2, .string a.f3, .slice A4 a.f4.length c4, .slice A5 a.f5.length c5] 35)) (.cells #[.int .i64 b.f0, .int .i64 b.f1, .int .i64 b.f2, .string b.f3, .slice B4 b.f4.length d4, .slice B5 b.f5.length d5] 35)); simpa using h⟩) (fun hHeld => ?_)
 refine take_ (i := 0) (N := some 5) (v := ?_) (a' := ?_) #[true, false, false, false, false, false] rfl rfl (by kernel_rfl) (fun _ _ _ h => h) (Or.inl ⟨by rfl, ?_⟩) hHeld ?_ ?_
 rotate_left
 · intro w' hSw
   obtain ⟨x0, x1, x2, x3, x4, x5⟩ := box35 hSw.1
   go_simp
   with_reducible rfl
 rotate_left
 · simp only [Act.put, List.setIfInBounds_toArray, List.set_cons_zero, List.set_cons_succ]
   rfl
 refine take_ (i := 2) (N := some 7) (v := ?_) (a' := ?_) #[true, false, true, false, false, false] rfl rfl (by kernel_rfl) (fun _ _ _ h => h) (Or.inl ⟨by rfl, ?_⟩) hHeld ?_ ?_
 rotate_left
 · intro w' hSw
   obtain ⟨x0, x1, x2, x3, x4, x5⟩ := box35 hSw.2
   go_simp
   with_reducible rfl
 rotate_left
 · simp only [Act.put, List.setIfInBounds_toArray, List.set_cons_zero, List.set_cons_succ]
   rfl
 have HH := Aside0.mk hHeld
 clear hHeld
 generalize ((w.alloc (.cells #[.int .i64 a.f0, .int .i64 a.f1, .int .i64 a.f2, .string a.f3, .slice A4 a.f4.length c4, .slice A5 a.f5.length c5] 35)).alloc (.cells #[.int .i64 b.f0, .int .i64 b.f1, .int .i64 b.f2, .string b.f3, .slice B4 b.f4.length d4, .slice B5 b.f5.length d5] 35)).drew = W at *
 refine one_ (i := 1) (N := some 6) #[true, true, true, false, false, false] rfl rfl (by kernel_rfl) (by decide) (fun K hK => ?_)
 refine goes_ Try.func59 (by kernel_rfl) rfl #[.agg #[.int .i64 a.f0, .int .i64 a.f1, .int .i64 a.f2, .string a.f3, .slice A4 a.f4.length c4, .slice A5 a.f5.length c5]] (by rfl) rfl rfl (by first | rfl | (simp only [List.map_toArray, List.map_cons, List.map_nil]; rfl)) ?_
 refine Calls.mono (PA.out _ hW.out) ?_
 rintro e w1 ⟨v4, v5, rfl, r4, r5, hb⟩
 obtain ⟨a4', n4', e4⟩ := Kd.R_slice r4
 obtain ⟨a5', n5', e5⟩ := Kd.R_slice r5
 subst e4
 subst e5
 have hW1 := Aside0.mk (hW.out.trans (hb.mono hW.out.size))
 refine ⟨_, rfl, ?_⟩
 refine hK.out _ _ ⟨(hb.block _ (blk_lt HH.out.1)).trans HH.out.1, (hb.block _ (blk_lt HH.out.2)).trans HH.out.2⟩ (fun _ => ?_)
 have X1 := Aside0.mk (And.intro (Kd.R_reads' r4) (Kd.R_reads' r5))
 clear hK K r4 r5 hb HH
 refine norm_ (a' := ?_) ?_ ?_
 rotate_left
 · show Act.put _ (some 6) _ = _
   simp only [Act.put, List.setIfInBounds_toArray, List.set_cons_zero, List.set_cons_succ]
   rfl
 refine chain_ [3, 4, 5] _ _ _ _ (⟨_, _, rfl, rfl, ⟨_, _, rfl, rfl, ⟨_, _, rfl, rfl, rfl⟩⟩⟩) (by kernel_rfl) (by decide) ?_
 generalize plain a = pa at *
 go_wp2_with fail
 refine Calls.mono (PB.out _ hW1.out) ?_
 rintro e w2 ⟨v4, v5, rfl, r4, r5, hb⟩
 obtain ⟨b4', m4', e4⟩ := Kd.R_slice r4
 obtain ⟨b5', m5', e5⟩ := Kd.R_slice r5
 subst e4
 subst e5
 have hW2 := Aside0.mk (hW1.out.trans (hb.mono hW1.out.size))
 have hb12 := Aside0.mk hb
 have X2 := Aside0.mk (And.intro (Kd.R_reads' r4) (Kd.R_reads' r5))
 clear r4 r5 hb
 generalize plain b = pb at *
 go_wp2_with fail
 refine Calls.mono (alike_all pa pb a4' n4' a5' n5' b4' m4' b5' m5' _ X1.out.1.2.1 (Kd.C_below X1.out.1.2.2 hb12.out) X1.out.2.2.1 (Kd.C_below X1.out.2.2.2 hb12.out) X2.out.1.2.1 X2.out.1.2.2 X2.out.2.2.1 X2.out.2.2.2) ?_
 rintro e w3 ⟨rfl, hb⟩
 have hW3 := Aside0.mk (hW2.out.trans (hb.mono hW2.out.size))
 clear hb
 generalize eqB pa pb = c at *
 go_wp2
 go_ret
 exact ⟨ret_b HC.out.symm, hW3.out⟩
theorem pairsP_rise (d : List S89) : Rise (pairsP d) := by
 unfold pairsP
 have h := (fst_fold (d.map (fun p => (⟨p.f0, plain p.f1⟩ : S89))) [] [] fst_nil).1
 exact List.Pairwise.filter _ h
theorem plain_rise (v : S35) : Rise (plain v).f5 := by
 rw [plain_eq]
 have hn : Rise ([] : List S89) := List.Pairwise.nil
 split
 · exact hn
 · split
   · exact hn
   · split
     · exact hn
     · split
       · exact pairsP_rise _
       · split
         · exact hn
         · split
           · exact pairsP_rise _
           · exact hn
theorem pairsP_len (d : List S89) : (pairsP d).length ≤ d.length := by
 unfold pairsP
 refine Nat.le_trans (List.length_filter_le _ _) ?_
 have := pairs_len (d.map (fun p => (⟨p.f0, plain p.f1⟩ : S89))) d.length
 rw [List.take_of_length_le (by simp)] at this
 exact this
end Go.Proofs.Ytogpnkkoablmiaa.V
end
