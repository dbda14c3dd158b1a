/- Parts of the proof: what the theorem reaches, put together by a program of this session. -/
import Derived.Test.YtogpnkkoablmiaaBY22
section
namespace Go.Proofs.Ytogpnkkoablmiaa.Q
open Go.RowKit Go.Proofs.YtogpnkkoablmiaaW.PrintWords Go.Proofs.YtogpnkkoablmiaaW.PrintLast Go.Proofs.YtogpnkkoablmiaaW.PrintMore
attribute [local go_sem] max2_int min2_int max_two min_two max_three min_three max_four min_four   -- for this text's walks alone
set_option linter.unusedVariables false
set_option linter.unusedSimpArgs false
def binderylaw33_Few.l0 : Nat → List (S37) → Int → Option (Bool)
 | 0, _, _ => none
 | k + 1, x0, x3 => if x3 < (x0.length : Int) then (if 0 ≤ x3 then ((binderyref16_Few.f k ((rd_T37 x0 x3).f2.f0) ((rd_T37 x0 x3).f2.f1) ((rd_T37 x0 x3).f2.f2) ((rd_T37 x0 x3).f2.f3) ((rd_T37 x0 x3).f2.f4) ((rd_T37 x0 x3).f2.f5) 60).bind fun t153 => (if t153 = true then (binderylaw33_Few.l0 k x0 (wrap64 (x3 + 1))) else (some false))) else (none)) else (some true)
def binderylaw33_Few.f (k : Nat) (l0 : List (S37)) : Option (Bool) := if (l0.length : Int) > 60 then (some false) else (binderylaw33_Few.l0 k l0 0)
set_option maxHeartbeats 8000000 in
set_option maxRecDepth 100000 in
theorem binderylaw33_Few.calls (k : Nat) (A0 : Option Addr) (c0 : Nat) (l0 : List (S37)) (r : Bool) (w : World) (hr0 : Kd.C k37 w A0 l0.length l0) (hc0 : l0.length ≤ c0) (h : binderylaw33_Few.f k l0 = some r) :
 Calls Try.prog 18 #[.slice A0 l0.length c0] w fun e w' => e = .returned (.bool r) ∧ Below w.heap.size w w' := by
 have hu35 := Try.underlying35
 have HR0 := Aside0.mk hr0
 have HC0 := Aside0.mk hc0
 clear hr0 hc0
 have HB := Aside0.mk (Below.refl w.heap.size w)
 have H : (if (l0.length : Int) > 60 then (some false) else (binderylaw33_Few.l0 k l0 0)) = some r := h
 clear h
 by_cases c2 : (l0.length : Int) > 60
 · rw [if_pos c2] at H
   have c2b0 : decide (60 < (l0.length : Int)) = true := decide_eq_true c2
   have c2b1 : decide (60 < l0.length) = true := decide_eq_true (by omega)
   clear c2
   obtain rfl := Option.some.inj H
   go_enter Try.func18, Try.ntmps18
   go_wp2
   go_ret
   exact ⟨by first | rfl | (simp [errW_none, errW_some] <;> rfl) | (simp [*, errW_none, errW_some] <;> rfl), by repeat (first | (with_reducible first | exact HB.out | apply below_alloc | apply pw_below_drewN | apply below_drew1) | exact HB.out)⟩
 · rw [if_neg c2] at H
   have c2b0 : decide (60 < (l0.length : Int)) = false := decide_eq_false c2
   have c2b1 : decide (60 < l0.length) = false := decide_eq_false (by omega)
   clear c2
   have H' := Aside0.mk H
   clear H
   go_enter Try.func18, Try.ntmps18
   go_wp2
   go_loopg [3] k (fun kq v3 w' => ∃ (x3_1 : Int), v3 = .int .i64 x3_1 ∧ Aside0 (binderylaw33_Few.l0 kq l0 x3_1 = some r) ∧ Aside0 (kq ≤ k) ∧ Aside0 (Below w.heap.size w w'))
   case atStart => exact ⟨(0), (by first | rfl | (simp; done) | (simp [*]; done)), H', ⟨Nat.le_refl _⟩, ⟨by repeat (first | (with_reducible first | exact HB.out | apply below_alloc | apply pw_below_drewN | apply below_drew1) | exact HB.out)⟩⟩
   case round =>
    clear H'
    try clear c1
    try clear c2
    try clear c2b0
    try clear c2b1
    try clear p2
    obtain ⟨x3_1, rfl, HA, HK1, HB⟩ := hrel
    cases gk with
    | zero => exact absurd HA.out (by simp [binderylaw33_Few.l0])
    | succ k1 =>
      have H := HA.out
      clear HA
      simp only [binderylaw33_Few.l0] at H
      by_cases c3 : x3_1 < (l0.length : Int)
      · rw [if_pos c3] at H
        have c3b0 : decide (x3_1 < (l0.length : Int)) = true := decide_eq_true c3
        clear c3
        by_cases c4 : 0 ≤ x3_1
        · rw [if_pos c4] at H
          have c4b0 : decide (0 ≤ x3_1) = true := decide_eq_true c4
          clear c4
          replace H := Option.bind_eq_some_iff.mp H
          obtain ⟨t153, A50, H⟩ := H
          replace H : (if t153 = true then (binderylaw33_Few.l0 k1 l0 (wrap64 (x3_1 + 1))) else (some false)) = some r := H
          have A5 := Aside0.mk A50
          clear A50
          by_cases c6 : t153 = true
          · subst c6
            have H1 : (binderylaw33_Few.l0 k1 l0 (wrap64 (x3_1 + 1))) = some r := by rw [if_pos rfl] at H; exact H
            clear H
            have H := H1
            clear H1
            have H' := Aside0.mk H
            clear H
            have p152 : 0 ≤ (x3_1 : Int) := of_decide_eq_true (by first | (with_reducible assumption) | assumption)
            have q152 : x3_1 < (l0.length : Int) := of_decide_eq_true (by first | (with_reducible assumption) | assumption)
            obtain ⟨ad152, A152_7, c152_7, A152_8, c152_8, e152, hx152_0, hx152_1, hx152_2, hx152_3, hx152_4, hx152_5, hx152_6, hx152_7, hx152_8, hl152_7, hi152_7, hl152_8, hi152_8⟩ := at_T37 HR0.out x3_1 p152 q152
            cases e152
            replace hx152_0 := up_ HB.out.cell hx152_0
            replace hx152_1 := up_ HB.out.cell hx152_1
            replace hx152_2 := up_ HB.out.cell hx152_2
            replace hx152_3 := up_ HB.out.cell hx152_3
            replace hx152_4 := up_ HB.out.cell hx152_4
            replace hx152_5 := up_ HB.out.cell hx152_5
            replace hx152_6 := up_ HB.out.cell hx152_6
            replace hx152_7 := up_ HB.out.cell hx152_7
            replace hx152_8 := up_ HB.out.cell hx152_8
            have HR152_7 := Aside0.mk hi152_7
            have HC152_7 := Aside0.mk hl152_7
            clear hi152_7 hl152_7
            have HR152_8 := Aside0.mk hi152_8
            have HC152_8 := Aside0.mk hl152_8
            clear hi152_8 hl152_8
            replace p152 := eq_true p152
            replace q152 := eq_true q152
            go_wp2_with (first | ((with_reducible refine gate_callee (f := 50) rfl ?_); refine goesL_ (some 18) rfl rfl Try.func50 (by kernel_rfl) rfl #[.agg #[.int .i64 ((rd_T37 l0 x3_1).f2.f0), .int .i64 ((rd_T37 l0 x3_1).f2.f1), .int .i64 ((rd_T37 l0 x3_1).f2.f2), .string ((rd_T37 l0 x3_1).f2.f3), .slice A152_7 ((rd_T37 l0 x3_1).f2.f4).length c152_7, .slice A152_8 ((rd_T37 l0 x3_1).f2.f5).length c152_8], .int .i64 60] rfl (by (try simp only [List.map_toArray, List.map_cons, List.map_nil]); first | done | rfl | (simp only [List.length_drop, List.length_take]; rfl)) ?_; (with_reducible refine (binderyref16_Few.calls k1 ((rd_T37 l0 x3_1).f2.f0) ((rd_T37 l0 x3_1).f2.f1) ((rd_T37 l0 x3_1).f2.f2) ((rd_T37 l0 x3_1).f2.f3) _ _ ((rd_T37 l0 x3_1).f2.f4) _ _ ((rd_T37 l0 x3_1).f2.f5) 60 true _ ?side1 ?side2 ?side3 ?side4 A5.out).mono ?_); (case side1 => repeat (first | exact (Kd.C_below HR152_7.out HB.out) | (with_reducible refine Kd.C_alloc ?_ _) | (with_reducible refine Kd.C_drewN ?_ _) | (with_reducible refine Kd.C_drew ?_))); (case side2 => exact HC152_7.out); (case side3 => repeat (first | exact (Kd.C_below HR152_8.out HB.out) | (with_reducible refine Kd.C_alloc ?_ _) | (with_reducible refine Kd.C_drewN ?_ _) | (with_reducible refine Kd.C_drew ?_))); (case side4 => exact HC152_8.out); rintro e w7 ⟨rfl, hb⟩; refine ⟨_, rfl, ?_⟩; have n0_ := Aside0.mk (below_step (by repeat (first | (with_reducible first | exact HB.out | apply below_alloc | apply pw_below_drewN | apply below_drew1) | exact HB.out)) hb); clear HB; have HB := n0_; clear n0_; (try clear hb); (try clear hb2); (try clear hk); (try clear hi)))
            go_roundg k1
            case measure => have := HK1.out; omega
            case rel => exact ⟨(wrap64 (x3_1 + 1)), (by first | rfl | (simp; done) | (simp [*]; done)), H', ⟨by have := HK1.out; omega⟩, ⟨by repeat (first | (with_reducible first | exact HB.out | apply below_alloc | apply pw_below_drewN | apply below_drew1) | exact HB.out)⟩⟩
          · replace c6 := Bool.eq_false_iff.mpr c6
            subst c6
            have H1 : (some false) = some r := by rw [if_neg (show ¬ (false = true) by decide)] at H; exact H
            clear H
            have H := H1
            clear H1
            obtain rfl := Option.some.inj H
            have p152 : 0 ≤ (x3_1 : Int) := of_decide_eq_true (by first | (with_reducible assumption) | assumption)
            have q152 : x3_1 < (l0.length : Int) := of_decide_eq_true (by first | (with_reducible assumption) | assumption)
            obtain ⟨ad152, A152_7, c152_7, A152_8, c152_8, e152, hx152_0, hx152_1, hx152_2, hx152_3, hx152_4, hx152_5, hx152_6, hx152_7, hx152_8, hl152_7, hi152_7, hl152_8, hi152_8⟩ := at_T37 HR0.out x3_1 p152 q152
            cases e152
            replace hx152_0 := up_ HB.out.cell hx152_0
            replace hx152_1 := up_ HB.out.cell hx152_1
            replace hx152_2 := up_ HB.out.cell hx152_2
            replace hx152_3 := up_ HB.out.cell hx152_3
            replace hx152_4 := up_ HB.out.cell hx152_4
            replace hx152_5 := up_ HB.out.cell hx152_5
            replace hx152_6 := up_ HB.out.cell hx152_6
            replace hx152_7 := up_ HB.out.cell hx152_7
            replace hx152_8 := up_ HB.out.cell hx152_8
            have HR152_7 := Aside0.mk hi152_7
            have HC152_7 := Aside0.mk hl152_7
            clear hi152_7 hl152_7
            have HR152_8 := Aside0.mk hi152_8
            have HC152_8 := Aside0.mk hl152_8
            clear hi152_8 hl152_8
            replace p152 := eq_true p152
            replace q152 := eq_true q152
            go_wp2_with (first | ((with_reducible refine gate_callee (f := 50) rfl ?_); refine goesL_ (some 18) rfl rfl Try.func50 (by kernel_rfl) rfl #[.agg #[.int .i64 ((rd_T37 l0 x3_1).f2.f0), .int .i64 ((rd_T37 l0 x3_1).f2.f1), .int .i64 ((rd_T37 l0 x3_1).f2.f2), .string ((rd_T37 l0 x3_1).f2.f3), .slice A152_7 ((rd_T37 l0 x3_1).f2.f4).length c152_7, .slice A152_8 ((rd_T37 l0 x3_1).f2.f5).length c152_8], .int .i64 60] rfl (by (try simp only [List.map_toArray, List.map_cons, List.map_nil]); first | done | rfl | (simp only [List.length_drop, List.length_take]; rfl)) ?_; (with_reducible refine (binderyref16_Few.calls k1 ((rd_T37 l0 x3_1).f2.f0) ((rd_T37 l0 x3_1).f2.f1) ((rd_T37 l0 x3_1).f2.f2) ((rd_T37 l0 x3_1).f2.f3) _ _ ((rd_T37 l0 x3_1).f2.f4) _ _ ((rd_T37 l0 x3_1).f2.f5) 60 false _ ?side1 ?side2 ?side3 ?side4 A5.out).mono ?_); (case side1 => repeat (first | exact (Kd.C_below HR152_7.out HB.out) | (with_reducible refine Kd.C_alloc ?_ _) | (with_reducible refine Kd.C_drewN ?_ _) | (with_reducible refine Kd.C_drew ?_))); (case side2 => exact HC152_7.out); (case side3 => repeat (first | exact (Kd.C_below HR152_8.out HB.out) | (with_reducible refine Kd.C_alloc ?_ _) | (with_reducible refine Kd.C_drewN ?_ _) | (with_reducible refine Kd.C_drew ?_))); (case side4 => exact HC152_8.out); rintro e w8 ⟨rfl, hb⟩; refine ⟨_, rfl, ?_⟩; have n0_ := Aside0.mk (below_step (by repeat (first | (with_reducible first | exact HB.out | apply below_alloc | apply pw_below_drewN | apply below_drew1) | exact HB.out)) hb); clear HB; have HB := n0_; clear n0_; (try clear hb); (try clear hb2); (try clear hk); (try clear hi)))
            go_ret
            exact ⟨by first | rfl | (simp [errW_none, errW_some] <;> rfl) | (simp [*, errW_none, errW_some] <;> rfl), by repeat (first | (with_reducible first | exact HB.out | apply below_alloc | apply pw_below_drewN | apply below_drew1) | exact HB.out)⟩
        · rw [if_neg c4] at H
          exact absurd H (by simp)
      · rw [if_neg c3] at H
        have c3b0 : decide (x3_1 < (l0.length : Int)) = false := decide_eq_false c3
        clear c3
        obtain rfl := Option.some.inj H
        go_wp2
        go_ret
        exact ⟨by first | rfl | (simp [errW_none, errW_some] <;> rfl) | (simp [*, errW_none, errW_some] <;> rfl), by repeat (first | (with_reducible first | exact HB.out | apply below_alloc | apply pw_below_drewN | apply below_drew1) | exact HB.out)⟩
def binderylaw33_Small.l0 : Nat → List (S69) → Int → Option (Bool)
 | 0, _, _ => none
 | k + 1, x0, x3 => if x3 < (x0.length : Int) then (if 0 ≤ x3 then ((binderyref16_Few.f k ((rd_T69 x0 x3).f2.f0) ((rd_T69 x0 x3).f2.f1) ((rd_T69 x0 x3).f2.f2) ((rd_T69 x0 x3).f2.f3) ((rd_T69 x0 x3).f2.f4) ((rd_T69 x0 x3).f2.f5) 60).bind fun t178 => (if t178 = true then (binderylaw33_Small.l0 k x0 (wrap64 (x3 + 1))) else (some false))) else (none)) else (some true)
def binderylaw33_Small.f (k : Nat) (l0 : List (S69)) : Option (Bool) := if (l0.length : Int) > 60 then (some false) else (binderylaw33_Small.l0 k l0 0)
set_option maxHeartbeats 8000000 in
set_option maxRecDepth 100000 in
theorem binderylaw33_Small.calls (k : Nat) (A0 : Option Addr) (c0 : Nat) (l0 : List (S69)) (r : Bool) (w : World) (hr0 : Kd.C k69 w A0 l0.length l0) (hc0 : l0.length ≤ c0) (h : binderylaw33_Small.f k l0 = some r) :
 Calls Try.prog 26 #[.slice A0 l0.length c0] w fun e w' => e = .returned (.bool r) ∧ Below w.heap.size w w' := by
 have hu35 := Try.underlying35
 have HR0 := Aside0.mk hr0
 have HC0 := Aside0.mk hc0
 clear hr0 hc0
 have HB := Aside0.mk (Below.refl w.heap.size w)
 have H : (if (l0.length : Int) > 60 then (some false) else (binderylaw33_Small.l0 k l0 0)) = some r := h
 clear h
 by_cases c2 : (l0.length : Int) > 60
 · rw [if_pos c2] at H
   have c2b0 : decide (60 < (l0.length : Int)) = true := decide_eq_true c2
   have c2b1 : decide (60 < l0.length) = true := decide_eq_true (by omega)
   clear c2
   obtain rfl := Option.some.inj H
   go_enter Try.func26, Try.ntmps26
   go_wp2
   go_ret
   exact ⟨by first | rfl | (simp [errW_none, errW_some] <;> rfl) | (simp [*, errW_none, errW_some] <;> rfl), by repeat (first | (with_reducible first | exact HB.out | apply below_alloc | apply pw_below_drewN | apply below_drew1) | exact HB.out)⟩
 · rw [if_neg c2] at H
   have c2b0 : decide (60 < (l0.length : Int)) = false := decide_eq_false c2
   have c2b1 : decide (60 < l0.length) = false := decide_eq_false (by omega)
   clear c2
   have H' := Aside0.mk H
   clear H
   go_enter Try.func26, Try.ntmps26
   go_wp2
   go_loopg [3] k (fun kq v3 w' => ∃ (x3_1 : Int), v3 = .int .i64 x3_1 ∧ Aside0 (binderylaw33_Small.l0 kq l0 x3_1 = some r) ∧ Aside0 (kq ≤ k) ∧ Aside0 (Below w.heap.size w w'))
   case atStart => exact ⟨(0), (by first | rfl | (simp; done) | (simp [*]; done)), H', ⟨Nat.le_refl _⟩, ⟨by repeat (first | (with_reducible first | exact HB.out | apply below_alloc | apply pw_below_drewN | apply below_drew1) | exact HB.out)⟩⟩
   case round =>
    clear H'
    try clear c2
    try clear c2b0
    try clear c2b1
    try clear p2
    obtain ⟨x3_1, rfl, HA, HK1, HB⟩ := hrel
    cases gk with
    | zero => exact absurd HA.out (by simp [binderylaw33_Small.l0])
    | succ k1 =>
      have H := HA.out
      clear HA
      simp only [binderylaw33_Small.l0] at H
      by_cases c3 : x3_1 < (l0.length : Int)
      · rw [if_pos c3] at H
        have c3b0 : decide (x3_1 < (l0.length : Int)) = true := decide_eq_true c3
        clear c3
        by_cases c4 : 0 ≤ x3_1
        · rw [if_pos c4] at H
          have c4b0 : decide (0 ≤ x3_1) = true := decide_eq_true c4
          clear c4
          replace H := Option.bind_eq_some_iff.mp H
          obtain ⟨t178, A50, H⟩ := H
          replace H : (if t178 = true then (binderylaw33_Small.l0 k1 l0 (wrap64 (x3_1 + 1))) else (some false)) = some r := H
          have A5 := Aside0.mk A50
          clear A50
          by_cases c6 : t178 = true
          · subst c6
            have H1 : (binderylaw33_Small.l0 k1 l0 (wrap64 (x3_1 + 1))) = some r := by rw [if_pos rfl] at H; exact H
            clear H
            have H := H1
            clear H1
            have H' := Aside0.mk H
            clear H
            have p177 : 0 ≤ (x3_1 : Int) := of_decide_eq_true (by first | (with_reducible assumption) | assumption)
            have q177 : x3_1 < (l0.length : Int) := of_decide_eq_true (by first | (with_reducible assumption) | assumption)
            obtain ⟨ad177, A177_6, c177_6, A177_7, c177_7, e177, hx177_0, hx177_1, hx177_2, hx177_3, hx177_4, hx177_5, hx177_6, hx177_7, hl177_6, hi177_6, hl177_7, hi177_7⟩ := at_T69 HR0.out x3_1 p177 q177
            cases e177
            replace hx177_0 := up_ HB.out.cell hx177_0
            replace hx177_1 := up_ HB.out.cell hx177_1
            replace hx177_2 := up_ HB.out.cell hx177_2
            replace hx177_3 := up_ HB.out.cell hx177_3
            replace hx177_4 := up_ HB.out.cell hx177_4
            replace hx177_5 := up_ HB.out.cell hx177_5
            replace hx177_6 := up_ HB.out.cell hx177_6
            replace hx177_7 := up_ HB.out.cell hx177_7
            have HR177_6 := Aside0.mk hi177_6
            have HC177_6 := Aside0.mk hl177_6
            clear hi177_6 hl177_6
            have HR177_7 := Aside0.mk hi177_7
            have HC177_7 := Aside0.mk hl177_7
            clear hi177_7 hl177_7
            replace p177 := eq_true p177
            replace q177 := eq_true q177
            go_wp2_with (first | ((with_reducible refine gate_callee (f := 50) rfl ?_); refine goesL_ (some 18) rfl rfl Try.func50 (by kernel_rfl) rfl #[.agg #[.int .i64 ((rd_T69 l0 x3_1).f2.f0), .int .i64 ((rd_T69 l0 x3_1).f2.f1), .int .i64 ((rd_T69 l0 x3_1).f2.f2), .string ((rd_T69 l0 x3_1).f2.f3), .slice A177_6 ((rd_T69 l0 x3_1).f2.f4).length c177_6, .slice A177_7 ((rd_T69 l0 x3_1).f2.f5).length c177_7], .int .i64 60] rfl (by (try simp only [List.map_toArray, List.map_cons, List.map_nil]); first | done | rfl | (simp only [List.length_drop, List.length_take]; rfl)) ?_; (with_reducible refine (binderyref16_Few.calls k1 ((rd_T69 l0 x3_1).f2.f0) ((rd_T69 l0 x3_1).f2.f1) ((rd_T69 l0 x3_1).f2.f2) ((rd_T69 l0 x3_1).f2.f3) _ _ ((rd_T69 l0 x3_1).f2.f4) _ _ ((rd_T69 l0 x3_1).f2.f5) 60 true _ ?side1 ?side2 ?side3 ?side4 A5.out).mono ?_); (case side1 => repeat (first | exact (Kd.C_below HR177_6.out HB.out) | (with_reducible refine Kd.C_alloc ?_ _) | (with_reducible refine Kd.C_drewN ?_ _) | (with_reducible refine Kd.C_drew ?_))); (case side2 => exact HC177_6.out); (case side3 => repeat (first | exact (Kd.C_below HR177_7.out HB.out) | (with_reducible refine Kd.C_alloc ?_ _) | (with_reducible refine Kd.C_drewN ?_ _) | (with_reducible refine Kd.C_drew ?_))); (case side4 => exact HC177_7.out); rintro e w7 ⟨rfl, hb⟩; refine ⟨_, rfl, ?_⟩; have n0_ := Aside0.mk (below_step (by repeat (first | (with_reducible first | exact HB.out | apply below_alloc | apply pw_below_drewN | apply below_drew1) | exact HB.out)) hb); clear HB; have HB := n0_; clear n0_; (try clear hb); (try clear hb2); (try clear hk); (try clear hi)))
            go_roundg k1
            case measure => have := HK1.out; omega
            case rel => exact ⟨(wrap64 (x3_1 + 1)), (by first | rfl | (simp; done) | (simp [*]; done)), H', ⟨by have := HK1.out; omega⟩, ⟨by repeat (first | (with_reducible first | exact HB.out | apply below_alloc | apply pw_below_drewN | apply below_drew1) | exact HB.out)⟩⟩
          · replace c6 := Bool.eq_false_iff.mpr c6
            subst c6
            have H1 : (some false) = some r := by rw [if_neg (show ¬ (false = true) by decide)] at H; exact H
            clear H
            have H := H1
            clear H1
            obtain rfl := Option.some.inj H
            have p177 : 0 ≤ (x3_1 : Int) := of_decide_eq_true (by first | (with_reducible assumption) | assumption)
            have q177 : x3_1 < (l0.length : Int) := of_decide_eq_true (by first | (with_reducible assumption) | assumption)
            obtain ⟨ad177, A177_6, c177_6, A177_7, c177_7, e177, hx177_0, hx177_1, hx177_2, hx177_3, hx177_4, hx177_5, hx177_6, hx177_7, hl177_6, hi177_6, hl177_7, hi177_7⟩ := at_T69 HR0.out x3_1 p177 q177
            cases e177
            replace hx177_0 := up_ HB.out.cell hx177_0
            replace hx177_1 := up_ HB.out.cell hx177_1
            replace hx177_2 := up_ HB.out.cell hx177_2
            replace hx177_3 := up_ HB.out.cell hx177_3
            replace hx177_4 := up_ HB.out.cell hx177_4
            replace hx177_5 := up_ HB.out.cell hx177_5
            replace hx177_6 := up_ HB.out.cell hx177_6
            replace hx177_7 := up_ HB.out.cell hx177_7
            have HR177_6 := Aside0.mk hi177_6
            have HC177_6 := Aside0.mk hl177_6
            clear hi177_6 hl177_6
            have HR177_7 := Aside0.mk hi177_7
            have HC177_7 := Aside0.mk hl177_7
            clear hi177_7 hl177_7
            replace p177 := eq_true p177
            replace q177 := eq_true q177
            go_wp2_with (first | ((with_reducible refine gate_callee (f := 50) rfl ?_); refine goesL_ (some 18) rfl rfl Try.func50 (by kernel_rfl) rfl #[.agg #[.int .i64 ((rd_T69 l0 x3_1).f2.f0), .int .i64 ((rd_T69 l0 x3_1).f2.f1), .int .i64 ((rd_T69 l0 x3_1).f2.f2), .string ((rd_T69 l0 x3_1).f2.f3), .slice A177_6 ((rd_T69 l0 x3_1).f2.f4).length c177_6, .slice A177_7 ((rd_T69 l0 x3_1).f2.f5).length c177_7], .int .i64 60] rfl (by (try simp only [List.map_toArray, List.map_cons, List.map_nil]); first | done | rfl | (simp only [List.length_drop, List.length_take]; rfl)) ?_; (with_reducible refine (binderyref16_Few.calls k1 ((rd_T69 l0 x3_1).f2.f0) ((rd_T69 l0 x3_1).f2.f1) ((rd_T69 l0 x3_1).f2.f2) ((rd_T69 l0 x3_1).f2.f3) _ _ ((rd_T69 l0 x3_1).f2.f4) _ _ ((rd_T69 l0 x3_1).f2.f5) 60 false _ ?side1 ?side2 ?side3 ?side4 A5.out).mono ?_); (case side1 => repeat (first | exact (Kd.C_below HR177_6.out HB.out) | (with_reducible refine Kd.C_alloc ?_ _) | (with_reducible refine Kd.C_drewN ?_ _) | (with_reducible refine Kd.C_drew ?_))); (case side2 => exact HC177_6.out); (case side3 => repeat (first | exact (Kd.C_below HR177_7.out HB.out) | (with_reducible refine Kd.C_alloc ?_ _) | (with_reducible refine Kd.C_drewN ?_ _) | (with_reducible refine Kd.C_drew ?_))); (case side4 => exact HC177_7.out); rintro e w8 ⟨rfl, hb⟩; refine ⟨_, rfl, ?_⟩; have n0_ := Aside0.mk (below_step (by repeat (first | (with_reducible first | exact HB.out | apply below_alloc | apply pw_below_drewN | apply below_drew1) | exact HB.out)) hb); clear HB; have HB := n0_; clear n0_; (try clear hb); (try clear hb2); (try clear hk); (try clear hi)))
            go_ret
            exact ⟨by first | rfl | (simp [errW_none, errW_some] <;> rfl) | (simp [*, errW_none, errW_some] <;> rfl), by repeat (first | (with_reducible first | exact HB.out | apply below_alloc | apply pw_below_drewN | apply below_drew1) | exact HB.out)⟩
        · rw [if_neg c4] at H
          exact absurd H (by simp)
      · rw [if_neg c3] at H
        have c3b0 : decide (x3_1 < (l0.length : Int)) = false := decide_eq_false c3
        clear c3
        obtain rfl := Option.some.inj H
        go_wp2
        go_ret
        exact ⟨by first | rfl | (simp [errW_none, errW_some] <;> rfl) | (simp [*, errW_none, errW_some] <;> rfl), by repeat (first | (with_reducible first | exact HB.out | apply below_alloc | apply pw_below_drewN | apply below_drew1) | exact HB.out)⟩
end Go.Proofs.Ytogpnkkoablmiaa.Q
end
section
namespace Go.Proofs.Ytogpnkkoablmiaa.Q
open Go.RowKit Go.Proofs.YtogpnkkoablmiaaW.PrintWords Go.Proofs.YtogpnkkoablmiaaW.PrintLast Go.Proofs.YtogpnkkoablmiaaW.PrintMore
attribute [local go_sem] max2_int min2_int max_two min_two max_three min_three max_four min_four   -- for this text's walks alone
set_option linter.unusedVariables false
set_option linter.unusedSimpArgs false
attribute [local go_sem high] eqA28
end Go.Proofs.Ytogpnkkoablmiaa.Q
end
