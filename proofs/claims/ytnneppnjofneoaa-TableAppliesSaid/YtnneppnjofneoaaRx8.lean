/- Written by a program of this session (a turn of the printer of the kit that takes contracts proved by hand). Lean checks it. -/
import Derived.Test.YtnneppnjofneoaaRx0
import Derived.Test.YtnneppnjofneoaaRx1
import Derived.Test.YtnneppnjofneoaaRx2
namespace Go.Proofs.Ytnneppnjofneoaa.R
open Go.RowKit Go.Proofs.YtnneppnjofneoaaW.PrintWords Go.Proofs.YtnneppnjofneoaaW.PrintLast Go.Proofs.YtnneppnjofneoaaW.PrintMore
attribute [local go_sem] max2_int min2_int max_two min_two max_three min_three max_four min_four   -- for this text's walks alone
set_option linter.unusedVariables false
set_option linter.unusedSimpArgs false

attribute [local go_sem high] eqA38 eqA48
/-! ### binderyref21_Apply: function 21 -/
mutual
def binderyref21_Apply.l0 : Nat → List (S48) → List (S38) → Int → Option ((List (S38)) × Int)
  | 0, _, _, _ => none
  | k + 1, x1, x6, x7 => if x7 < (x1.length : Int) then (if 0 ≤ x7 then (if ((rd_T48 x1 x7).f0) < 0 then (binderyref21_Apply.j1 k x1 x6 x7 ((rd_T48 x1 x7).f0) true) else (if x7 > 0 then (if 0 ≤ (wrap64 (x7 - 1)) then (if (wrap64 (x7 - 1)) < (x1.length : Int) then (binderyref21_Apply.j1 k x1 x6 x7 ((rd_T48 x1 x7).f0) (decide (((rd_T48 x1 x7).f0) ≤ ((rd_T48 x1 (wrap64 (x7 - 1))).f0)))) else (none)) else (none)) else (binderyref21_Apply.j1 k x1 x6 x7 ((rd_T48 x1 x7).f0) false))) else (none)) else (some (x6, 0))
def binderyref21_Apply.j1 : Nat → List (S48) → List (S38) → Int → Int → Bool → Option ((List (S38)) × Int)
  | 0, _, _, _, _, _ => none
  | k + 1, x1, x6, x7, x8, x31 => if x31 = true then (some (([] : List (S38)), 15)) else (if x8 > 8388607 then (some (([] : List (S38)), 3)) else (if x8 > (x6.length : Int) then (some (([] : List (S38)), 4)) else (if x8 = (x6.length : Int) then (if 0 ≤ x7 then (if x7 < (x1.length : Int) then (if x6.length < 5864062014805 then (binderyref21_Apply.l0 k x1 (x6 ++ [(⟨(rd_T48 x1 x7).f1.f0, (rd_T48 x1 x7).f1.f1, (rd_T48 x1 x7).f1.f2⟩ : S38)]) (wrap64 (x7 + 1))) else (none)) else (none)) else (none)) else (if 0 ≤ x7 then (if x7 < (x1.length : Int) then (if 0 ≤ x8 then (if x8 < (x6.length : Int) then (binderyref21_Apply.l0 k x1 (x6.set (x8 : Int).toNat (⟨(rd_T48 x1 x7).f1.f0, (rd_T48 x1 x7).f1.f1, (rd_T48 x1 x7).f1.f2⟩ : S38)) (wrap64 (x7 + 1))) else (none)) else (none)) else (none)) else (none)))))
end
def binderyref21_Apply.f (k : Nat) (l0 : List (S38)) (l1 : List (S48)) : Option ((List (S38)) × Int) := (some (([] : List (S38)) : List (S38))).bind fun y249 => (if y249.length + l0.length < 5864062014805 then (binderyref21_Apply.l0 k l1 (y249 ++ l0) 0) else (none))
theorem binderyref21_Apply.mono_l : ∀ k, (∀ y0 y1 y2, LeO (binderyref21_Apply.l0 k y0 y1 y2) (binderyref21_Apply.l0 (k + 1) y0 y1 y2)) ∧ (∀ y0 y1 y2 y3 y4, LeO (binderyref21_Apply.j1 k y0 y1 y2 y3 y4) (binderyref21_Apply.j1 (k + 1) y0 y1 y2 y3 y4))
  | 0 => ⟨fun _ _ _ r h => by simp [binderyref21_Apply.l0] at h, fun _ _ _ _ _ r h => by simp [binderyref21_Apply.j1] at h⟩
  | k + 1 => by
    obtain ⟨ih0, ih1⟩ := binderyref21_Apply.mono_l k
    refine ⟨?_, ?_⟩
    · intro y0 y1 y2
      unfold binderyref21_Apply.l0
      repeat' first
      | (with_reducible exact ih0 _ _ _)
      | (with_reducible exact ih1 _ _ _ _ _)
      | (with_reducible exact LeO.refl _)
      | (with_reducible exact LeO.none _)
      | (with_reducible refine LeO.ite ?_ ?_)
      | (with_reducible refine LeO.bind ?_ (fun _ => ?_))
      | exact ih0 _ _ _
      | exact ih1 _ _ _ _ _
      | exact LeO.none _
      | refine LeO.ite ?_ ?_
      | refine LeO.bind ?_ (fun _ => ?_)
    · intro y0 y1 y2 y3 y4
      unfold binderyref21_Apply.j1
      repeat' first
      | (with_reducible exact ih0 _ _ _)
      | (with_reducible exact ih1 _ _ _ _ _)
      | (with_reducible exact LeO.refl _)
      | (with_reducible exact LeO.none _)
      | (with_reducible refine LeO.ite ?_ ?_)
      | (with_reducible refine LeO.bind ?_ (fun _ => ?_))
      | exact ih0 _ _ _
      | exact ih1 _ _ _ _ _
      | exact LeO.none _
      | refine LeO.ite ?_ ?_
      | refine LeO.bind ?_ (fun _ => ?_)
theorem binderyref21_Apply.mono : ∀ a0 a1 k, LeO (binderyref21_Apply.f k a0 a1) (binderyref21_Apply.f (k + 1) a0 a1) := by
  intro a0 a1 k
  obtain ⟨ih0, ih1⟩ := binderyref21_Apply.mono_l k
  unfold binderyref21_Apply.f
  repeat' first
      | (with_reducible exact ih0 _ _ _)
      | (with_reducible exact ih1 _ _ _ _ _)
      | (with_reducible exact LeO.refl _)
      | (with_reducible exact LeO.none _)
      | (with_reducible refine LeO.ite ?_ ?_)
      | (with_reducible refine LeO.bind ?_ (fun _ => ?_))
      | exact ih0 _ _ _
      | exact ih1 _ _ _ _ _
      | exact LeO.none _
      | refine LeO.ite ?_ ?_
      | refine LeO.bind ?_ (fun _ => ?_)
set_option maxHeartbeats 8000000 in
set_option maxRecDepth 100000 in
theorem binderyref21_Apply.calls (k : Nat) (A0 : Option Addr) (c0 : Nat) (l0 : List (S38)) (A1 : Option Addr) (c1 : Nat) (l1 : List (S48)) (r1 : List (S38)) (r2 : Int) (w : World) (hr0 : Kd.C k38 w A0 l0.length l0) (hc0 : l0.length ≤ c0) (hr1 : Kd.C k48 w A1 l1.length l1) (hc1 : l1.length ≤ c1) (h : binderyref21_Apply.f k l0 l1 = some (r1, r2)) :
    Calls Try.prog 21 #[.slice A0 l0.length c0, .slice A1 l1.length c1] w fun e w' => ∃ v0_ : Value, e = .returned (.tuple #[v0_, .int .i64 r2]) ∧ Kd.R k38 38 w' w.heap.size (fun _ => True) v0_ r1 ∧ Below w.heap.size w w' := by
  have hu38 := Try.underlying38
  have HR0 := Aside0.mk hr0
  have HC0 := Aside0.mk hc0
  clear hr0 hc0
  have HR1 := Aside0.mk hr1
  have HC1 := Aside0.mk hc1
  clear hr1 hc1
  have HB := Aside0.mk (Below.refl w.heap.size w)
  have H : ((some (([] : List (S38)) : List (S38))).bind fun y249 => (if y249.length + l0.length < 5864062014805 then (binderyref21_Apply.l0 k l1 (y249 ++ l0) 0) else (none))) = some (r1, r2) := h
  clear h
  obtain ⟨y249, hy249⟩ : ∃ y_ : List (S38), y_ = (([] : List (S38))) := ⟨_, rfl⟩
  replace H : (if y249.length + l0.length < 5864062014805 then (binderyref21_Apply.l0 k l1 (y249 ++ l0) 0) else (none)) = some (r1, r2) := by first | (rw [hy249]; with_reducible exact H) | (have H2_ := (Option.bind_some _ _).symm.trans H; rw [hy249]; with_reducible exact H2_) | (have H2_ := (Option.bind_some _ _).symm.trans H; with_reducible exact H2_) | with_reducible exact H | (rw [hy249]; exact H) | exact H
  have Ny249 := Aside0.mk hy249
  clear hy249
  by_cases c3 : y249.length + l0.length < 5864062014805
  · rw [if_pos c3] at H
    have LMc3 := Aside0.mk c3
    clear c3
    obtain ⟨y252, hy252⟩ : ∃ y_ : List (S38), y_ = (y249 ++ l0) := ⟨_, rfl⟩
    replace H : (binderyref21_Apply.l0 k l1 y252 0) = some (r1, r2) := by first | (rw [hy252]; with_reducible exact H) | (have H2_ := (Option.bind_some _ _).symm.trans H; rw [hy252]; with_reducible exact H2_) | (have H2_ := (Option.bind_some _ _).symm.trans H; with_reducible exact H2_) | with_reducible exact H | (rw [hy252]; exact H) | exact H
    have Ny252 := Aside0.mk hy252
    clear hy252
    have H' := Aside0.mk H
    clear H
    go_enter Try.func21, Try.ntmps21
    go_wp2_with (first | ((with_reducible refine gate_dst (N := 9) rfl ?_); refine Kd.R_lit k38 _ 38 ?hg (N := 9) ?hd (xs := ([] : List (S38))) (inner := []) (ok := fun _ => True) (okp := fun _ => True) ?hr ?hp (fun _ hk => hk) trivial (Below.refl _ _) (Nat.le_refl _) (by simp) ?_; (case hd => rfl); (case hg => rfl); (case hr => first | (go_simp; done) | (go_simp; rfl)); (case hp => exact (Reps.none _ _)); intro v250 w4 ho5 hb hg_ hnew_; clear hg_ hnew_; (first | rw [← Ny249.out] at ho5 | (simp only [Int.reduceToNat] at ho5; rw [← Ny249.out] at ho5)); have n0_ := Aside0.mk (Kd.R_lower ho5 (below_size (by repeat (first | (with_reducible first | exact HB.out | apply below_alloc | apply pw_below_drewN | apply below_drew1) | exact HB.out)))); have n1_ := Aside0.mk (below_step (by repeat (first | (with_reducible first | exact HB.out | apply below_alloc | apply pw_below_drewN | apply below_drew1) | exact HB.out)) hb); clear HB; have HO251 := n0_; have HB := n1_; clear n0_ n1_; clear hb ho5) | ((with_reducible refine gate_builtin (b := .append) (xs := #[.tmp 9, .tmp 10]) rfl ?_); at_builtin; refine Kd.R_append_rows k38 (w0 := w) w.heap.size rfl (.tmp 9) (.tmp 10) 22 38 (.agg #[(.int .i64 0), (.int .i64 0), (.int .i64 0)]) 24 rfl Try.underlying22 info38 rfl (by decide) (by omega) v250 y249 l0 _ _ _ (fun _ => True) (fun _ => False) rfl rfl ?aO ?aR (fun _ _ h => h) (fun _ h => h.elim) ?aF ?aB ?aS ?aL ?_; (case aR => repeat (first | exact (Kd.C_below HR0.out HB.out) | (with_reducible refine Kd.C_alloc ?_ _) | (with_reducible refine Kd.C_drewN ?_ _) | (with_reducible refine Kd.C_drew ?_))); (case aB => exact (by repeat (first | (with_reducible first | exact HB.out | apply below_alloc | apply pw_below_drewN | apply below_drew1) | exact HB.out))); (case aF => exact (fun _ _ => trivial)); (case aO => exact (by (with_reducible repeat (first | apply Kd.R_alloc | apply Kd.R_drewN | apply Kd.R_drew)); exact HO251.out)); (case aS => exact (below_size (by repeat (first | (with_reducible first | exact HB.out | apply below_alloc | apply pw_below_drewN | apply below_drew1) | exact HB.out)))); (case aL => have := LMc3.out; omega); intro v253 w6 ho hb hg hat; rw [← Ny252.out] at ho; have n0_ := Aside0.mk (hb); have n1_ := Aside0.mk (ho); clear HB; clear HO251; have HB := n0_; have HO254 := n1_; clear n0_ n1_; clear ho hb hg hat))
    go_loopg [6, 7] k (fun kq v6 v7 w' => ∃ (x6_1 : List (S38)) (x7_1 : Int), v7 = .int .i64 x7_1 ∧ Aside0 (binderyref21_Apply.l0 kq l1 x6_1 x7_1 = some (r1, r2)) ∧ Aside0 (kq ≤ k) ∧ Aside0 (Kd.R k38 38 w' w.heap.size (fun _ => True) v6 x6_1) ∧ Aside0 (Below w.heap.size w w'))
    case atStart => exact ⟨(y252), (0), (by first | rfl | (simp; done) | (simp [*]; done)), H', ⟨Nat.le_refl _⟩, ⟨by (with_reducible repeat (first | apply Kd.R_alloc | apply Kd.R_drewN | apply Kd.R_drew)); exact HO254.out⟩, ⟨by repeat (first | (with_reducible first | exact HB.out | apply below_alloc | apply pw_below_drewN | apply below_drew1) | exact HB.out)⟩⟩
    case round =>
      clear H'
      try clear c1
      try clear c2
      try clear p2
      try clear c3
      obtain ⟨x6_1, x7_1, rfl, HA, HK1, HO_6, HB⟩ := hrel
      cases gk with
      | zero => exact absurd HA.out (by simp [binderyref21_Apply.l0])
      | succ k1 =>
        have H := HA.out
        clear HA
        simp only [binderyref21_Apply.l0] at H
        by_cases c7 : x7_1 < (l1.length : Int)
        · rw [if_pos c7] at H
          have c7b0 : decide (x7_1 < (l1.length : Int)) = true := decide_eq_true c7
          clear c7
          by_cases c8 : 0 ≤ x7_1
          · rw [if_pos c8] at H
            have c8b0 : decide (0 ≤ x7_1) = true := decide_eq_true c8
            clear c8
            have HC9 := Aside0.mk H
            clear H
            have p255 : 0 ≤ (x7_1 : Int) := of_decide_eq_true (by first | (with_reducible assumption) | assumption)
            have q255 : x7_1 < (l1.length : Int) := of_decide_eq_true (by first | (with_reducible assumption) | assumption)
            obtain ⟨ad255, e255, hx255_0, hx255_1, hx255_2, hx255_3⟩ := at_T48 HR1.out x7_1 p255 q255
            cases e255
            replace hx255_0 := (HB.out.cell (World.block_lt_of_cell? w _ hx255_0)).trans hx255_0
            replace hx255_1 := (HB.out.cell (World.block_lt_of_cell? w _ hx255_1)).trans hx255_1
            replace hx255_2 := (HB.out.cell (World.block_lt_of_cell? w _ hx255_2)).trans hx255_2
            replace hx255_3 := (HB.out.cell (World.block_lt_of_cell? w _ hx255_3)).trans hx255_3
            replace p255 := eq_true p255
            replace q255 := eq_true q255
            go_upto_region 7 with (fail)
            go_cut [31] (fun v31 wc => ∃ (kq : Nat) (x31_8 : Bool), v31 = .bool x31_8 ∧ Aside0 (binderyref21_Apply.j1 kq l1 x6_1 x7_1 ((rd_T48 l1 x7_1).f0) x31_8 = some (r1, r2)) ∧ Aside0 (kq ≤ k1) ∧ Aside0 (Kd.R k38 38 wc w.heap.size (fun _ => True) u6 x6_1) ∧ Aside0 (Below w.heap.size w wc))
            case first =>
              have H := HC9.out
              clear HC9
              by_cases c10 : ((rd_T48 l1 x7_1).f0) < 0
              · rw [if_pos c10] at H
                have c10b0 : decide (((rd_T48 l1 x7_1).f0) < 0) = true := decide_eq_true c10
                clear c10
                (first | rw [c10b0] | (simp only [i64_w, i32_w]; rw [c10b0]) | skip)
                have H' := Aside0.mk H
                clear H
                go_wp2
                go_meet
                case rel => exact ⟨_, (true), (by first | rfl | (simp; done) | (simp [*]; done)), H', ⟨by have := HK1.out; first | omega | exact Nat.le_refl _⟩, ⟨by (with_reducible repeat (first | apply Kd.R_alloc | apply Kd.R_drewN | apply Kd.R_drew)); exact HO_6.out⟩, ⟨by repeat (first | (with_reducible first | exact HB.out | apply below_alloc | apply pw_below_drewN | apply below_drew1) | exact HB.out)⟩⟩
              · rw [if_neg c10] at H
                have c10b0 : decide (((rd_T48 l1 x7_1).f0) < 0) = false := decide_eq_false c10
                clear c10
                (first | rw [c10b0] | (simp only [i64_w, i32_w]; rw [c10b0]) | skip)
                by_cases c11 : x7_1 > 0
                · rw [if_pos c11] at H
                  have c11b0 : decide (0 < x7_1) = true := decide_eq_true c11
                  clear c11
                  obtain ⟨ji12, hji12⟩ : ∃ j_ : Int, (wrap64 (x7_1 - 1)) = j_ := ⟨_, rfl⟩
                  replace H : (if 0 ≤ (ji12) then (if (ji12) < (l1.length : Int) then (binderyref21_Apply.j1 k1 l1 x6_1 x7_1 ((rd_T48 l1 x7_1).f0) (decide (((rd_T48 l1 x7_1).f0) ≤ ((rd_T48 l1 (ji12)).f0)))) else (none)) else (none)) = some (r1, r2) := by first | (rw [hji12] at H; exact H) | (simp only [hji12] at H ⊢; exact H)
                  have hji12w : (IntKind.i64.wrap (x7_1 - 1)) = ji12 := (i64_w _).trans hji12
                  by_cases c13 : 0 ≤ (ji12)
                  · rw [if_pos c13] at H
                    have c13b0 : decide (0 ≤ (ji12)) = true := decide_eq_true c13
                    clear c13
                    by_cases c14 : (ji12) < (l1.length : Int)
                    · rw [if_pos c14] at H
                      have c14b0 : decide ((ji12) < (l1.length : Int)) = true := decide_eq_true c14
                      clear c14
                      have H' := Aside0.mk H
                      clear H
                      have p256 : 0 ≤ ((ji12) : Int) := of_decide_eq_true (by first | (with_reducible assumption) | assumption)
                      have q256 : (ji12) < (l1.length : Int) := of_decide_eq_true (by first | (with_reducible assumption) | assumption)
                      obtain ⟨ad256, e256, hx256_0, hx256_1, hx256_2, hx256_3⟩ := at_T48 HR1.out (ji12) p256 q256
                      obtain rfl : ad255 = ad256 := (by injection e256)
                      replace hx256_0 := (HB.out.cell (World.block_lt_of_cell? w _ hx256_0)).trans hx256_0
                      replace hx256_1 := (HB.out.cell (World.block_lt_of_cell? w _ hx256_1)).trans hx256_1
                      replace hx256_2 := (HB.out.cell (World.block_lt_of_cell? w _ hx256_2)).trans hx256_2
                      replace hx256_3 := (HB.out.cell (World.block_lt_of_cell? w _ hx256_3)).trans hx256_3
                      replace p256 := eq_true p256
                      replace q256 := eq_true q256
                      go_wp2
                      go_meet
                      case rel => exact ⟨_, (decide (((rd_T48 l1 x7_1).f0) ≤ ((rd_T48 l1 (ji12)).f0))), (by first | rfl | (simp; done) | (simp only [← hji12] <;> (first | rfl | simp)) | (simp [*]; done)), H', ⟨by have := HK1.out; first | omega | exact Nat.le_refl _⟩, ⟨by (with_reducible repeat (first | apply Kd.R_alloc | apply Kd.R_drewN | apply Kd.R_drew)); exact HO_6.out⟩, ⟨by repeat (first | (with_reducible first | exact HB.out | apply below_alloc | apply pw_below_drewN | apply below_drew1) | exact HB.out)⟩⟩
                    · rw [if_neg c14] at H
                      exact absurd H (by simp)
                  · rw [if_neg c13] at H
                    exact absurd H (by simp)
                · rw [if_neg c11] at H
                  have c11b0 : decide (0 < x7_1) = false := decide_eq_false c11
                  clear c11
                  have H' := Aside0.mk H
                  clear H
                  go_wp2
                  go_meet
                  case rel => exact ⟨_, (false), (by first | rfl | (simp; done) | (simp [*]; done)), H', ⟨by have := HK1.out; first | omega | exact Nat.le_refl _⟩, ⟨by (with_reducible repeat (first | apply Kd.R_alloc | apply Kd.R_drewN | apply Kd.R_drew)); exact HO_6.out⟩, ⟨by repeat (first | (with_reducible first | exact HB.out | apply below_alloc | apply pw_below_drewN | apply below_drew1) | exact HB.out)⟩⟩
            case rest =>
              clear HC9
              try clear c1
              try clear c2
              try clear p2
              try clear q2
              try clear hx2
              try clear c3
              try clear p6
              try clear c7
              try clear c7b0
              try clear c8
              try clear c8b0
              try clear c10
              try clear c10b0
              try clear c11
              try clear c11b0
              try clear c13
              try clear c13b0
              try clear c14
              try clear c14b0
              try clear hx255_0
              try clear hx255_1
              try clear hx255_2
              try clear hx255_3
              try clear hx256_0
              try clear hx256_1
              try clear hx256_2
              try clear hx256_3
              try clear p2
              try clear p255
              try clear p256
              try clear q255
              try clear q256
              obtain ⟨kq, x31_8, rfl, HA, HJ8, HO_6, HB⟩ := hcut
              cases kq with
              | zero => exact absurd HA.out (by simp [binderyref21_Apply.j1])
              | succ kj8 =>
                have H := HA.out
                clear HA
                simp only [binderyref21_Apply.j1] at H
                by_cases c15 : x31_8 = true
                · subst c15
                  have H1 : (some (([] : List (S38)), 15)) = some (r1, r2) := by rw [if_pos rfl] at H; exact H
                  clear H
                  have H := H1
                  clear H1
                  simp only [Option.some.injEq, Prod.mk.injEq] at H
                  obtain ⟨rfl, rfl⟩ := H
                  go_wp2
                  go_ret2
                  exact ⟨_, by first | rfl | (simp [errW_none, errW_some] <;> rfl) | (simp [*, errW_none, errW_some] <;> rfl), by first | exact Kd.R_nil _ _ _ _ _ | exact Kd.N_nil _ _ _ _ _ | exact Kd.V_nil _ _ _ _ _ | exact Kd.Q_nil _ _ _ _ _ | exact Kd.S_nil _ _ _ _ _, by repeat (first | (with_reducible first | exact HB.out | apply below_alloc | apply pw_below_drewN | apply below_drew1) | exact HB.out)⟩
                · replace c15 := Bool.eq_false_iff.mpr c15
                  subst c15
                  have H1 : (if ((rd_T48 l1 x7_1).f0) > 8388607 then (some (([] : List (S38)), 3)) else (if ((rd_T48 l1 x7_1).f0) > (x6_1.length : Int) then (some (([] : List (S38)), 4)) else (if ((rd_T48 l1 x7_1).f0) = (x6_1.length : Int) then (if 0 ≤ x7_1 then (if x7_1 < (l1.length : Int) then (if x6_1.length < 5864062014805 then (binderyref21_Apply.l0 kj8 l1 (x6_1 ++ [(⟨(rd_T48 l1 x7_1).f1.f0, (rd_T48 l1 x7_1).f1.f1, (rd_T48 l1 x7_1).f1.f2⟩ : S38)]) (wrap64 (x7_1 + 1))) else (none)) else (none)) else (none)) else (if 0 ≤ x7_1 then (if x7_1 < (l1.length : Int) then (if 0 ≤ ((rd_T48 l1 x7_1).f0) then (if ((rd_T48 l1 x7_1).f0) < (x6_1.length : Int) then (binderyref21_Apply.l0 kj8 l1 (x6_1.set (((rd_T48 l1 x7_1).f0) : Int).toNat (⟨(rd_T48 l1 x7_1).f1.f0, (rd_T48 l1 x7_1).f1.f1, (rd_T48 l1 x7_1).f1.f2⟩ : S38)) (wrap64 (x7_1 + 1))) else (none)) else (none)) else (none)) else (none))))) = some (r1, r2) := by rw [if_neg (show ¬ (false = true) by decide)] at H; exact H
                  clear H
                  have H := H1
                  clear H1
                  by_cases c16 : ((rd_T48 l1 x7_1).f0) > 8388607
                  · rw [if_pos c16] at H
                    have c16b0 : decide (8388607 < ((rd_T48 l1 x7_1).f0)) = true := decide_eq_true c16
                    clear c16
                    simp only [Option.some.injEq, Prod.mk.injEq] at H
                    obtain ⟨rfl, rfl⟩ := H
                    go_wp2
                    go_ret2
                    exact ⟨_, by first | rfl | (simp [errW_none, errW_some] <;> rfl) | (simp [*, errW_none, errW_some] <;> rfl), by first | exact Kd.R_nil _ _ _ _ _ | exact Kd.N_nil _ _ _ _ _ | exact Kd.V_nil _ _ _ _ _ | exact Kd.Q_nil _ _ _ _ _ | exact Kd.S_nil _ _ _ _ _, by repeat (first | (with_reducible first | exact HB.out | apply below_alloc | apply pw_below_drewN | apply below_drew1) | exact HB.out)⟩
                  · rw [if_neg c16] at H
                    have c16b0 : decide (8388607 < ((rd_T48 l1 x7_1).f0)) = false := decide_eq_false c16
                    clear c16
                    by_cases c17 : ((rd_T48 l1 x7_1).f0) > (x6_1.length : Int)
                    · rw [if_pos c17] at H
                      have c17b0 : decide ((x6_1.length : Int) < ((rd_T48 l1 x7_1).f0)) = true := decide_eq_true c17
                      clear c17
                      simp only [Option.some.injEq, Prod.mk.injEq] at H
                      obtain ⟨rfl, rfl⟩ := H
                      obtain ⟨Ao18, co18, eo18⟩ := Kd.R_slice HO_6.out
                      subst eo18
                      go_wp2
                      go_ret2
                      exact ⟨_, by first | rfl | (simp [errW_none, errW_some] <;> rfl) | (simp [*, errW_none, errW_some] <;> rfl), by first | exact Kd.R_nil _ _ _ _ _ | exact Kd.N_nil _ _ _ _ _ | exact Kd.V_nil _ _ _ _ _ | exact Kd.Q_nil _ _ _ _ _ | exact Kd.S_nil _ _ _ _ _, by repeat (first | (with_reducible first | exact HB.out | apply below_alloc | apply pw_below_drewN | apply below_drew1) | exact HB.out)⟩
                    · rw [if_neg c17] at H
                      have c17b0 : decide ((x6_1.length : Int) < ((rd_T48 l1 x7_1).f0)) = false := decide_eq_false c17
                      clear c17
                      by_cases c19 : ((rd_T48 l1 x7_1).f0) = (x6_1.length : Int)
                      · rw [if_pos c19] at H
                        have c19b0 : (((rd_T48 l1 x7_1).f0) == (x6_1.length : Int)) = true := beq_iff_eq.mpr c19
                        have c19b1 : (((rd_T48 l1 x7_1).f0) != (x6_1.length : Int)) = false := bne_eq_false_iff_eq.mpr c19
                        clear c19
                        by_cases c20 : 0 ≤ x7_1
                        · rw [if_pos c20] at H
                          have c20b0 : decide (0 ≤ x7_1) = true := decide_eq_true c20
                          clear c20
                          by_cases c21 : x7_1 < (l1.length : Int)
                          · rw [if_pos c21] at H
                            have c21b0 : decide (x7_1 < (l1.length : Int)) = true := decide_eq_true c21
                            clear c21
                            by_cases c22 : x6_1.length < 5864062014805
                            · rw [if_pos c22] at H
                              have LMc22 := Aside0.mk c22
                              clear c22
                              obtain ⟨y258, hy258⟩ : ∃ y_ : List (S38), y_ = (x6_1 ++ [(⟨(rd_T48 l1 x7_1).f1.f0, (rd_T48 l1 x7_1).f1.f1, (rd_T48 l1 x7_1).f1.f2⟩ : S38)]) := ⟨_, rfl⟩
                              replace H : (binderyref21_Apply.l0 kj8 l1 y258 (wrap64 (x7_1 + 1))) = some (r1, r2) := by first | (rw [hy258]; with_reducible exact H) | (have H2_ := (Option.bind_some _ _).symm.trans H; rw [hy258]; with_reducible exact H2_) | (have H2_ := (Option.bind_some _ _).symm.trans H; with_reducible exact H2_) | with_reducible exact H | (rw [hy258]; exact H) | exact H
                              have Ny258 := Aside0.mk hy258
                              clear hy258
                              have H' := Aside0.mk H
                              clear H
                              obtain ⟨Ao23, co23, eo23⟩ := Kd.R_slice HO_6.out
                              subst eo23
                              have p257 : 0 ≤ (x7_1 : Int) := of_decide_eq_true (by first | (with_reducible assumption) | assumption)
                              have q257 : x7_1 < (l1.length : Int) := of_decide_eq_true (by first | (with_reducible assumption) | assumption)
                              obtain ⟨ad257, e257, hx257_0, hx257_1, hx257_2, hx257_3⟩ := at_T48 HR1.out x7_1 p257 q257
                              obtain rfl : ad255 = ad257 := (by injection e257)
                              replace hx257_0 := (HB.out.cell (World.block_lt_of_cell? w _ hx257_0)).trans hx257_0
                              replace hx257_1 := (HB.out.cell (World.block_lt_of_cell? w _ hx257_1)).trans hx257_1
                              replace hx257_2 := (HB.out.cell (World.block_lt_of_cell? w _ hx257_2)).trans hx257_2
                              replace hx257_3 := (HB.out.cell (World.block_lt_of_cell? w _ hx257_3)).trans hx257_3
                              replace p257 := eq_true p257
                              replace q257 := eq_true q257
                              go_wp2_with (first | ((with_reducible refine gate_builtin (b := .append) (xs := #[.tmp 61, .tmp 67]) rfl ?_); at_builtin; refine Kd.R_append k38 (w0 := w) w.heap.size rfl (.tmp 61) (.tmp 67) 22 38 (.agg #[(.int .i64 0), (.int .i64 0), (.int .i64 0)]) 24 rfl Try.underlying22 info38 rfl (by decide) (by omega) (.slice Ao23 x6_1.length co23) x6_1 (⟨(rd_T48 l1 x7_1).f1.f0, (rd_T48 l1 x7_1).f1.f1, (rd_T48 l1 x7_1).f1.f2⟩ : S38) [.int .i64 ((rd_T48 l1 x7_1).f1.f0), .int .i64 ((rd_T48 l1 x7_1).f1.f1), .int .i64 ((rd_T48 l1 x7_1).f1.f2)] (fun _ => True) (fun _ => False) rfl rfl ?aP (fun _ hk => hk.elim) ?aF ?aO ?aB ?aS ?aL ?_; (case aP => exact k38_mkM _ _ _ (⟨(rd_T48 l1 x7_1).f1.f0, (rd_T48 l1 x7_1).f1.f1, (rd_T48 l1 x7_1).f1.f2⟩ : S38)); (case aB => exact (by repeat (first | (with_reducible first | exact HB.out | apply below_alloc | apply pw_below_drewN | apply below_drew1) | exact HB.out))); (case aF => exact (fun _ _ => trivial)); (case aO => exact (by (with_reducible repeat (first | apply Kd.R_alloc | apply Kd.R_drewN | apply Kd.R_drew)); exact HO_6.out)); (case aS => exact (below_size (by repeat (first | (with_reducible first | exact HB.out | apply below_alloc | apply pw_below_drewN | apply below_drew1) | exact HB.out)))); (case aL => have := LMc22.out; omega); intro v259 w24 ho hb hg hat; rw [← Ny258.out] at ho; have n0_ := Aside0.mk (hb); have n1_ := Aside0.mk (ho); clear HB; clear HO_6; have HB := n0_; have HO260 := n1_; clear n0_ n1_; clear ho hb hg hat))
                              go_roundg kj8
                              case measure => have := HK1.out; have := HJ8.out; omega
                              case rel => exact ⟨(y258), (wrap64 (x7_1 + 1)), (by first | rfl | (simp; done) | (simp [*]; done)), H', ⟨by have := HK1.out; have := HJ8.out; omega⟩, ⟨by (with_reducible repeat (first | apply Kd.R_alloc | apply Kd.R_drewN | apply Kd.R_drew)); exact HO260.out⟩, ⟨by repeat (first | (with_reducible first | exact HB.out | apply below_alloc | apply pw_below_drewN | apply below_drew1) | exact HB.out)⟩⟩
                            · rw [if_neg c22] at H
                              exact absurd H (by simp)
                          · rw [if_neg c21] at H
                            exact absurd H (by simp)
                        · rw [if_neg c20] at H
                          exact absurd H (by simp)
                      · rw [if_neg c19] at H
                        have c19b0 : (((rd_T48 l1 x7_1).f0) == (x6_1.length : Int)) = false := beq_eq_false_iff_ne.mpr c19
                        have c19b1 : (((rd_T48 l1 x7_1).f0) != (x6_1.length : Int)) = true := bne_iff_ne.mpr c19
                        by_cases c25 : 0 ≤ x7_1
                        · rw [if_pos c25] at H
                          have c25b0 : decide (0 ≤ x7_1) = true := decide_eq_true c25
                          clear c25
                          by_cases c26 : x7_1 < (l1.length : Int)
                          · rw [if_pos c26] at H
                            have c26b0 : decide (x7_1 < (l1.length : Int)) = true := decide_eq_true c26
                            clear c26
                            by_cases c27 : 0 ≤ ((rd_T48 l1 x7_1).f0)
                            · rw [if_pos c27] at H
                              have c27b0 : decide (0 ≤ ((rd_T48 l1 x7_1).f0)) = true := decide_eq_true c27
                              clear c27
                              by_cases c28 : ((rd_T48 l1 x7_1).f0) < (x6_1.length : Int)
                              · rw [if_pos c28] at H
                                have c28b0 : decide (((rd_T48 l1 x7_1).f0) < (x6_1.length : Int)) = true := decide_eq_true c28
                                clear c28
                                obtain ⟨y262, hy262⟩ : ∃ y_ : List (S38), y_ = (x6_1.set (((rd_T48 l1 x7_1).f0) : Int).toNat (⟨(rd_T48 l1 x7_1).f1.f0, (rd_T48 l1 x7_1).f1.f1, (rd_T48 l1 x7_1).f1.f2⟩ : S38)) := ⟨_, rfl⟩
                                replace H : (binderyref21_Apply.l0 kj8 l1 y262 (wrap64 (x7_1 + 1))) = some (r1, r2) := by first | (rw [hy262]; with_reducible exact H) | (have H2_ := (Option.bind_some _ _).symm.trans H; rw [hy262]; with_reducible exact H2_) | (have H2_ := (Option.bind_some _ _).symm.trans H; with_reducible exact H2_) | with_reducible exact H | (rw [hy262]; exact H) | exact H
                                have Ny262 := Aside0.mk hy262
                                clear hy262
                                have H' := Aside0.mk H
                                clear H
                                obtain ⟨Ao30, co30, eo30⟩ := Kd.R_slice HO_6.out
                                subst eo30
                                have p261 : 0 ≤ (x7_1 : Int) := of_decide_eq_true (by first | (with_reducible assumption) | assumption)
                                have q261 : x7_1 < (l1.length : Int) := of_decide_eq_true (by first | (with_reducible assumption) | assumption)
                                obtain ⟨ad261, e261, hx261_0, hx261_1, hx261_2, hx261_3⟩ := at_T48 HR1.out x7_1 p261 q261
                                obtain rfl : ad255 = ad261 := (by injection e261)
                                replace hx261_0 := (HB.out.cell (World.block_lt_of_cell? w _ hx261_0)).trans hx261_0
                                replace hx261_1 := (HB.out.cell (World.block_lt_of_cell? w _ hx261_1)).trans hx261_1
                                replace hx261_2 := (HB.out.cell (World.block_lt_of_cell? w _ hx261_2)).trans hx261_2
                                replace hx261_3 := (HB.out.cell (World.block_lt_of_cell? w _ hx261_3)).trans hx261_3
                                replace p261 := eq_true p261
                                replace q261 := eq_true q261
                                have p29 : 0 ≤ (((rd_T48 l1 x7_1).f0) : Int) := of_decide_eq_true (by first | (with_reducible assumption) | assumption)
                                have q29 : (((rd_T48 l1 x7_1).f0) : Int) < ((x6_1.length : Int) : Int) := of_decide_eq_true (by first | (with_reducible assumption) | assumption)
                                obtain ⟨go29, co29, eo29, gb29, gl29, cl29, HG29⟩ := Kd.R_form HO_6.out (by omega)
                                (first | cases eo29 | (injection eo29 with ea_ en_ ec_; (first | subst ea_ | (injection ea_ with ea_; subst ea_)); subst ec_; clear en_))
                                have GB29 := Aside0.mk gb29
                                have GG29 := Aside0.mk HG29
                                clear gb29 gl29 HG29
                                obtain ⟨ce29, hcl29, hM29, hcc29, hfr29⟩ := Kd.R_elem HO_6.out z38 (((rd_T48 l1 x7_1).f0) : Int) p29 q29
                                obtain rfl := k38_openM hM29
                                have hx29_0 : wc.cell? ⟨go29, (((rd_T48 l1 x7_1).f0) : Int).toNat * 3, none⟩ = some (.int .i64 ((rd_T38 x6_1 ((rd_T48 l1 x7_1).f0)).f0)) := hcc29 0 _ rfl
                                have hx29_1 : wc.cell? ⟨go29, (((rd_T48 l1 x7_1).f0) : Int).toNat * 3 + 1, none⟩ = some (.int .i64 ((rd_T38 x6_1 ((rd_T48 l1 x7_1).f0)).f1)) := hcc29 1 _ rfl
                                have hx29_2 : wc.cell? ⟨go29, (((rd_T48 l1 x7_1).f0) : Int).toNat * 3 + 2, none⟩ = some (.int .i64 ((rd_T38 x6_1 ((rd_T48 l1 x7_1).f0)).f2)) := hcc29 2 _ rfl
                                have hf29_0 : wc.frozen? ⟨go29, (((rd_T48 l1 x7_1).f0) : Int).toNat * 3, none⟩ = false := hfr29 0
                                have hf29_1 : wc.frozen? ⟨go29, (((rd_T48 l1 x7_1).f0) : Int).toNat * 3 + 1, none⟩ = false := hfr29 1
                                have hf29_2 : wc.frozen? ⟨go29, (((rd_T48 l1 x7_1).f0) : Int).toNat * 3 + 2, none⟩ = false := hfr29 2
                                clear hcl29 hcc29 hfr29 hM29
                                replace p29 := eq_true p29
                                replace q29 := eq_true q29
                                have HX31 := Aside0.mk (show Kd.R k38 38 wc w.heap.size (fun _ => True) (.slice (some ⟨go29, 0, none⟩) x6_1.length co30) x6_1 from (by (with_reducible repeat (first | apply Kd.R_alloc | apply Kd.R_drewN | apply Kd.R_drew)); exact HO_6.out))
                                obtain ⟨ce31, hcl31, hM31, hcc31, hfr31⟩ := Kd.R_elem HX31.out z38 (((rd_T48 l1 x7_1).f0) : Int) (of_decide_eq_true (by first | (with_reducible assumption) | assumption)) (by have h_ : (((rd_T48 l1 x7_1).f0) : Int) < ((x6_1.length : Int) : Int) := of_decide_eq_true (by first | (with_reducible assumption) | assumption); first | exact h_ | (have e_ := (Kd.R_reads' HO_6.out).1; omega) | simpa using h_)
                                obtain rfl := k38_openM hM31
                                have HP31 := Kd.R_seg HX31.out (((rd_T48 l1 x7_1).f0) : Int) (of_decide_eq_true (by first | (with_reducible assumption) | assumption)) (by have h_ : (((rd_T48 l1 x7_1).f0) : Int) < ((x6_1.length : Int) : Int) := of_decide_eq_true (by first | (with_reducible assumption) | assumption); first | exact h_ | (have e_ := (Kd.R_reads' HO_6.out).1; omega) | simpa using h_) (seg := [.int .i64 ((rd_T48 l1 x7_1).f1.f0), .int .i64 ((rd_T48 l1 x7_1).f1.f1), .int .i64 ((rd_T48 l1 x7_1).f1.f2)]) (j := 0) hcl31 hcc31 (show 3 ≤ 3 from by decide) (x' := (⟨(rd_T48 l1 x7_1).f1.f0, (rd_T48 l1 x7_1).f1.f1, (rd_T48 l1 x7_1).f1.f2⟩ : S38)) (k38_mkM _ _ _ (⟨(rd_T48 l1 x7_1).f1.f0, (rd_T48 l1 x7_1).f1.f1, (rd_T48 l1 x7_1).f1.f2⟩ : S38) ) (fun _ hk => hk)
                                have hx31_0 := hcc31 0 _ rfl
                                (try simp only [show (k38).sz = 3 from rfl, Nat.mul_one, Nat.add_zero] at hx31_0)
                                have hf31_0 := hfr31 0
                                (try simp only [show (k38).sz = 3 from rfl, Nat.mul_one, Nat.add_zero] at hf31_0)
                                have hx31_1 := hcc31 1 _ rfl
                                (try simp only [show (k38).sz = 3 from rfl, Nat.mul_one, Nat.add_zero] at hx31_1)
                                have hf31_1 := hfr31 1
                                (try simp only [show (k38).sz = 3 from rfl, Nat.mul_one, Nat.add_zero] at hf31_1)
                                have hx31_2 := hcc31 2 _ rfl
                                (try simp only [show (k38).sz = 3 from rfl, Nat.mul_one, Nat.add_zero] at hx31_2)
                                have hf31_2 := hfr31 2
                                (try simp only [show (k38).sz = 3 from rfl, Nat.mul_one, Nat.add_zero] at hf31_2)
                                clear hcl31 hcc31 hfr31 hM31
                                go_wp2_with (first | ((with_reducible refine gate_store (t := 38) (p := 30) rfl ?_); refine store_event (t := 38) (p := 30) (v := ?vo_w32) (w1 := (((wc.setCell ⟨go29, (((rd_T48 l1 x7_1).f0) : Int).toNat * 3, none⟩ (.int .i64 ((rd_T48 l1 x7_1).f1.f0))).setCell ⟨go29, (((rd_T48 l1 x7_1).f0) : Int).toNat * 3 + 1, none⟩ (.int .i64 ((rd_T48 l1 x7_1).f1.f1))).setCell ⟨go29, (((rd_T48 l1 x7_1).f0) : Int).toNat * 3 + 2, none⟩ (.int .i64 ((rd_T48 l1 x7_1).f1.f2)))) ?hg ?ho ?hn ?hr ?_; (case ho => rfl); (case hg => rfl); (case hn => rfl); (case hr => first | (go_simp; done) | (go_simp; rfl)); intro w32 hw; have hg : wc.grownBy w32 (some go29) := (by rw [hw]; exact HP31.2); have hp_ : Kd.R k38 38 w32 w.heap.size (fun _ => True) (.slice (some ⟨go29, 0, none⟩) x6_1.length co30) y262 := (by rw [hw, Ny262.out]; exact HP31.1); clear HP31; have n0_ := Aside0.mk (hp_); have n1_ := Aside0.mk ((by rw [hw]; exact below_set (below_set (below_set (HB.out) GB29.out) GB29.out) GB29.out : Below w.heap.size w w32)); clear HO_6; clear HB; have HO_6 := n0_; have HB := n1_; clear n0_ n1_; clear hg hw hp_))
                                go_roundg kj8
                                case measure => have := HK1.out; have := HJ8.out; omega
                                case rel => exact ⟨(y262), (wrap64 (x7_1 + 1)), (by first | rfl | (simp; done) | (simp [*]; done)), H', ⟨by have := HK1.out; have := HJ8.out; omega⟩, ⟨by (with_reducible repeat (first | apply Kd.R_alloc | apply Kd.R_drewN | apply Kd.R_drew)); exact HO_6.out⟩, ⟨by repeat (first | (with_reducible first | exact HB.out | apply below_alloc | apply pw_below_drewN | apply below_drew1) | exact HB.out)⟩⟩
                              · rw [if_neg c28] at H
                                exact absurd H (by simp)
                            · rw [if_neg c27] at H
                              exact absurd H (by simp)
                          · rw [if_neg c26] at H
                            exact absurd H (by simp)
                        · rw [if_neg c25] at H
                          exact absurd H (by simp)
          · rw [if_neg c8] at H
            exact absurd H (by simp)
        · rw [if_neg c7] at H
          have c7b0 : decide (x7_1 < (l1.length : Int)) = false := decide_eq_false c7
          clear c7
          simp only [Option.some.injEq, Prod.mk.injEq] at H
          obtain ⟨rfl, rfl⟩ := H
          go_wp2
          go_ret2
          exact ⟨_, by first | rfl | (simp [errW_none, errW_some] <;> rfl) | (simp [*, errW_none, errW_some] <;> rfl), by (with_reducible repeat (first | apply Kd.R_alloc | apply Kd.R_drewN | apply Kd.R_drew)); exact HO_6.out, by repeat (first | (with_reducible first | exact HB.out | apply below_alloc | apply pw_below_drewN | apply below_drew1) | exact HB.out)⟩
  · rw [if_neg c3] at H
    exact absurd H (by simp)

/-! ### binderyref21_SameRows: function 22 -/
def binderyref21_SameRows.l0 : Nat → List (S48) → List (S48) → Int → Option (Bool)
  | 0, _, _, _ => none
  | k + 1, x0, x1, x5 => if x5 < (x0.length : Int) then (if 0 ≤ x5 then (if x5 < (x1.length : Int) then (if (!(((rd_T48 x0 x5).f0) == ((rd_T48 x1 x5).f0)) || ((!(((rd_T48 x0 x5).f1.f0) == ((rd_T48 x1 x5).f1.f0)) || (!(((rd_T48 x0 x5).f1.f1) == ((rd_T48 x1 x5).f1.f1)) || (!(((rd_T48 x0 x5).f1.f2) == ((rd_T48 x1 x5).f1.f2))))))) = true then (some false) else (binderyref21_SameRows.l0 k x0 x1 (wrap64 (x5 + 1)))) else (none)) else (none)) else (some true)
def binderyref21_SameRows.f (k : Nat) (l0 : List (S48)) (l1 : List (S48)) : Option (Bool) := if (l0.length : Int) = (l1.length : Int) then (binderyref21_SameRows.l0 k l0 l1 0) else (some false)
theorem binderyref21_SameRows.mono_l : ∀ k, (∀ y0 y1 y2, LeO (binderyref21_SameRows.l0 k y0 y1 y2) (binderyref21_SameRows.l0 (k + 1) y0 y1 y2))
  | 0 => fun _ _ _ r h => by simp [binderyref21_SameRows.l0] at h
  | k + 1 => by
    have ih0 := binderyref21_SameRows.mono_l k
    · intro y0 y1 y2
      unfold binderyref21_SameRows.l0
      repeat' first
      | (with_reducible exact ih0 _ _ _)
      | (with_reducible exact LeO.refl _)
      | (with_reducible exact LeO.none _)
      | (with_reducible refine LeO.ite ?_ ?_)
      | (with_reducible refine LeO.bind ?_ (fun _ => ?_))
      | exact ih0 _ _ _
      | exact LeO.none _
      | refine LeO.ite ?_ ?_
      | refine LeO.bind ?_ (fun _ => ?_)
theorem binderyref21_SameRows.mono : ∀ a0 a1 k, LeO (binderyref21_SameRows.f k a0 a1) (binderyref21_SameRows.f (k + 1) a0 a1) := by
  intro a0 a1 k
  have ih0 := binderyref21_SameRows.mono_l k
  unfold binderyref21_SameRows.f
  repeat' first
      | (with_reducible exact ih0 _ _ _)
      | (with_reducible exact LeO.refl _)
      | (with_reducible exact LeO.none _)
      | (with_reducible refine LeO.ite ?_ ?_)
      | (with_reducible refine LeO.bind ?_ (fun _ => ?_))
      | exact ih0 _ _ _
      | exact LeO.none _
      | refine LeO.ite ?_ ?_
      | refine LeO.bind ?_ (fun _ => ?_)
set_option maxHeartbeats 8000000 in
set_option maxRecDepth 100000 in
theorem binderyref21_SameRows.calls (k : Nat) (A0 : Option Addr) (c0 : Nat) (l0 : List (S48)) (A1 : Option Addr) (c1 : Nat) (l1 : List (S48)) (r : Bool) (w : World) (hr0 : Kd.C k48 w A0 l0.length l0) (hc0 : l0.length ≤ c0) (hr1 : Kd.C k48 w A1 l1.length l1) (hc1 : l1.length ≤ c1) (h : binderyref21_SameRows.f k l0 l1 = some r) :
    Calls Try.prog 22 #[.slice A0 l0.length c0, .slice A1 l1.length c1] w fun e w' => e = .returned (.bool r) ∧ Drawn0 w w' := by
  have hu48 := Try.underlying48
  have HR0 := Aside0.mk hr0
  have HC0 := Aside0.mk hc0
  clear hr0 hc0
  have HR1 := Aside0.mk hr1
  have HC1 := Aside0.mk hc1
  clear hr1 hc1
  have H : (if (l0.length : Int) = (l1.length : Int) then (binderyref21_SameRows.l0 k l0 l1 0) else (some false)) = some r := h
  clear h
  by_cases c3 : (l0.length : Int) = (l1.length : Int)
  · rw [if_pos c3] at H
    have c3b0 : ((l0.length : Int) == (l1.length : Int)) = true := beq_iff_eq.mpr c3
    have c3b1 : ((l0.length : Int) != (l1.length : Int)) = false := bne_eq_false_iff_eq.mpr c3
    have c3b2 : (l0.length == l1.length) = true := by first | simpa using c3 | (simp at c3 ⊢; omega)
    clear c3
    have H' := Aside0.mk H
    clear H
    go_enter Try.func22, Try.ntmps22
    go_wp2
    repeat (go_quiet (fail); try go_wp2)
    go_loopg [5] k (fun kq v5 w' => ∃ (x5_1 : Int), v5 = .int .i64 x5_1 ∧ Aside0 (binderyref21_SameRows.l0 kq l0 l1 x5_1 = some r) ∧ Aside0 (kq ≤ k) ∧ Drawn0 w w')
    case atStart => exact ⟨(0), (by first | rfl | (simp; done) | (simp [*]; done)), H', ⟨Nat.le_refl _⟩, by repeat (first | exact Drawn0.refl _ | apply Drawn0.step)⟩
    case round =>
      clear H'
      try clear c1
      try clear c2
      try clear p2
      try clear c3
      try clear c3b0
      try clear c3b1
      try clear c3b2
      obtain ⟨x5_1, rfl, HA, HK1, ⟨m1, rfl⟩⟩ := hrel
      cases gk with
      | zero => exact absurd HA.out (by simp [binderyref21_SameRows.l0])
      | succ k1 =>
        have H := HA.out
        clear HA
        simp only [binderyref21_SameRows.l0] at H
        by_cases c4 : x5_1 < (l0.length : Int)
        · rw [if_pos c4] at H
          have c4b0 : decide (x5_1 < (l0.length : Int)) = true := decide_eq_true c4
          clear c4
          by_cases c5 : 0 ≤ x5_1
          · rw [if_pos c5] at H
            have c5b0 : decide (0 ≤ x5_1) = true := decide_eq_true c5
            clear c5
            by_cases c6 : x5_1 < (l1.length : Int)
            · rw [if_pos c6] at H
              have c6b0 : decide (x5_1 < (l1.length : Int)) = true := decide_eq_true c6
              clear c6
              by_cases c7 : (!(((rd_T48 l0 x5_1).f0) == ((rd_T48 l1 x5_1).f0)) || ((!(((rd_T48 l0 x5_1).f1.f0) == ((rd_T48 l1 x5_1).f1.f0)) || (!(((rd_T48 l0 x5_1).f1.f1) == ((rd_T48 l1 x5_1).f1.f1)) || (!(((rd_T48 l0 x5_1).f1.f2) == ((rd_T48 l1 x5_1).f1.f2))))))) = true
              · rw [if_pos c7] at H
                have c7b0 : (!(((rd_T48 l0 x5_1).f0) == ((rd_T48 l1 x5_1).f0)) || ((!(((rd_T48 l0 x5_1).f1.f0) == ((rd_T48 l1 x5_1).f1.f0)) || (!(((rd_T48 l0 x5_1).f1.f1) == ((rd_T48 l1 x5_1).f1.f1)) || (!(((rd_T48 l0 x5_1).f1.f2) == ((rd_T48 l1 x5_1).f1.f2))))))) = true := c7
                clear c7
                obtain rfl := Option.some.inj H
                have p263 : 0 ≤ (x5_1 : Int) := of_decide_eq_true (by first | (with_reducible assumption) | assumption)
                have q263 : x5_1 < (l0.length : Int) := of_decide_eq_true (by first | (with_reducible assumption) | assumption)
                obtain ⟨ad263, e263, hx263_0, hx263_1, hx263_2, hx263_3⟩ := at_T48 HR0.out x5_1 p263 q263
                cases e263
                replace p263 := eq_true p263
                replace q263 := eq_true q263
                have p264 : 0 ≤ (x5_1 : Int) := of_decide_eq_true (by first | (with_reducible assumption) | assumption)
                have q264 : x5_1 < (l1.length : Int) := of_decide_eq_true (by first | (with_reducible assumption) | assumption)
                obtain ⟨ad264, e264, hx264_0, hx264_1, hx264_2, hx264_3⟩ := at_T48 HR1.out x5_1 p264 q264
                cases e264
                replace p264 := eq_true p264
                replace q264 := eq_true q264
                go_wp2
                repeat (go_quiet (fail); try go_wp2)
                go_ret
                exact ⟨by first | rfl | (simp; done) | (simp [*]; done), by repeat (first | exact Drawn0.refl _ | apply Drawn0.step)⟩
              · rw [if_neg c7] at H
                have c7b0 : (!(((rd_T48 l0 x5_1).f0) == ((rd_T48 l1 x5_1).f0)) || ((!(((rd_T48 l0 x5_1).f1.f0) == ((rd_T48 l1 x5_1).f1.f0)) || (!(((rd_T48 l0 x5_1).f1.f1) == ((rd_T48 l1 x5_1).f1.f1)) || (!(((rd_T48 l0 x5_1).f1.f2) == ((rd_T48 l1 x5_1).f1.f2))))))) = false := by simpa using c7
                clear c7
                have H' := Aside0.mk H
                clear H
                have p263 : 0 ≤ (x5_1 : Int) := of_decide_eq_true (by first | (with_reducible assumption) | assumption)
                have q263 : x5_1 < (l0.length : Int) := of_decide_eq_true (by first | (with_reducible assumption) | assumption)
                obtain ⟨ad263, e263, hx263_0, hx263_1, hx263_2, hx263_3⟩ := at_T48 HR0.out x5_1 p263 q263
                cases e263
                replace p263 := eq_true p263
                replace q263 := eq_true q263
                have p264 : 0 ≤ (x5_1 : Int) := of_decide_eq_true (by first | (with_reducible assumption) | assumption)
                have q264 : x5_1 < (l1.length : Int) := of_decide_eq_true (by first | (with_reducible assumption) | assumption)
                obtain ⟨ad264, e264, hx264_0, hx264_1, hx264_2, hx264_3⟩ := at_T48 HR1.out x5_1 p264 q264
                cases e264
                replace p264 := eq_true p264
                replace q264 := eq_true q264
                go_wp2
                repeat (go_quiet (fail); try go_wp2)
                go_roundg k1
                case measure => have := HK1.out; omega
                case rel => exact ⟨(wrap64 (x5_1 + 1)), (by first | rfl | (simp; done) | (simp [*]; done)), H', ⟨by have := HK1.out; omega⟩, by repeat (first | exact Drawn0.refl _ | apply Drawn0.step)⟩
            · rw [if_neg c6] at H
              exact absurd H (by simp)
          · rw [if_neg c5] at H
            exact absurd H (by simp)
        · rw [if_neg c4] at H
          have c4b0 : decide (x5_1 < (l0.length : Int)) = false := decide_eq_false c4
          clear c4
          obtain rfl := Option.some.inj H
          go_wp2
          repeat (go_quiet (fail); try go_wp2)
          go_ret
          exact ⟨by first | rfl | (simp; done) | (simp [*]; done), by repeat (first | exact Drawn0.refl _ | apply Drawn0.step)⟩
  · rw [if_neg c3] at H
    have c3b0 : ((l0.length : Int) == (l1.length : Int)) = false := beq_eq_false_iff_ne.mpr c3
    have c3b1 : ((l0.length : Int) != (l1.length : Int)) = true := bne_iff_ne.mpr c3
    have c3b2 : (l0.length == l1.length) = false := by first | simpa using c3 | (simp at c3 ⊢; omega)
    obtain rfl := Option.some.inj H
    go_enter Try.func22, Try.ntmps22
    go_wp2
    repeat (go_quiet (fail); try go_wp2)
    go_ret
    exact ⟨by first | rfl | (simp; done) | (simp [*]; done), by repeat (first | exact Drawn0.refl _ | apply Drawn0.step)⟩

/-! ### table_Diff: function 23 -/
def table_Diff.l0 : Nat → List (S38) → List (S48) → List (S38) → Int → Int → Option ((List (S48)))
  | 0, _, _, _, _, _ => none
  | k + 1, x0, x5, x8, x9, x10 => if x10 < x9 then (if 0 ≤ x10 then (if x10 < (x8.length : Int) then (if x10 ≥ (x0.length : Int) then (if x5.length < 4398046511104 then (table_Diff.l0 k x0 (x5 ++ [(⟨x10, (⟨(rd_T38 x8 x10).f0, (rd_T38 x8 x10).f1, (rd_T38 x8 x10).f2⟩ : S38)⟩ : S48)]) x8 x9 (wrap64 (x10 + 1))) else (none)) else (if x10 < (x0.length : Int) then (if (!(((rd_T38 x0 x10).f0) == ((rd_T38 x8 x10).f0)) || (!(((rd_T38 x0 x10).f1) == ((rd_T38 x8 x10).f1)) || (!(((rd_T38 x0 x10).f2) == ((rd_T38 x8 x10).f2))))) = true then (if x5.length < 4398046511104 then (table_Diff.l0 k x0 (x5 ++ [(⟨x10, (⟨(rd_T38 x8 x10).f0, (rd_T38 x8 x10).f1, (rd_T38 x8 x10).f2⟩ : S38)⟩ : S48)]) x8 x9 (wrap64 (x10 + 1))) else (none)) else (table_Diff.l0 k x0 x5 x8 x9 (wrap64 (x10 + 1)))) else (none))) else (none)) else (none)) else (some x5)
def table_Diff.f (k : Nat) (l0 : List (S38)) (l1 : List (S38)) : Option ((List (S48))) := table_Diff.l0 k l0 ([] : List (S48)) l1 (l1.length : Int) 0
theorem table_Diff.mono_l : ∀ k, (∀ y0 y1 y2 y3 y4, LeO (table_Diff.l0 k y0 y1 y2 y3 y4) (table_Diff.l0 (k + 1) y0 y1 y2 y3 y4))
  | 0 => fun _ _ _ _ _ r h => by simp [table_Diff.l0] at h
  | k + 1 => by
    have ih0 := table_Diff.mono_l k
    · intro y0 y1 y2 y3 y4
      unfold table_Diff.l0
      repeat' first
      | (with_reducible exact ih0 _ _ _ _ _)
      | (with_reducible exact LeO.refl _)
      | (with_reducible exact LeO.none _)
      | (with_reducible refine LeO.ite ?_ ?_)
      | (with_reducible refine LeO.bind ?_ (fun _ => ?_))
      | exact ih0 _ _ _ _ _
      | exact LeO.none _
      | refine LeO.ite ?_ ?_
      | refine LeO.bind ?_ (fun _ => ?_)
theorem table_Diff.mono : ∀ a0 a1 k, LeO (table_Diff.f k a0 a1) (table_Diff.f (k + 1) a0 a1) := by
  intro a0 a1 k
  have ih0 := table_Diff.mono_l k
  unfold table_Diff.f
  repeat' first
      | (with_reducible exact ih0 _ _ _ _ _)
      | (with_reducible exact LeO.refl _)
      | (with_reducible exact LeO.none _)
      | (with_reducible refine LeO.ite ?_ ?_)
      | (with_reducible refine LeO.bind ?_ (fun _ => ?_))
      | exact ih0 _ _ _ _ _
      | exact LeO.none _
      | refine LeO.ite ?_ ?_
      | refine LeO.bind ?_ (fun _ => ?_)
set_option maxHeartbeats 8000000 in
set_option maxRecDepth 100000 in
theorem table_Diff.calls (k : Nat) (A0 : Option Addr) (c0 : Nat) (l0 : List (S38)) (A1 : Option Addr) (c1 : Nat) (l1 : List (S38)) (r : List (S48)) (w : World) (hr0 : Kd.C k38 w A0 l0.length l0) (hc0 : l0.length ≤ c0) (hr1 : Kd.C k38 w A1 l1.length l1) (hc1 : l1.length ≤ c1) (h : table_Diff.f k l0 l1 = some r) :
    Calls Try.prog 23 #[.slice A0 l0.length c0, .slice A1 l1.length c1] w fun e w' => ∃ v0_ : Value, e = .returned (v0_) ∧ Kd.R k48 48 w' w.heap.size (fun _ => True) v0_ r ∧ Below w.heap.size w w' := by
  have hu38 := Try.underlying38
  have hu48 := Try.underlying48
  have HR0 := Aside0.mk hr0
  have HC0 := Aside0.mk hc0
  clear hr0 hc0
  have HR1 := Aside0.mk hr1
  have HC1 := Aside0.mk hc1
  clear hr1 hc1
  have HB := Aside0.mk (Below.refl w.heap.size w)
  have H : (table_Diff.l0 k l0 ([] : List (S48)) l1 (l1.length : Int) 0) = some r := h
  clear h
  have H' := Aside0.mk H
  clear H
  go_enter Try.func23, Try.ntmps23
  go_wp2
  repeat (go_quiet (fail); try go_wp2)
  go_loopg [5, 10] k (fun kq v5 v10 w' => ∃ (x5_1 : List (S48)) (x10_1 : Int), v10 = .int .i64 x10_1 ∧ Aside0 (table_Diff.l0 kq l0 x5_1 l1 (l1.length : Int) x10_1 = some r) ∧ Aside0 (kq ≤ k) ∧ Aside0 (Kd.R k48 48 w' w.heap.size (fun _ => True) v5 x5_1) ∧ Aside0 (Below w.heap.size w w'))
  case atStart => exact ⟨(([] : List (S48))), (0), (by first | rfl | (simp; done) | (simp [*]; done)), H', ⟨Nat.le_refl _⟩, ⟨by first | exact Kd.R_nil _ _ _ _ _ | exact Kd.N_nil _ _ _ _ _ | exact Kd.V_nil _ _ _ _ _ | exact Kd.Q_nil _ _ _ _ _ | exact Kd.S_nil _ _ _ _ _⟩, ⟨by repeat (first | (with_reducible first | exact HB.out | apply below_alloc | apply pw_below_drewN | apply below_drew1) | exact HB.out)⟩⟩
  case round =>
    clear H'
    try clear c1
    try clear c2
    try clear p2
    obtain ⟨x5_1, x10_1, rfl, HA, HK1, HO_5, HB⟩ := hrel
    cases gk with
    | zero => exact absurd HA.out (by simp [table_Diff.l0])
    | succ k1 =>
      have H := HA.out
      clear HA
      simp only [table_Diff.l0] at H
      by_cases c3 : x10_1 < (l1.length : Int)
      · rw [if_pos c3] at H
        have c3b0 : decide (x10_1 < (l1.length : Int)) = true := decide_eq_true c3
        clear c3
        by_cases c4 : 0 ≤ x10_1
        · rw [if_pos c4] at H
          have c4b0 : decide (0 ≤ x10_1) = true := decide_eq_true c4
          clear c4
          by_cases c5 : x10_1 < (l1.length : Int)
          · rw [if_pos c5] at H
            have c5b0 : decide (x10_1 < (l1.length : Int)) = true := decide_eq_true c5
            clear c5
            by_cases c6 : x10_1 ≥ (l0.length : Int)
            · rw [if_pos c6] at H
              have c6b0 : decide ((l0.length : Int) ≤ x10_1) = true := decide_eq_true c6
              clear c6
              by_cases c7 : x5_1.length < 4398046511104
              · rw [if_pos c7] at H
                have LMc7 := Aside0.mk c7
                clear c7
                obtain ⟨y267, hy267⟩ : ∃ y_ : List (S48), y_ = (x5_1 ++ [(⟨x10_1, (⟨(rd_T38 l1 x10_1).f0, (rd_T38 l1 x10_1).f1, (rd_T38 l1 x10_1).f2⟩ : S38)⟩ : S48)]) := ⟨_, rfl⟩
                replace H : (table_Diff.l0 k1 l0 y267 l1 (l1.length : Int) (wrap64 (x10_1 + 1))) = some r := by first | (rw [hy267]; with_reducible exact H) | (have H2_ := (Option.bind_some _ _).symm.trans H; rw [hy267]; with_reducible exact H2_) | (have H2_ := (Option.bind_some _ _).symm.trans H; with_reducible exact H2_) | with_reducible exact H | (rw [hy267]; exact H) | exact H
                have Ny267 := Aside0.mk hy267
                clear hy267
                have H' := Aside0.mk H
                clear H
                have p265 : 0 ≤ (x10_1 : Int) := of_decide_eq_true (by first | (with_reducible assumption) | assumption)
                have q265 : x10_1 < (l1.length : Int) := of_decide_eq_true (by first | (with_reducible assumption) | assumption)
                obtain ⟨ad265, e265, hx265_0, hx265_1, hx265_2⟩ := at_T38 HR1.out x10_1 p265 q265
                cases e265
                replace hx265_0 := (HB.out.cell (World.block_lt_of_cell? w _ hx265_0)).trans hx265_0
                replace hx265_1 := (HB.out.cell (World.block_lt_of_cell? w _ hx265_1)).trans hx265_1
                replace hx265_2 := (HB.out.cell (World.block_lt_of_cell? w _ hx265_2)).trans hx265_2
                replace p265 := eq_true p265
                replace q265 := eq_true q265
                go_wp2_with (first | ((with_reducible refine gate_dst (N := 7) rfl ?_); refine box_event ?hg (N := 7) ?hd (cs := #[.int .i64 0, .int .i64 0, .int .i64 0]) (t := 38) ?hr ?_; (case hd => rfl); (case hg => rfl); (case hr => first | (go_simp; done) | (go_simp; rfl)); intro gb266 hg w8 hbox hb; have n0_ := Aside0.mk (Kd.R_below (by (with_reducible repeat (first | apply Kd.R_alloc | apply Kd.R_drewN | apply Kd.R_drew)); exact HO_5.out) hb); have n1_ := Aside0.mk (below_step (by repeat (first | (with_reducible first | exact HB.out | apply below_alloc | apply pw_below_drewN | apply below_drew1) | exact HB.out)) hb); have n2_ := Aside0.mk (hbox); have n3_ := Aside0.mk ((by rw [hg]; exact (below_size (by repeat (first | (with_reducible first | exact HB.out | apply below_alloc | apply pw_below_drewN | apply below_drew1) | exact HB.out))) : w.heap.size ≤ gb266)); have n4_ := Aside0.mk ((by rw [hg]; exact (below_size (by repeat (first | (with_reducible first | exact HB.out | apply below_alloc | apply pw_below_drewN | apply below_drew1) | exact HB.out))) : w.heap.size ≤ gb266)); clear HO_5; clear HB; have HO_5 := n0_; have HB := n1_; have BK266 := n2_; have GW266 := n3_; have GE266 := n4_; clear n0_ n1_ n2_ n3_ n4_; clear hb hbox hg; have hcz9_0 : w8.cell? ⟨gb266, 0, none⟩ = some (.int .i64 0) := (blk_cell BK266.out 0).trans rfl; have hcz9_1 : w8.cell? ⟨gb266, 1, none⟩ = some (.int .i64 0) := (blk_cell BK266.out 1).trans rfl; have hcz9_2 : w8.cell? ⟨gb266, 2, none⟩ = some (.int .i64 0) := (blk_cell BK266.out 2).trans rfl; have hfz9_0 := blk_frozen BK266.out 0; have hfz9_1 := blk_frozen BK266.out 1; have hfz9_2 := blk_frozen BK266.out 2) | ((with_reducible refine gate_builtin (b := .append) (xs := #[.tmp 27, .tmp 31]) rfl ?_); at_builtin; refine Kd.R_append k48 (w0 := w) w.heap.size rfl (.tmp 27) (.tmp 31) 39 48 (.agg #[(.int .i64 0), (.int .i64 0), (.int .i64 0), (.int .i64 0)]) 32 rfl Try.underlying39 info48 rfl (by decide) (by omega) u5 x5_1 (⟨x10_1, (⟨(rd_T38 l1 x10_1).f0, (rd_T38 l1 x10_1).f1, (rd_T38 l1 x10_1).f2⟩ : S38)⟩ : S48) [.int .i64 x10_1, .int .i64 ((rd_T38 l1 x10_1).f0), .int .i64 ((rd_T38 l1 x10_1).f1), .int .i64 ((rd_T38 l1 x10_1).f2)] (fun _ => True) (fun _ => False) rfl (by first | (go_simp; done) | (go_simp; rfl)) ?aP (fun _ hk => hk.elim) ?aF ?aO ?aB ?aS ?aL ?_; (case aP => exact k48_mkM _ _ _ (⟨x10_1, (⟨(rd_T38 l1 x10_1).f0, (rd_T38 l1 x10_1).f1, (rd_T38 l1 x10_1).f2⟩ : S38)⟩ : S48)); (case aB => exact (by repeat (first | (with_reducible first | exact HB.out | apply below_alloc | apply pw_below_drewN | apply below_drew1 | refine below_set ?_ GE266.out) | exact HB.out))); (case aF => exact (fun _ _ => trivial)); (case aO => exact (by (with_reducible repeat (first | apply Kd.R_alloc | apply Kd.R_drewN | apply Kd.R_drew)); exact Kd.R_mono (Kd.R_far (p := ⟨gb266, 2, none⟩) (Kd.R_far (p := ⟨gb266, 1, none⟩) (Kd.R_far (p := ⟨gb266, 0, none⟩) (Kd.R_types HO_5.out BK266.out (by decide)) (fun _ hk => hk.2) (.int .i64 ((rd_T38 l1 x10_1).f0))) (fun _ hk => hk.2) (.int .i64 ((rd_T38 l1 x10_1).f1))) (fun _ hk => hk.2) (.int .i64 ((rd_T38 l1 x10_1).f2))) (fun _ hk => trivial))); (case aS => exact (below_size (by repeat (first | (with_reducible first | exact HB.out | apply below_alloc | apply pw_below_drewN | apply below_drew1 | refine below_set ?_ GE266.out) | exact HB.out)))); (case aL => have := LMc7.out; omega); intro v268 w10 ho hb hg hat; rw [← Ny267.out] at ho; have n0_ := Aside0.mk (blk_grown (g := gb266) (o := .cells #[.int .i64 ((rd_T38 l1 x10_1).f0), .int .i64 ((rd_T38 l1 x10_1).f1), .int .i64 ((rd_T38 l1 x10_1).f2)] 38 (0, 0)) (by (with_reducible repeat (first | refine blk_drewN ?_ _ | refine blk_drew ?_ | refine blk_alloc ?_ _)); refine blk_put (cs := #[.int .i64 ((rd_T38 l1 x10_1).f0), .int .i64 ((rd_T38 l1 x10_1).f1), .int .i64 0]) ?_ 2 _ rfl; (with_reducible repeat (first | refine blk_drewN ?_ _ | refine blk_drew ?_ | refine blk_alloc ?_ _)); refine blk_put (cs := #[.int .i64 ((rd_T38 l1 x10_1).f0), .int .i64 0, .int .i64 0]) ?_ 1 _ rfl; (with_reducible repeat (first | refine blk_drewN ?_ _ | refine blk_drew ?_ | refine blk_alloc ?_ _)); refine blk_put (cs := #[.int .i64 0, .int .i64 0, .int .i64 0]) ?_ 0 _ rfl; (with_reducible repeat (first | refine blk_drewN ?_ _ | refine blk_drew ?_ | refine blk_alloc ?_ _)); exact BK266.out) hg (Kd.R_ne HO_5.out BK266.out (by decide))); have n1_ := Aside0.mk (hb); have n2_ := Aside0.mk (ho); clear BK266; clear HB; clear HO_5; have BK266 := n0_; have HB := n1_; have HO269 := n2_; clear n0_ n1_ n2_; clear ho hb hg hat))
                repeat (go_quiet (first | ((with_reducible refine gate_dst (N := 7) rfl ?_); refine box_event ?hg (N := 7) ?hd (cs := #[.int .i64 0, .int .i64 0, .int .i64 0]) (t := 38) ?hr ?_; (case hd => rfl); (case hg => rfl); (case hr => first | (go_simp; done) | (go_simp; rfl)); intro gb266 hg w8 hbox hb; have n0_ := Aside0.mk (Kd.R_below (by (with_reducible repeat (first | apply Kd.R_alloc | apply Kd.R_drewN | apply Kd.R_drew)); exact HO_5.out) hb); have n1_ := Aside0.mk (below_step (by repeat (first | (with_reducible first | exact HB.out | apply below_alloc | apply pw_below_drewN | apply below_drew1) | exact HB.out)) hb); have n2_ := Aside0.mk (hbox); have n3_ := Aside0.mk ((by rw [hg]; exact (below_size (by repeat (first | (with_reducible first | exact HB.out | apply below_alloc | apply pw_below_drewN | apply below_drew1) | exact HB.out))) : w.heap.size ≤ gb266)); have n4_ := Aside0.mk ((by rw [hg]; exact (below_size (by repeat (first | (with_reducible first | exact HB.out | apply below_alloc | apply pw_below_drewN | apply below_drew1) | exact HB.out))) : w.heap.size ≤ gb266)); clear HO_5; clear HB; have HO_5 := n0_; have HB := n1_; have BK266 := n2_; have GW266 := n3_; have GE266 := n4_; clear n0_ n1_ n2_ n3_ n4_; clear hb hbox hg; have hcz9_0 : w8.cell? ⟨gb266, 0, none⟩ = some (.int .i64 0) := (blk_cell BK266.out 0).trans rfl; have hcz9_1 : w8.cell? ⟨gb266, 1, none⟩ = some (.int .i64 0) := (blk_cell BK266.out 1).trans rfl; have hcz9_2 : w8.cell? ⟨gb266, 2, none⟩ = some (.int .i64 0) := (blk_cell BK266.out 2).trans rfl; have hfz9_0 := blk_frozen BK266.out 0; have hfz9_1 := blk_frozen BK266.out 1; have hfz9_2 := blk_frozen BK266.out 2) | ((with_reducible refine gate_builtin (b := .append) (xs := #[.tmp 27, .tmp 31]) rfl ?_); at_builtin; refine Kd.R_append k48 (w0 := w) w.heap.size rfl (.tmp 27) (.tmp 31) 39 48 (.agg #[(.int .i64 0), (.int .i64 0), (.int .i64 0), (.int .i64 0)]) 32 rfl Try.underlying39 info48 rfl (by decide) (by omega) u5 x5_1 (⟨x10_1, (⟨(rd_T38 l1 x10_1).f0, (rd_T38 l1 x10_1).f1, (rd_T38 l1 x10_1).f2⟩ : S38)⟩ : S48) [.int .i64 x10_1, .int .i64 ((rd_T38 l1 x10_1).f0), .int .i64 ((rd_T38 l1 x10_1).f1), .int .i64 ((rd_T38 l1 x10_1).f2)] (fun _ => True) (fun _ => False) rfl (by first | (go_simp; done) | (go_simp; rfl)) ?aP (fun _ hk => hk.elim) ?aF ?aO ?aB ?aS ?aL ?_; (case aP => exact k48_mkM _ _ _ (⟨x10_1, (⟨(rd_T38 l1 x10_1).f0, (rd_T38 l1 x10_1).f1, (rd_T38 l1 x10_1).f2⟩ : S38)⟩ : S48)); (case aB => exact (by repeat (first | (with_reducible first | exact HB.out | apply below_alloc | apply pw_below_drewN | apply below_drew1 | refine below_set ?_ GE266.out) | exact HB.out))); (case aF => exact (fun _ _ => trivial)); (case aO => exact (by (with_reducible repeat (first | apply Kd.R_alloc | apply Kd.R_drewN | apply Kd.R_drew)); exact Kd.R_mono (Kd.R_far (p := ⟨gb266, 2, none⟩) (Kd.R_far (p := ⟨gb266, 1, none⟩) (Kd.R_far (p := ⟨gb266, 0, none⟩) (Kd.R_types HO_5.out BK266.out (by decide)) (fun _ hk => hk.2) (.int .i64 ((rd_T38 l1 x10_1).f0))) (fun _ hk => hk.2) (.int .i64 ((rd_T38 l1 x10_1).f1))) (fun _ hk => hk.2) (.int .i64 ((rd_T38 l1 x10_1).f2))) (fun _ hk => trivial))); (case aS => exact (below_size (by repeat (first | (with_reducible first | exact HB.out | apply below_alloc | apply pw_below_drewN | apply below_drew1 | refine below_set ?_ GE266.out) | exact HB.out)))); (case aL => have := LMc7.out; omega); intro v268 w10 ho hb hg hat; rw [← Ny267.out] at ho; have n0_ := Aside0.mk (blk_grown (g := gb266) (o := .cells #[.int .i64 ((rd_T38 l1 x10_1).f0), .int .i64 ((rd_T38 l1 x10_1).f1), .int .i64 ((rd_T38 l1 x10_1).f2)] 38 (0, 0)) (by (with_reducible repeat (first | refine blk_drewN ?_ _ | refine blk_drew ?_ | refine blk_alloc ?_ _)); refine blk_put (cs := #[.int .i64 ((rd_T38 l1 x10_1).f0), .int .i64 ((rd_T38 l1 x10_1).f1), .int .i64 0]) ?_ 2 _ rfl; (with_reducible repeat (first | refine blk_drewN ?_ _ | refine blk_drew ?_ | refine blk_alloc ?_ _)); refine blk_put (cs := #[.int .i64 ((rd_T38 l1 x10_1).f0), .int .i64 0, .int .i64 0]) ?_ 1 _ rfl; (with_reducible repeat (first | refine blk_drewN ?_ _ | refine blk_drew ?_ | refine blk_alloc ?_ _)); refine blk_put (cs := #[.int .i64 0, .int .i64 0, .int .i64 0]) ?_ 0 _ rfl; (with_reducible repeat (first | refine blk_drewN ?_ _ | refine blk_drew ?_ | refine blk_alloc ?_ _)); exact BK266.out) hg (Kd.R_ne HO_5.out BK266.out (by decide))); have n1_ := Aside0.mk (hb); have n2_ := Aside0.mk (ho); clear BK266; clear HB; clear HO_5; have BK266 := n0_; have HB := n1_; have HO269 := n2_; clear n0_ n1_ n2_; clear ho hb hg hat)); try go_wp2_with (first | ((with_reducible refine gate_dst (N := 7) rfl ?_); refine box_event ?hg (N := 7) ?hd (cs := #[.int .i64 0, .int .i64 0, .int .i64 0]) (t := 38) ?hr ?_; (case hd => rfl); (case hg => rfl); (case hr => first | (go_simp; done) | (go_simp; rfl)); intro gb266 hg w8 hbox hb; have n0_ := Aside0.mk (Kd.R_below (by (with_reducible repeat (first | apply Kd.R_alloc | apply Kd.R_drewN | apply Kd.R_drew)); exact HO_5.out) hb); have n1_ := Aside0.mk (below_step (by repeat (first | (with_reducible first | exact HB.out | apply below_alloc | apply pw_below_drewN | apply below_drew1) | exact HB.out)) hb); have n2_ := Aside0.mk (hbox); have n3_ := Aside0.mk ((by rw [hg]; exact (below_size (by repeat (first | (with_reducible first | exact HB.out | apply below_alloc | apply pw_below_drewN | apply below_drew1) | exact HB.out))) : w.heap.size ≤ gb266)); have n4_ := Aside0.mk ((by rw [hg]; exact (below_size (by repeat (first | (with_reducible first | exact HB.out | apply below_alloc | apply pw_below_drewN | apply below_drew1) | exact HB.out))) : w.heap.size ≤ gb266)); clear HO_5; clear HB; have HO_5 := n0_; have HB := n1_; have BK266 := n2_; have GW266 := n3_; have GE266 := n4_; clear n0_ n1_ n2_ n3_ n4_; clear hb hbox hg; have hcz9_0 : w8.cell? ⟨gb266, 0, none⟩ = some (.int .i64 0) := (blk_cell BK266.out 0).trans rfl; have hcz9_1 : w8.cell? ⟨gb266, 1, none⟩ = some (.int .i64 0) := (blk_cell BK266.out 1).trans rfl; have hcz9_2 : w8.cell? ⟨gb266, 2, none⟩ = some (.int .i64 0) := (blk_cell BK266.out 2).trans rfl; have hfz9_0 := blk_frozen BK266.out 0; have hfz9_1 := blk_frozen BK266.out 1; have hfz9_2 := blk_frozen BK266.out 2) | ((with_reducible refine gate_builtin (b := .append) (xs := #[.tmp 27, .tmp 31]) rfl ?_); at_builtin; refine Kd.R_append k48 (w0 := w) w.heap.size rfl (.tmp 27) (.tmp 31) 39 48 (.agg #[(.int .i64 0), (.int .i64 0), (.int .i64 0), (.int .i64 0)]) 32 rfl Try.underlying39 info48 rfl (by decide) (by omega) u5 x5_1 (⟨x10_1, (⟨(rd_T38 l1 x10_1).f0, (rd_T38 l1 x10_1).f1, (rd_T38 l1 x10_1).f2⟩ : S38)⟩ : S48) [.int .i64 x10_1, .int .i64 ((rd_T38 l1 x10_1).f0), .int .i64 ((rd_T38 l1 x10_1).f1), .int .i64 ((rd_T38 l1 x10_1).f2)] (fun _ => True) (fun _ => False) rfl (by first | (go_simp; done) | (go_simp; rfl)) ?aP (fun _ hk => hk.elim) ?aF ?aO ?aB ?aS ?aL ?_; (case aP => exact k48_mkM _ _ _ (⟨x10_1, (⟨(rd_T38 l1 x10_1).f0, (rd_T38 l1 x10_1).f1, (rd_T38 l1 x10_1).f2⟩ : S38)⟩ : S48)); (case aB => exact (by repeat (first | (with_reducible first | exact HB.out | apply below_alloc | apply pw_below_drewN | apply below_drew1 | refine below_set ?_ GE266.out) | exact HB.out))); (case aF => exact (fun _ _ => trivial)); (case aO => exact (by (with_reducible repeat (first | apply Kd.R_alloc | apply Kd.R_drewN | apply Kd.R_drew)); exact Kd.R_mono (Kd.R_far (p := ⟨gb266, 2, none⟩) (Kd.R_far (p := ⟨gb266, 1, none⟩) (Kd.R_far (p := ⟨gb266, 0, none⟩) (Kd.R_types HO_5.out BK266.out (by decide)) (fun _ hk => hk.2) (.int .i64 ((rd_T38 l1 x10_1).f0))) (fun _ hk => hk.2) (.int .i64 ((rd_T38 l1 x10_1).f1))) (fun _ hk => hk.2) (.int .i64 ((rd_T38 l1 x10_1).f2))) (fun _ hk => trivial))); (case aS => exact (below_size (by repeat (first | (with_reducible first | exact HB.out | apply below_alloc | apply pw_below_drewN | apply below_drew1 | refine below_set ?_ GE266.out) | exact HB.out)))); (case aL => have := LMc7.out; omega); intro v268 w10 ho hb hg hat; rw [← Ny267.out] at ho; have n0_ := Aside0.mk (blk_grown (g := gb266) (o := .cells #[.int .i64 ((rd_T38 l1 x10_1).f0), .int .i64 ((rd_T38 l1 x10_1).f1), .int .i64 ((rd_T38 l1 x10_1).f2)] 38 (0, 0)) (by (with_reducible repeat (first | refine blk_drewN ?_ _ | refine blk_drew ?_ | refine blk_alloc ?_ _)); refine blk_put (cs := #[.int .i64 ((rd_T38 l1 x10_1).f0), .int .i64 ((rd_T38 l1 x10_1).f1), .int .i64 0]) ?_ 2 _ rfl; (with_reducible repeat (first | refine blk_drewN ?_ _ | refine blk_drew ?_ | refine blk_alloc ?_ _)); refine blk_put (cs := #[.int .i64 ((rd_T38 l1 x10_1).f0), .int .i64 0, .int .i64 0]) ?_ 1 _ rfl; (with_reducible repeat (first | refine blk_drewN ?_ _ | refine blk_drew ?_ | refine blk_alloc ?_ _)); refine blk_put (cs := #[.int .i64 0, .int .i64 0, .int .i64 0]) ?_ 0 _ rfl; (with_reducible repeat (first | refine blk_drewN ?_ _ | refine blk_drew ?_ | refine blk_alloc ?_ _)); exact BK266.out) hg (Kd.R_ne HO_5.out BK266.out (by decide))); have n1_ := Aside0.mk (hb); have n2_ := Aside0.mk (ho); clear BK266; clear HB; clear HO_5; have BK266 := n0_; have HB := n1_; have HO269 := n2_; clear n0_ n1_ n2_; clear ho hb hg hat)))
                go_roundg k1
                case measure => have := HK1.out; omega
                case rel => exact ⟨(y267), (wrap64 (x10_1 + 1)), (by first | rfl | (simp; done) | (simp [*]; done)), H', ⟨by have := HK1.out; omega⟩, ⟨by (with_reducible repeat (first | apply Kd.R_alloc | apply Kd.R_drewN | apply Kd.R_drew)); exact HO269.out⟩, ⟨by repeat (first | (with_reducible first | exact HB.out | apply below_alloc | apply pw_below_drewN | apply below_drew1 | refine below_set ?_ GE266.out) | exact HB.out)⟩⟩
              · rw [if_neg c7] at H
                exact absurd H (by simp)
            · rw [if_neg c6] at H
              have c6b0 : decide ((l0.length : Int) ≤ x10_1) = false := decide_eq_false c6
              clear c6
              by_cases c11 : x10_1 < (l0.length : Int)
              · rw [if_pos c11] at H
                have c11b0 : decide (x10_1 < (l0.length : Int)) = true := decide_eq_true c11
                clear c11
                by_cases c12 : (!(((rd_T38 l0 x10_1).f0) == ((rd_T38 l1 x10_1).f0)) || (!(((rd_T38 l0 x10_1).f1) == ((rd_T38 l1 x10_1).f1)) || (!(((rd_T38 l0 x10_1).f2) == ((rd_T38 l1 x10_1).f2))))) = true
                · rw [if_pos c12] at H
                  have c12b0 : (!(((rd_T38 l0 x10_1).f0) == ((rd_T38 l1 x10_1).f0)) || (!(((rd_T38 l0 x10_1).f1) == ((rd_T38 l1 x10_1).f1)) || (!(((rd_T38 l0 x10_1).f2) == ((rd_T38 l1 x10_1).f2))))) = true := c12
                  clear c12
                  by_cases c13 : x5_1.length < 4398046511104
                  · rw [if_pos c13] at H
                    have LMc13 := Aside0.mk c13
                    clear c13
                    obtain ⟨y271, hy271⟩ : ∃ y_ : List (S48), y_ = (x5_1 ++ [(⟨x10_1, (⟨(rd_T38 l1 x10_1).f0, (rd_T38 l1 x10_1).f1, (rd_T38 l1 x10_1).f2⟩ : S38)⟩ : S48)]) := ⟨_, rfl⟩
                    replace H : (table_Diff.l0 k1 l0 y271 l1 (l1.length : Int) (wrap64 (x10_1 + 1))) = some r := by first | (rw [hy271]; with_reducible exact H) | (have H2_ := (Option.bind_some _ _).symm.trans H; rw [hy271]; with_reducible exact H2_) | (have H2_ := (Option.bind_some _ _).symm.trans H; with_reducible exact H2_) | with_reducible exact H | (rw [hy271]; exact H) | exact H
                    have Ny271 := Aside0.mk hy271
                    clear hy271
                    have H' := Aside0.mk H
                    clear H
                    have p265 : 0 ≤ (x10_1 : Int) := of_decide_eq_true (by first | (with_reducible assumption) | assumption)
                    have q265 : x10_1 < (l1.length : Int) := of_decide_eq_true (by first | (with_reducible assumption) | assumption)
                    obtain ⟨ad265, e265, hx265_0, hx265_1, hx265_2⟩ := at_T38 HR1.out x10_1 p265 q265
                    cases e265
                    replace hx265_0 := (HB.out.cell (World.block_lt_of_cell? w _ hx265_0)).trans hx265_0
                    replace hx265_1 := (HB.out.cell (World.block_lt_of_cell? w _ hx265_1)).trans hx265_1
                    replace hx265_2 := (HB.out.cell (World.block_lt_of_cell? w _ hx265_2)).trans hx265_2
                    replace p265 := eq_true p265
                    replace q265 := eq_true q265
                    go_wp2_with (first | ((with_reducible refine gate_dst (N := 7) rfl ?_); refine box_event ?hg (N := 7) ?hd (cs := #[.int .i64 0, .int .i64 0, .int .i64 0]) (t := 38) ?hr ?_; (case hd => rfl); (case hg => rfl); (case hr => first | (go_simp; done) | (go_simp; rfl)); intro gb266 hg w14 hbox hb; have n0_ := Aside0.mk (Kd.R_below (by (with_reducible repeat (first | apply Kd.R_alloc | apply Kd.R_drewN | apply Kd.R_drew)); exact HO_5.out) hb); have n1_ := Aside0.mk (below_step (by repeat (first | (with_reducible first | exact HB.out | apply below_alloc | apply pw_below_drewN | apply below_drew1) | exact HB.out)) hb); have n2_ := Aside0.mk (hbox); have n3_ := Aside0.mk ((by rw [hg]; exact (below_size (by repeat (first | (with_reducible first | exact HB.out | apply below_alloc | apply pw_below_drewN | apply below_drew1) | exact HB.out))) : w.heap.size ≤ gb266)); have n4_ := Aside0.mk ((by rw [hg]; exact (below_size (by repeat (first | (with_reducible first | exact HB.out | apply below_alloc | apply pw_below_drewN | apply below_drew1) | exact HB.out))) : w.heap.size ≤ gb266)); clear HO_5; clear HB; have HO_5 := n0_; have HB := n1_; have BK266 := n2_; have GW266 := n3_; have GE266 := n4_; clear n0_ n1_ n2_ n3_ n4_; clear hb hbox hg; have hcz15_0 : w14.cell? ⟨gb266, 0, none⟩ = some (.int .i64 0) := (blk_cell BK266.out 0).trans rfl; have hcz15_1 : w14.cell? ⟨gb266, 1, none⟩ = some (.int .i64 0) := (blk_cell BK266.out 1).trans rfl; have hcz15_2 : w14.cell? ⟨gb266, 2, none⟩ = some (.int .i64 0) := (blk_cell BK266.out 2).trans rfl; have hfz15_0 := blk_frozen BK266.out 0; have hfz15_1 := blk_frozen BK266.out 1; have hfz15_2 := blk_frozen BK266.out 2; have p270 : 0 ≤ (x10_1 : Int) := of_decide_eq_true (by first | (with_reducible assumption) | assumption); have q270 : x10_1 < (l0.length : Int) := of_decide_eq_true (by first | (with_reducible assumption) | assumption); obtain ⟨ad270, e270, hx270_0, hx270_1, hx270_2⟩ := at_T38 HR0.out x10_1 p270 q270; cases e270; have hn270_0 : ad270.block ≠ gb266 := Nat.ne_of_lt (Nat.lt_of_lt_of_le (by have := World.block_lt_of_cell? _ _ hx270_0; first | rwa [add_block] at this | exact this) GW266.out); have hn270_1 : ad270.block ≠ gb266 := Nat.ne_of_lt (Nat.lt_of_lt_of_le (by have := World.block_lt_of_cell? _ _ hx270_0; first | rwa [add_block] at this | exact this) GW266.out); have hn270_2 : ad270.block ≠ gb266 := Nat.ne_of_lt (Nat.lt_of_lt_of_le (by have := World.block_lt_of_cell? _ _ hx270_0; first | rwa [add_block] at this | exact this) GW266.out); replace hx270_0 := (HB.out.cell (World.block_lt_of_cell? w _ hx270_0)).trans hx270_0; replace hx270_1 := (HB.out.cell (World.block_lt_of_cell? w _ hx270_1)).trans hx270_1; replace hx270_2 := (HB.out.cell (World.block_lt_of_cell? w _ hx270_2)).trans hx270_2; replace hx270_0 := (cell_far (p := ⟨gb266, 0, none⟩) (by first | (rw [add_block]; exact hn270_0) | (show (Addr.add _ _).block ≠ _; rw [add_block]; exact hn270_0) | exact hn270_0) (.int .i64 ((rd_T38 l1 x10_1).f0))).trans hx270_0; replace hx270_1 := (cell_far (p := ⟨gb266, 0, none⟩) (by first | (rw [add_block]; exact hn270_0) | (show (Addr.add _ _).block ≠ _; rw [add_block]; exact hn270_0) | exact hn270_0) (.int .i64 ((rd_T38 l1 x10_1).f0))).trans hx270_1; replace hx270_2 := (cell_far (p := ⟨gb266, 0, none⟩) (by first | (rw [add_block]; exact hn270_0) | (show (Addr.add _ _).block ≠ _; rw [add_block]; exact hn270_0) | exact hn270_0) (.int .i64 ((rd_T38 l1 x10_1).f0))).trans hx270_2; replace hx270_0 := (cell_far (p := ⟨gb266, 1, none⟩) (by first | (rw [add_block]; exact hn270_1) | (show (Addr.add _ _).block ≠ _; rw [add_block]; exact hn270_1) | exact hn270_1) (.int .i64 ((rd_T38 l1 x10_1).f1))).trans hx270_0; replace hx270_1 := (cell_far (p := ⟨gb266, 1, none⟩) (by first | (rw [add_block]; exact hn270_1) | (show (Addr.add _ _).block ≠ _; rw [add_block]; exact hn270_1) | exact hn270_1) (.int .i64 ((rd_T38 l1 x10_1).f1))).trans hx270_1; replace hx270_2 := (cell_far (p := ⟨gb266, 1, none⟩) (by first | (rw [add_block]; exact hn270_1) | (show (Addr.add _ _).block ≠ _; rw [add_block]; exact hn270_1) | exact hn270_1) (.int .i64 ((rd_T38 l1 x10_1).f1))).trans hx270_2; replace hx270_0 := (cell_far (p := ⟨gb266, 2, none⟩) (by first | (rw [add_block]; exact hn270_2) | (show (Addr.add _ _).block ≠ _; rw [add_block]; exact hn270_2) | exact hn270_2) (.int .i64 ((rd_T38 l1 x10_1).f2))).trans hx270_0; replace hx270_1 := (cell_far (p := ⟨gb266, 2, none⟩) (by first | (rw [add_block]; exact hn270_2) | (show (Addr.add _ _).block ≠ _; rw [add_block]; exact hn270_2) | exact hn270_2) (.int .i64 ((rd_T38 l1 x10_1).f2))).trans hx270_1; replace hx270_2 := (cell_far (p := ⟨gb266, 2, none⟩) (by first | (rw [add_block]; exact hn270_2) | (show (Addr.add _ _).block ≠ _; rw [add_block]; exact hn270_2) | exact hn270_2) (.int .i64 ((rd_T38 l1 x10_1).f2))).trans hx270_2; (try have hy270_0 := fun (n_ : Nat) => (show (((((w14.drewN n_).setCell ⟨gb266, 0, none⟩ (.int .i64 ((rd_T38 l1 x10_1).f0))).setCell ⟨gb266, 1, none⟩ (.int .i64 ((rd_T38 l1 x10_1).f1))).setCell ⟨gb266, 2, none⟩ (.int .i64 ((rd_T38 l1 x10_1).f2)))).cell? _ = some _ from hx270_0)); (try have hy270_1 := fun (n_ : Nat) => (show (((((w14.drewN n_).setCell ⟨gb266, 0, none⟩ (.int .i64 ((rd_T38 l1 x10_1).f0))).setCell ⟨gb266, 1, none⟩ (.int .i64 ((rd_T38 l1 x10_1).f1))).setCell ⟨gb266, 2, none⟩ (.int .i64 ((rd_T38 l1 x10_1).f2)))).cell? _ = some _ from hx270_1)); (try have hy270_2 := fun (n_ : Nat) => (show (((((w14.drewN n_).setCell ⟨gb266, 0, none⟩ (.int .i64 ((rd_T38 l1 x10_1).f0))).setCell ⟨gb266, 1, none⟩ (.int .i64 ((rd_T38 l1 x10_1).f1))).setCell ⟨gb266, 2, none⟩ (.int .i64 ((rd_T38 l1 x10_1).f2)))).cell? _ = some _ from hx270_2)); clear hn270_0; clear hn270_1; clear hn270_2; replace p270 := eq_true p270; replace q270 := eq_true q270) | ((with_reducible refine gate_builtin (b := .append) (xs := #[.tmp 27, .tmp 31]) rfl ?_); at_builtin; refine Kd.R_append k48 (w0 := w) w.heap.size rfl (.tmp 27) (.tmp 31) 39 48 (.agg #[(.int .i64 0), (.int .i64 0), (.int .i64 0), (.int .i64 0)]) 32 rfl Try.underlying39 info48 rfl (by decide) (by omega) u5 x5_1 (⟨x10_1, (⟨(rd_T38 l1 x10_1).f0, (rd_T38 l1 x10_1).f1, (rd_T38 l1 x10_1).f2⟩ : S38)⟩ : S48) [.int .i64 x10_1, .int .i64 ((rd_T38 l1 x10_1).f0), .int .i64 ((rd_T38 l1 x10_1).f1), .int .i64 ((rd_T38 l1 x10_1).f2)] (fun _ => True) (fun _ => False) rfl (by first | (go_simp; done) | (go_simp; rfl)) ?aP (fun _ hk => hk.elim) ?aF ?aO ?aB ?aS ?aL ?_; (case aP => exact k48_mkM _ _ _ (⟨x10_1, (⟨(rd_T38 l1 x10_1).f0, (rd_T38 l1 x10_1).f1, (rd_T38 l1 x10_1).f2⟩ : S38)⟩ : S48)); (case aB => exact (by repeat (first | (with_reducible first | exact HB.out | apply below_alloc | apply pw_below_drewN | apply below_drew1 | refine below_set ?_ GE266.out) | exact HB.out))); (case aF => exact (fun _ _ => trivial)); (case aO => exact (by (with_reducible repeat (first | apply Kd.R_alloc | apply Kd.R_drewN | apply Kd.R_drew)); exact Kd.R_mono (Kd.R_far (p := ⟨gb266, 2, none⟩) (Kd.R_far (p := ⟨gb266, 1, none⟩) (Kd.R_far (p := ⟨gb266, 0, none⟩) (Kd.R_types HO_5.out BK266.out (by decide)) (fun _ hk => hk.2) (.int .i64 ((rd_T38 l1 x10_1).f0))) (fun _ hk => hk.2) (.int .i64 ((rd_T38 l1 x10_1).f1))) (fun _ hk => hk.2) (.int .i64 ((rd_T38 l1 x10_1).f2))) (fun _ hk => trivial))); (case aS => exact (below_size (by repeat (first | (with_reducible first | exact HB.out | apply below_alloc | apply pw_below_drewN | apply below_drew1 | refine below_set ?_ GE266.out) | exact HB.out)))); (case aL => have := LMc13.out; omega); intro v272 w16 ho hb hg hat; rw [← Ny271.out] at ho; have n0_ := Aside0.mk (blk_grown (g := gb266) (o := .cells #[.int .i64 ((rd_T38 l1 x10_1).f0), .int .i64 ((rd_T38 l1 x10_1).f1), .int .i64 ((rd_T38 l1 x10_1).f2)] 38 (0, 0)) (by (with_reducible repeat (first | refine blk_drewN ?_ _ | refine blk_drew ?_ | refine blk_alloc ?_ _)); refine blk_put (cs := #[.int .i64 ((rd_T38 l1 x10_1).f0), .int .i64 ((rd_T38 l1 x10_1).f1), .int .i64 0]) ?_ 2 _ rfl; (with_reducible repeat (first | refine blk_drewN ?_ _ | refine blk_drew ?_ | refine blk_alloc ?_ _)); refine blk_put (cs := #[.int .i64 ((rd_T38 l1 x10_1).f0), .int .i64 0, .int .i64 0]) ?_ 1 _ rfl; (with_reducible repeat (first | refine blk_drewN ?_ _ | refine blk_drew ?_ | refine blk_alloc ?_ _)); refine blk_put (cs := #[.int .i64 0, .int .i64 0, .int .i64 0]) ?_ 0 _ rfl; (with_reducible repeat (first | refine blk_drewN ?_ _ | refine blk_drew ?_ | refine blk_alloc ?_ _)); exact BK266.out) hg (Kd.R_ne HO_5.out BK266.out (by decide))); have n1_ := Aside0.mk (hb); have n2_ := Aside0.mk (ho); clear BK266; clear HB; clear HO_5; have BK266 := n0_; have HB := n1_; have HO273 := n2_; clear n0_ n1_ n2_; clear ho hb hg hat))
                    repeat (go_quiet (first | ((with_reducible refine gate_dst (N := 7) rfl ?_); refine box_event ?hg (N := 7) ?hd (cs := #[.int .i64 0, .int .i64 0, .int .i64 0]) (t := 38) ?hr ?_; (case hd => rfl); (case hg => rfl); (case hr => first | (go_simp; done) | (go_simp; rfl)); intro gb266 hg w14 hbox hb; have n0_ := Aside0.mk (Kd.R_below (by (with_reducible repeat (first | apply Kd.R_alloc | apply Kd.R_drewN | apply Kd.R_drew)); exact HO_5.out) hb); have n1_ := Aside0.mk (below_step (by repeat (first | (with_reducible first | exact HB.out | apply below_alloc | apply pw_below_drewN | apply below_drew1) | exact HB.out)) hb); have n2_ := Aside0.mk (hbox); have n3_ := Aside0.mk ((by rw [hg]; exact (below_size (by repeat (first | (with_reducible first | exact HB.out | apply below_alloc | apply pw_below_drewN | apply below_drew1) | exact HB.out))) : w.heap.size ≤ gb266)); have n4_ := Aside0.mk ((by rw [hg]; exact (below_size (by repeat (first | (with_reducible first | exact HB.out | apply below_alloc | apply pw_below_drewN | apply below_drew1) | exact HB.out))) : w.heap.size ≤ gb266)); clear HO_5; clear HB; have HO_5 := n0_; have HB := n1_; have BK266 := n2_; have GW266 := n3_; have GE266 := n4_; clear n0_ n1_ n2_ n3_ n4_; clear hb hbox hg; have hcz15_0 : w14.cell? ⟨gb266, 0, none⟩ = some (.int .i64 0) := (blk_cell BK266.out 0).trans rfl; have hcz15_1 : w14.cell? ⟨gb266, 1, none⟩ = some (.int .i64 0) := (blk_cell BK266.out 1).trans rfl; have hcz15_2 : w14.cell? ⟨gb266, 2, none⟩ = some (.int .i64 0) := (blk_cell BK266.out 2).trans rfl; have hfz15_0 := blk_frozen BK266.out 0; have hfz15_1 := blk_frozen BK266.out 1; have hfz15_2 := blk_frozen BK266.out 2; have p270 : 0 ≤ (x10_1 : Int) := of_decide_eq_true (by first | (with_reducible assumption) | assumption); have q270 : x10_1 < (l0.length : Int) := of_decide_eq_true (by first | (with_reducible assumption) | assumption); obtain ⟨ad270, e270, hx270_0, hx270_1, hx270_2⟩ := at_T38 HR0.out x10_1 p270 q270; cases e270; have hn270_0 : ad270.block ≠ gb266 := Nat.ne_of_lt (Nat.lt_of_lt_of_le (by have := World.block_lt_of_cell? _ _ hx270_0; first | rwa [add_block] at this | exact this) GW266.out); have hn270_1 : ad270.block ≠ gb266 := Nat.ne_of_lt (Nat.lt_of_lt_of_le (by have := World.block_lt_of_cell? _ _ hx270_0; first | rwa [add_block] at this | exact this) GW266.out); have hn270_2 : ad270.block ≠ gb266 := Nat.ne_of_lt (Nat.lt_of_lt_of_le (by have := World.block_lt_of_cell? _ _ hx270_0; first | rwa [add_block] at this | exact this) GW266.out); replace hx270_0 := (HB.out.cell (World.block_lt_of_cell? w _ hx270_0)).trans hx270_0; replace hx270_1 := (HB.out.cell (World.block_lt_of_cell? w _ hx270_1)).trans hx270_1; replace hx270_2 := (HB.out.cell (World.block_lt_of_cell? w _ hx270_2)).trans hx270_2; replace hx270_0 := (cell_far (p := ⟨gb266, 0, none⟩) (by first | (rw [add_block]; exact hn270_0) | (show (Addr.add _ _).block ≠ _; rw [add_block]; exact hn270_0) | exact hn270_0) (.int .i64 ((rd_T38 l1 x10_1).f0))).trans hx270_0; replace hx270_1 := (cell_far (p := ⟨gb266, 0, none⟩) (by first | (rw [add_block]; exact hn270_0) | (show (Addr.add _ _).block ≠ _; rw [add_block]; exact hn270_0) | exact hn270_0) (.int .i64 ((rd_T38 l1 x10_1).f0))).trans hx270_1; replace hx270_2 := (cell_far (p := ⟨gb266, 0, none⟩) (by first | (rw [add_block]; exact hn270_0) | (show (Addr.add _ _).block ≠ _; rw [add_block]; exact hn270_0) | exact hn270_0) (.int .i64 ((rd_T38 l1 x10_1).f0))).trans hx270_2; replace hx270_0 := (cell_far (p := ⟨gb266, 1, none⟩) (by first | (rw [add_block]; exact hn270_1) | (show (Addr.add _ _).block ≠ _; rw [add_block]; exact hn270_1) | exact hn270_1) (.int .i64 ((rd_T38 l1 x10_1).f1))).trans hx270_0; replace hx270_1 := (cell_far (p := ⟨gb266, 1, none⟩) (by first | (rw [add_block]; exact hn270_1) | (show (Addr.add _ _).block ≠ _; rw [add_block]; exact hn270_1) | exact hn270_1) (.int .i64 ((rd_T38 l1 x10_1).f1))).trans hx270_1; replace hx270_2 := (cell_far (p := ⟨gb266, 1, none⟩) (by first | (rw [add_block]; exact hn270_1) | (show (Addr.add _ _).block ≠ _; rw [add_block]; exact hn270_1) | exact hn270_1) (.int .i64 ((rd_T38 l1 x10_1).f1))).trans hx270_2; replace hx270_0 := (cell_far (p := ⟨gb266, 2, none⟩) (by first | (rw [add_block]; exact hn270_2) | (show (Addr.add _ _).block ≠ _; rw [add_block]; exact hn270_2) | exact hn270_2) (.int .i64 ((rd_T38 l1 x10_1).f2))).trans hx270_0; replace hx270_1 := (cell_far (p := ⟨gb266, 2, none⟩) (by first | (rw [add_block]; exact hn270_2) | (show (Addr.add _ _).block ≠ _; rw [add_block]; exact hn270_2) | exact hn270_2) (.int .i64 ((rd_T38 l1 x10_1).f2))).trans hx270_1; replace hx270_2 := (cell_far (p := ⟨gb266, 2, none⟩) (by first | (rw [add_block]; exact hn270_2) | (show (Addr.add _ _).block ≠ _; rw [add_block]; exact hn270_2) | exact hn270_2) (.int .i64 ((rd_T38 l1 x10_1).f2))).trans hx270_2; (try have hy270_0 := fun (n_ : Nat) => (show (((((w14.drewN n_).setCell ⟨gb266, 0, none⟩ (.int .i64 ((rd_T38 l1 x10_1).f0))).setCell ⟨gb266, 1, none⟩ (.int .i64 ((rd_T38 l1 x10_1).f1))).setCell ⟨gb266, 2, none⟩ (.int .i64 ((rd_T38 l1 x10_1).f2)))).cell? _ = some _ from hx270_0)); (try have hy270_1 := fun (n_ : Nat) => (show (((((w14.drewN n_).setCell ⟨gb266, 0, none⟩ (.int .i64 ((rd_T38 l1 x10_1).f0))).setCell ⟨gb266, 1, none⟩ (.int .i64 ((rd_T38 l1 x10_1).f1))).setCell ⟨gb266, 2, none⟩ (.int .i64 ((rd_T38 l1 x10_1).f2)))).cell? _ = some _ from hx270_1)); (try have hy270_2 := fun (n_ : Nat) => (show (((((w14.drewN n_).setCell ⟨gb266, 0, none⟩ (.int .i64 ((rd_T38 l1 x10_1).f0))).setCell ⟨gb266, 1, none⟩ (.int .i64 ((rd_T38 l1 x10_1).f1))).setCell ⟨gb266, 2, none⟩ (.int .i64 ((rd_T38 l1 x10_1).f2)))).cell? _ = some _ from hx270_2)); clear hn270_0; clear hn270_1; clear hn270_2; replace p270 := eq_true p270; replace q270 := eq_true q270) | ((with_reducible refine gate_builtin (b := .append) (xs := #[.tmp 27, .tmp 31]) rfl ?_); at_builtin; refine Kd.R_append k48 (w0 := w) w.heap.size rfl (.tmp 27) (.tmp 31) 39 48 (.agg #[(.int .i64 0), (.int .i64 0), (.int .i64 0), (.int .i64 0)]) 32 rfl Try.underlying39 info48 rfl (by decide) (by omega) u5 x5_1 (⟨x10_1, (⟨(rd_T38 l1 x10_1).f0, (rd_T38 l1 x10_1).f1, (rd_T38 l1 x10_1).f2⟩ : S38)⟩ : S48) [.int .i64 x10_1, .int .i64 ((rd_T38 l1 x10_1).f0), .int .i64 ((rd_T38 l1 x10_1).f1), .int .i64 ((rd_T38 l1 x10_1).f2)] (fun _ => True) (fun _ => False) rfl (by first | (go_simp; done) | (go_simp; rfl)) ?aP (fun _ hk => hk.elim) ?aF ?aO ?aB ?aS ?aL ?_; (case aP => exact k48_mkM _ _ _ (⟨x10_1, (⟨(rd_T38 l1 x10_1).f0, (rd_T38 l1 x10_1).f1, (rd_T38 l1 x10_1).f2⟩ : S38)⟩ : S48)); (case aB => exact (by repeat (first | (with_reducible first | exact HB.out | apply below_alloc | apply pw_below_drewN | apply below_drew1 | refine below_set ?_ GE266.out) | exact HB.out))); (case aF => exact (fun _ _ => trivial)); (case aO => exact (by (with_reducible repeat (first | apply Kd.R_alloc | apply Kd.R_drewN | apply Kd.R_drew)); exact Kd.R_mono (Kd.R_far (p := ⟨gb266, 2, none⟩) (Kd.R_far (p := ⟨gb266, 1, none⟩) (Kd.R_far (p := ⟨gb266, 0, none⟩) (Kd.R_types HO_5.out BK266.out (by decide)) (fun _ hk => hk.2) (.int .i64 ((rd_T38 l1 x10_1).f0))) (fun _ hk => hk.2) (.int .i64 ((rd_T38 l1 x10_1).f1))) (fun _ hk => hk.2) (.int .i64 ((rd_T38 l1 x10_1).f2))) (fun _ hk => trivial))); (case aS => exact (below_size (by repeat (first | (with_reducible first | exact HB.out | apply below_alloc | apply pw_below_drewN | apply below_drew1 | refine below_set ?_ GE266.out) | exact HB.out)))); (case aL => have := LMc13.out; omega); intro v272 w16 ho hb hg hat; rw [← Ny271.out] at ho; have n0_ := Aside0.mk (blk_grown (g := gb266) (o := .cells #[.int .i64 ((rd_T38 l1 x10_1).f0), .int .i64 ((rd_T38 l1 x10_1).f1), .int .i64 ((rd_T38 l1 x10_1).f2)] 38 (0, 0)) (by (with_reducible repeat (first | refine blk_drewN ?_ _ | refine blk_drew ?_ | refine blk_alloc ?_ _)); refine blk_put (cs := #[.int .i64 ((rd_T38 l1 x10_1).f0), .int .i64 ((rd_T38 l1 x10_1).f1), .int .i64 0]) ?_ 2 _ rfl; (with_reducible repeat (first | refine blk_drewN ?_ _ | refine blk_drew ?_ | refine blk_alloc ?_ _)); refine blk_put (cs := #[.int .i64 ((rd_T38 l1 x10_1).f0), .int .i64 0, .int .i64 0]) ?_ 1 _ rfl; (with_reducible repeat (first | refine blk_drewN ?_ _ | refine blk_drew ?_ | refine blk_alloc ?_ _)); refine blk_put (cs := #[.int .i64 0, .int .i64 0, .int .i64 0]) ?_ 0 _ rfl; (with_reducible repeat (first | refine blk_drewN ?_ _ | refine blk_drew ?_ | refine blk_alloc ?_ _)); exact BK266.out) hg (Kd.R_ne HO_5.out BK266.out (by decide))); have n1_ := Aside0.mk (hb); have n2_ := Aside0.mk (ho); clear BK266; clear HB; clear HO_5; have BK266 := n0_; have HB := n1_; have HO273 := n2_; clear n0_ n1_ n2_; clear ho hb hg hat)); try go_wp2_with (first | ((with_reducible refine gate_dst (N := 7) rfl ?_); refine box_event ?hg (N := 7) ?hd (cs := #[.int .i64 0, .int .i64 0, .int .i64 0]) (t := 38) ?hr ?_; (case hd => rfl); (case hg => rfl); (case hr => first | (go_simp; done) | (go_simp; rfl)); intro gb266 hg w14 hbox hb; have n0_ := Aside0.mk (Kd.R_below (by (with_reducible repeat (first | apply Kd.R_alloc | apply Kd.R_drewN | apply Kd.R_drew)); exact HO_5.out) hb); have n1_ := Aside0.mk (below_step (by repeat (first | (with_reducible first | exact HB.out | apply below_alloc | apply pw_below_drewN | apply below_drew1) | exact HB.out)) hb); have n2_ := Aside0.mk (hbox); have n3_ := Aside0.mk ((by rw [hg]; exact (below_size (by repeat (first | (with_reducible first | exact HB.out | apply below_alloc | apply pw_below_drewN | apply below_drew1) | exact HB.out))) : w.heap.size ≤ gb266)); have n4_ := Aside0.mk ((by rw [hg]; exact (below_size (by repeat (first | (with_reducible first | exact HB.out | apply below_alloc | apply pw_below_drewN | apply below_drew1) | exact HB.out))) : w.heap.size ≤ gb266)); clear HO_5; clear HB; have HO_5 := n0_; have HB := n1_; have BK266 := n2_; have GW266 := n3_; have GE266 := n4_; clear n0_ n1_ n2_ n3_ n4_; clear hb hbox hg; have hcz15_0 : w14.cell? ⟨gb266, 0, none⟩ = some (.int .i64 0) := (blk_cell BK266.out 0).trans rfl; have hcz15_1 : w14.cell? ⟨gb266, 1, none⟩ = some (.int .i64 0) := (blk_cell BK266.out 1).trans rfl; have hcz15_2 : w14.cell? ⟨gb266, 2, none⟩ = some (.int .i64 0) := (blk_cell BK266.out 2).trans rfl; have hfz15_0 := blk_frozen BK266.out 0; have hfz15_1 := blk_frozen BK266.out 1; have hfz15_2 := blk_frozen BK266.out 2; have p270 : 0 ≤ (x10_1 : Int) := of_decide_eq_true (by first | (with_reducible assumption) | assumption); have q270 : x10_1 < (l0.length : Int) := of_decide_eq_true (by first | (with_reducible assumption) | assumption); obtain ⟨ad270, e270, hx270_0, hx270_1, hx270_2⟩ := at_T38 HR0.out x10_1 p270 q270; cases e270; have hn270_0 : ad270.block ≠ gb266 := Nat.ne_of_lt (Nat.lt_of_lt_of_le (by have := World.block_lt_of_cell? _ _ hx270_0; first | rwa [add_block] at this | exact this) GW266.out); have hn270_1 : ad270.block ≠ gb266 := Nat.ne_of_lt (Nat.lt_of_lt_of_le (by have := World.block_lt_of_cell? _ _ hx270_0; first | rwa [add_block] at this | exact this) GW266.out); have hn270_2 : ad270.block ≠ gb266 := Nat.ne_of_lt (Nat.lt_of_lt_of_le (by have := World.block_lt_of_cell? _ _ hx270_0; first | rwa [add_block] at this | exact this) GW266.out); replace hx270_0 := (HB.out.cell (World.block_lt_of_cell? w _ hx270_0)).trans hx270_0; replace hx270_1 := (HB.out.cell (World.block_lt_of_cell? w _ hx270_1)).trans hx270_1; replace hx270_2 := (HB.out.cell (World.block_lt_of_cell? w _ hx270_2)).trans hx270_2; replace hx270_0 := (cell_far (p := ⟨gb266, 0, none⟩) (by first | (rw [add_block]; exact hn270_0) | (show (Addr.add _ _).block ≠ _; rw [add_block]; exact hn270_0) | exact hn270_0) (.int .i64 ((rd_T38 l1 x10_1).f0))).trans hx270_0; replace hx270_1 := (cell_far (p := ⟨gb266, 0, none⟩) (by first | (rw [add_block]; exact hn270_0) | (show (Addr.add _ _).block ≠ _; rw [add_block]; exact hn270_0) | exact hn270_0) (.int .i64 ((rd_T38 l1 x10_1).f0))).trans hx270_1; replace hx270_2 := (cell_far (p := ⟨gb266, 0, none⟩) (by first | (rw [add_block]; exact hn270_0) | (show (Addr.add _ _).block ≠ _; rw [add_block]; exact hn270_0) | exact hn270_0) (.int .i64 ((rd_T38 l1 x10_1).f0))).trans hx270_2; replace hx270_0 := (cell_far (p := ⟨gb266, 1, none⟩) (by first | (rw [add_block]; exact hn270_1) | (show (Addr.add _ _).block ≠ _; rw [add_block]; exact hn270_1) | exact hn270_1) (.int .i64 ((rd_T38 l1 x10_1).f1))).trans hx270_0; replace hx270_1 := (cell_far (p := ⟨gb266, 1, none⟩) (by first | (rw [add_block]; exact hn270_1) | (show (Addr.add _ _).block ≠ _; rw [add_block]; exact hn270_1) | exact hn270_1) (.int .i64 ((rd_T38 l1 x10_1).f1))).trans hx270_1; replace hx270_2 := (cell_far (p := ⟨gb266, 1, none⟩) (by first | (rw [add_block]; exact hn270_1) | (show (Addr.add _ _).block ≠ _; rw [add_block]; exact hn270_1) | exact hn270_1) (.int .i64 ((rd_T38 l1 x10_1).f1))).trans hx270_2; replace hx270_0 := (cell_far (p := ⟨gb266, 2, none⟩) (by first | (rw [add_block]; exact hn270_2) | (show (Addr.add _ _).block ≠ _; rw [add_block]; exact hn270_2) | exact hn270_2) (.int .i64 ((rd_T38 l1 x10_1).f2))).trans hx270_0; replace hx270_1 := (cell_far (p := ⟨gb266, 2, none⟩) (by first | (rw [add_block]; exact hn270_2) | (show (Addr.add _ _).block ≠ _; rw [add_block]; exact hn270_2) | exact hn270_2) (.int .i64 ((rd_T38 l1 x10_1).f2))).trans hx270_1; replace hx270_2 := (cell_far (p := ⟨gb266, 2, none⟩) (by first | (rw [add_block]; exact hn270_2) | (show (Addr.add _ _).block ≠ _; rw [add_block]; exact hn270_2) | exact hn270_2) (.int .i64 ((rd_T38 l1 x10_1).f2))).trans hx270_2; (try have hy270_0 := fun (n_ : Nat) => (show (((((w14.drewN n_).setCell ⟨gb266, 0, none⟩ (.int .i64 ((rd_T38 l1 x10_1).f0))).setCell ⟨gb266, 1, none⟩ (.int .i64 ((rd_T38 l1 x10_1).f1))).setCell ⟨gb266, 2, none⟩ (.int .i64 ((rd_T38 l1 x10_1).f2)))).cell? _ = some _ from hx270_0)); (try have hy270_1 := fun (n_ : Nat) => (show (((((w14.drewN n_).setCell ⟨gb266, 0, none⟩ (.int .i64 ((rd_T38 l1 x10_1).f0))).setCell ⟨gb266, 1, none⟩ (.int .i64 ((rd_T38 l1 x10_1).f1))).setCell ⟨gb266, 2, none⟩ (.int .i64 ((rd_T38 l1 x10_1).f2)))).cell? _ = some _ from hx270_1)); (try have hy270_2 := fun (n_ : Nat) => (show (((((w14.drewN n_).setCell ⟨gb266, 0, none⟩ (.int .i64 ((rd_T38 l1 x10_1).f0))).setCell ⟨gb266, 1, none⟩ (.int .i64 ((rd_T38 l1 x10_1).f1))).setCell ⟨gb266, 2, none⟩ (.int .i64 ((rd_T38 l1 x10_1).f2)))).cell? _ = some _ from hx270_2)); clear hn270_0; clear hn270_1; clear hn270_2; replace p270 := eq_true p270; replace q270 := eq_true q270) | ((with_reducible refine gate_builtin (b := .append) (xs := #[.tmp 27, .tmp 31]) rfl ?_); at_builtin; refine Kd.R_append k48 (w0 := w) w.heap.size rfl (.tmp 27) (.tmp 31) 39 48 (.agg #[(.int .i64 0), (.int .i64 0), (.int .i64 0), (.int .i64 0)]) 32 rfl Try.underlying39 info48 rfl (by decide) (by omega) u5 x5_1 (⟨x10_1, (⟨(rd_T38 l1 x10_1).f0, (rd_T38 l1 x10_1).f1, (rd_T38 l1 x10_1).f2⟩ : S38)⟩ : S48) [.int .i64 x10_1, .int .i64 ((rd_T38 l1 x10_1).f0), .int .i64 ((rd_T38 l1 x10_1).f1), .int .i64 ((rd_T38 l1 x10_1).f2)] (fun _ => True) (fun _ => False) rfl (by first | (go_simp; done) | (go_simp; rfl)) ?aP (fun _ hk => hk.elim) ?aF ?aO ?aB ?aS ?aL ?_; (case aP => exact k48_mkM _ _ _ (⟨x10_1, (⟨(rd_T38 l1 x10_1).f0, (rd_T38 l1 x10_1).f1, (rd_T38 l1 x10_1).f2⟩ : S38)⟩ : S48)); (case aB => exact (by repeat (first | (with_reducible first | exact HB.out | apply below_alloc | apply pw_below_drewN | apply below_drew1 | refine below_set ?_ GE266.out) | exact HB.out))); (case aF => exact (fun _ _ => trivial)); (case aO => exact (by (with_reducible repeat (first | apply Kd.R_alloc | apply Kd.R_drewN | apply Kd.R_drew)); exact Kd.R_mono (Kd.R_far (p := ⟨gb266, 2, none⟩) (Kd.R_far (p := ⟨gb266, 1, none⟩) (Kd.R_far (p := ⟨gb266, 0, none⟩) (Kd.R_types HO_5.out BK266.out (by decide)) (fun _ hk => hk.2) (.int .i64 ((rd_T38 l1 x10_1).f0))) (fun _ hk => hk.2) (.int .i64 ((rd_T38 l1 x10_1).f1))) (fun _ hk => hk.2) (.int .i64 ((rd_T38 l1 x10_1).f2))) (fun _ hk => trivial))); (case aS => exact (below_size (by repeat (first | (with_reducible first | exact HB.out | apply below_alloc | apply pw_below_drewN | apply below_drew1 | refine below_set ?_ GE266.out) | exact HB.out)))); (case aL => have := LMc13.out; omega); intro v272 w16 ho hb hg hat; rw [← Ny271.out] at ho; have n0_ := Aside0.mk (blk_grown (g := gb266) (o := .cells #[.int .i64 ((rd_T38 l1 x10_1).f0), .int .i64 ((rd_T38 l1 x10_1).f1), .int .i64 ((rd_T38 l1 x10_1).f2)] 38 (0, 0)) (by (with_reducible repeat (first | refine blk_drewN ?_ _ | refine blk_drew ?_ | refine blk_alloc ?_ _)); refine blk_put (cs := #[.int .i64 ((rd_T38 l1 x10_1).f0), .int .i64 ((rd_T38 l1 x10_1).f1), .int .i64 0]) ?_ 2 _ rfl; (with_reducible repeat (first | refine blk_drewN ?_ _ | refine blk_drew ?_ | refine blk_alloc ?_ _)); refine blk_put (cs := #[.int .i64 ((rd_T38 l1 x10_1).f0), .int .i64 0, .int .i64 0]) ?_ 1 _ rfl; (with_reducible repeat (first | refine blk_drewN ?_ _ | refine blk_drew ?_ | refine blk_alloc ?_ _)); refine blk_put (cs := #[.int .i64 0, .int .i64 0, .int .i64 0]) ?_ 0 _ rfl; (with_reducible repeat (first | refine blk_drewN ?_ _ | refine blk_drew ?_ | refine blk_alloc ?_ _)); exact BK266.out) hg (Kd.R_ne HO_5.out BK266.out (by decide))); have n1_ := Aside0.mk (hb); have n2_ := Aside0.mk (ho); clear BK266; clear HB; clear HO_5; have BK266 := n0_; have HB := n1_; have HO273 := n2_; clear n0_ n1_ n2_; clear ho hb hg hat)))
                    go_roundg k1
                    case measure => have := HK1.out; omega
                    case rel => exact ⟨(y271), (wrap64 (x10_1 + 1)), (by first | rfl | (simp; done) | (simp [*]; done)), H', ⟨by have := HK1.out; omega⟩, ⟨by (with_reducible repeat (first | apply Kd.R_alloc | apply Kd.R_drewN | apply Kd.R_drew)); exact HO273.out⟩, ⟨by repeat (first | (with_reducible first | exact HB.out | apply below_alloc | apply pw_below_drewN | apply below_drew1 | refine below_set ?_ GE266.out) | exact HB.out)⟩⟩
                  · rw [if_neg c13] at H
                    exact absurd H (by simp)
                · rw [if_neg c12] at H
                  have c12b0 : (!(((rd_T38 l0 x10_1).f0) == ((rd_T38 l1 x10_1).f0)) || (!(((rd_T38 l0 x10_1).f1) == ((rd_T38 l1 x10_1).f1)) || (!(((rd_T38 l0 x10_1).f2) == ((rd_T38 l1 x10_1).f2))))) = false := by simpa using c12
                  clear c12
                  have H' := Aside0.mk H
                  clear H
                  have p265 : 0 ≤ (x10_1 : Int) := of_decide_eq_true (by first | (with_reducible assumption) | assumption)
                  have q265 : x10_1 < (l1.length : Int) := of_decide_eq_true (by first | (with_reducible assumption) | assumption)
                  obtain ⟨ad265, e265, hx265_0, hx265_1, hx265_2⟩ := at_T38 HR1.out x10_1 p265 q265
                  cases e265
                  replace hx265_0 := (HB.out.cell (World.block_lt_of_cell? w _ hx265_0)).trans hx265_0
                  replace hx265_1 := (HB.out.cell (World.block_lt_of_cell? w _ hx265_1)).trans hx265_1
                  replace hx265_2 := (HB.out.cell (World.block_lt_of_cell? w _ hx265_2)).trans hx265_2
                  replace p265 := eq_true p265
                  replace q265 := eq_true q265
                  go_wp2_with (first | ((with_reducible refine gate_dst (N := 7) rfl ?_); refine box_event ?hg (N := 7) ?hd (cs := #[.int .i64 0, .int .i64 0, .int .i64 0]) (t := 38) ?hr ?_; (case hd => rfl); (case hg => rfl); (case hr => first | (go_simp; done) | (go_simp; rfl)); intro gb266 hg w17 hbox hb; have n0_ := Aside0.mk (Kd.R_below (by (with_reducible repeat (first | apply Kd.R_alloc | apply Kd.R_drewN | apply Kd.R_drew)); exact HO_5.out) hb); have n1_ := Aside0.mk (below_step (by repeat (first | (with_reducible first | exact HB.out | apply below_alloc | apply pw_below_drewN | apply below_drew1) | exact HB.out)) hb); have n2_ := Aside0.mk (hbox); have n3_ := Aside0.mk ((by rw [hg]; exact (below_size (by repeat (first | (with_reducible first | exact HB.out | apply below_alloc | apply pw_below_drewN | apply below_drew1) | exact HB.out))) : w.heap.size ≤ gb266)); have n4_ := Aside0.mk ((by rw [hg]; exact (below_size (by repeat (first | (with_reducible first | exact HB.out | apply below_alloc | apply pw_below_drewN | apply below_drew1) | exact HB.out))) : w.heap.size ≤ gb266)); clear HO_5; clear HB; have HO_5 := n0_; have HB := n1_; have BK266 := n2_; have GW266 := n3_; have GE266 := n4_; clear n0_ n1_ n2_ n3_ n4_; clear hb hbox hg; have hcz18_0 : w17.cell? ⟨gb266, 0, none⟩ = some (.int .i64 0) := (blk_cell BK266.out 0).trans rfl; have hcz18_1 : w17.cell? ⟨gb266, 1, none⟩ = some (.int .i64 0) := (blk_cell BK266.out 1).trans rfl; have hcz18_2 : w17.cell? ⟨gb266, 2, none⟩ = some (.int .i64 0) := (blk_cell BK266.out 2).trans rfl; have hfz18_0 := blk_frozen BK266.out 0; have hfz18_1 := blk_frozen BK266.out 1; have hfz18_2 := blk_frozen BK266.out 2; have p270 : 0 ≤ (x10_1 : Int) := of_decide_eq_true (by first | (with_reducible assumption) | assumption); have q270 : x10_1 < (l0.length : Int) := of_decide_eq_true (by first | (with_reducible assumption) | assumption); obtain ⟨ad270, e270, hx270_0, hx270_1, hx270_2⟩ := at_T38 HR0.out x10_1 p270 q270; cases e270; have hn270_0 : ad270.block ≠ gb266 := Nat.ne_of_lt (Nat.lt_of_lt_of_le (by have := World.block_lt_of_cell? _ _ hx270_0; first | rwa [add_block] at this | exact this) GW266.out); have hn270_1 : ad270.block ≠ gb266 := Nat.ne_of_lt (Nat.lt_of_lt_of_le (by have := World.block_lt_of_cell? _ _ hx270_0; first | rwa [add_block] at this | exact this) GW266.out); have hn270_2 : ad270.block ≠ gb266 := Nat.ne_of_lt (Nat.lt_of_lt_of_le (by have := World.block_lt_of_cell? _ _ hx270_0; first | rwa [add_block] at this | exact this) GW266.out); replace hx270_0 := (HB.out.cell (World.block_lt_of_cell? w _ hx270_0)).trans hx270_0; replace hx270_1 := (HB.out.cell (World.block_lt_of_cell? w _ hx270_1)).trans hx270_1; replace hx270_2 := (HB.out.cell (World.block_lt_of_cell? w _ hx270_2)).trans hx270_2; replace hx270_0 := (cell_far (p := ⟨gb266, 0, none⟩) (by first | (rw [add_block]; exact hn270_0) | (show (Addr.add _ _).block ≠ _; rw [add_block]; exact hn270_0) | exact hn270_0) (.int .i64 ((rd_T38 l1 x10_1).f0))).trans hx270_0; replace hx270_1 := (cell_far (p := ⟨gb266, 0, none⟩) (by first | (rw [add_block]; exact hn270_0) | (show (Addr.add _ _).block ≠ _; rw [add_block]; exact hn270_0) | exact hn270_0) (.int .i64 ((rd_T38 l1 x10_1).f0))).trans hx270_1; replace hx270_2 := (cell_far (p := ⟨gb266, 0, none⟩) (by first | (rw [add_block]; exact hn270_0) | (show (Addr.add _ _).block ≠ _; rw [add_block]; exact hn270_0) | exact hn270_0) (.int .i64 ((rd_T38 l1 x10_1).f0))).trans hx270_2; replace hx270_0 := (cell_far (p := ⟨gb266, 1, none⟩) (by first | (rw [add_block]; exact hn270_1) | (show (Addr.add _ _).block ≠ _; rw [add_block]; exact hn270_1) | exact hn270_1) (.int .i64 ((rd_T38 l1 x10_1).f1))).trans hx270_0; replace hx270_1 := (cell_far (p := ⟨gb266, 1, none⟩) (by first | (rw [add_block]; exact hn270_1) | (show (Addr.add _ _).block ≠ _; rw [add_block]; exact hn270_1) | exact hn270_1) (.int .i64 ((rd_T38 l1 x10_1).f1))).trans hx270_1; replace hx270_2 := (cell_far (p := ⟨gb266, 1, none⟩) (by first | (rw [add_block]; exact hn270_1) | (show (Addr.add _ _).block ≠ _; rw [add_block]; exact hn270_1) | exact hn270_1) (.int .i64 ((rd_T38 l1 x10_1).f1))).trans hx270_2; replace hx270_0 := (cell_far (p := ⟨gb266, 2, none⟩) (by first | (rw [add_block]; exact hn270_2) | (show (Addr.add _ _).block ≠ _; rw [add_block]; exact hn270_2) | exact hn270_2) (.int .i64 ((rd_T38 l1 x10_1).f2))).trans hx270_0; replace hx270_1 := (cell_far (p := ⟨gb266, 2, none⟩) (by first | (rw [add_block]; exact hn270_2) | (show (Addr.add _ _).block ≠ _; rw [add_block]; exact hn270_2) | exact hn270_2) (.int .i64 ((rd_T38 l1 x10_1).f2))).trans hx270_1; replace hx270_2 := (cell_far (p := ⟨gb266, 2, none⟩) (by first | (rw [add_block]; exact hn270_2) | (show (Addr.add _ _).block ≠ _; rw [add_block]; exact hn270_2) | exact hn270_2) (.int .i64 ((rd_T38 l1 x10_1).f2))).trans hx270_2; (try have hy270_0 := fun (n_ : Nat) => (show (((((w17.drewN n_).setCell ⟨gb266, 0, none⟩ (.int .i64 ((rd_T38 l1 x10_1).f0))).setCell ⟨gb266, 1, none⟩ (.int .i64 ((rd_T38 l1 x10_1).f1))).setCell ⟨gb266, 2, none⟩ (.int .i64 ((rd_T38 l1 x10_1).f2)))).cell? _ = some _ from hx270_0)); (try have hy270_1 := fun (n_ : Nat) => (show (((((w17.drewN n_).setCell ⟨gb266, 0, none⟩ (.int .i64 ((rd_T38 l1 x10_1).f0))).setCell ⟨gb266, 1, none⟩ (.int .i64 ((rd_T38 l1 x10_1).f1))).setCell ⟨gb266, 2, none⟩ (.int .i64 ((rd_T38 l1 x10_1).f2)))).cell? _ = some _ from hx270_1)); (try have hy270_2 := fun (n_ : Nat) => (show (((((w17.drewN n_).setCell ⟨gb266, 0, none⟩ (.int .i64 ((rd_T38 l1 x10_1).f0))).setCell ⟨gb266, 1, none⟩ (.int .i64 ((rd_T38 l1 x10_1).f1))).setCell ⟨gb266, 2, none⟩ (.int .i64 ((rd_T38 l1 x10_1).f2)))).cell? _ = some _ from hx270_2)); clear hn270_0; clear hn270_1; clear hn270_2; replace p270 := eq_true p270; replace q270 := eq_true q270))
                  repeat (go_quiet (first | ((with_reducible refine gate_dst (N := 7) rfl ?_); refine box_event ?hg (N := 7) ?hd (cs := #[.int .i64 0, .int .i64 0, .int .i64 0]) (t := 38) ?hr ?_; (case hd => rfl); (case hg => rfl); (case hr => first | (go_simp; done) | (go_simp; rfl)); intro gb266 hg w17 hbox hb; have n0_ := Aside0.mk (Kd.R_below (by (with_reducible repeat (first | apply Kd.R_alloc | apply Kd.R_drewN | apply Kd.R_drew)); exact HO_5.out) hb); have n1_ := Aside0.mk (below_step (by repeat (first | (with_reducible first | exact HB.out | apply below_alloc | apply pw_below_drewN | apply below_drew1) | exact HB.out)) hb); have n2_ := Aside0.mk (hbox); have n3_ := Aside0.mk ((by rw [hg]; exact (below_size (by repeat (first | (with_reducible first | exact HB.out | apply below_alloc | apply pw_below_drewN | apply below_drew1) | exact HB.out))) : w.heap.size ≤ gb266)); have n4_ := Aside0.mk ((by rw [hg]; exact (below_size (by repeat (first | (with_reducible first | exact HB.out | apply below_alloc | apply pw_below_drewN | apply below_drew1) | exact HB.out))) : w.heap.size ≤ gb266)); clear HO_5; clear HB; have HO_5 := n0_; have HB := n1_; have BK266 := n2_; have GW266 := n3_; have GE266 := n4_; clear n0_ n1_ n2_ n3_ n4_; clear hb hbox hg; have hcz18_0 : w17.cell? ⟨gb266, 0, none⟩ = some (.int .i64 0) := (blk_cell BK266.out 0).trans rfl; have hcz18_1 : w17.cell? ⟨gb266, 1, none⟩ = some (.int .i64 0) := (blk_cell BK266.out 1).trans rfl; have hcz18_2 : w17.cell? ⟨gb266, 2, none⟩ = some (.int .i64 0) := (blk_cell BK266.out 2).trans rfl; have hfz18_0 := blk_frozen BK266.out 0; have hfz18_1 := blk_frozen BK266.out 1; have hfz18_2 := blk_frozen BK266.out 2; have p270 : 0 ≤ (x10_1 : Int) := of_decide_eq_true (by first | (with_reducible assumption) | assumption); have q270 : x10_1 < (l0.length : Int) := of_decide_eq_true (by first | (with_reducible assumption) | assumption); obtain ⟨ad270, e270, hx270_0, hx270_1, hx270_2⟩ := at_T38 HR0.out x10_1 p270 q270; cases e270; have hn270_0 : ad270.block ≠ gb266 := Nat.ne_of_lt (Nat.lt_of_lt_of_le (by have := World.block_lt_of_cell? _ _ hx270_0; first | rwa [add_block] at this | exact this) GW266.out); have hn270_1 : ad270.block ≠ gb266 := Nat.ne_of_lt (Nat.lt_of_lt_of_le (by have := World.block_lt_of_cell? _ _ hx270_0; first | rwa [add_block] at this | exact this) GW266.out); have hn270_2 : ad270.block ≠ gb266 := Nat.ne_of_lt (Nat.lt_of_lt_of_le (by have := World.block_lt_of_cell? _ _ hx270_0; first | rwa [add_block] at this | exact this) GW266.out); replace hx270_0 := (HB.out.cell (World.block_lt_of_cell? w _ hx270_0)).trans hx270_0; replace hx270_1 := (HB.out.cell (World.block_lt_of_cell? w _ hx270_1)).trans hx270_1; replace hx270_2 := (HB.out.cell (World.block_lt_of_cell? w _ hx270_2)).trans hx270_2; replace hx270_0 := (cell_far (p := ⟨gb266, 0, none⟩) (by first | (rw [add_block]; exact hn270_0) | (show (Addr.add _ _).block ≠ _; rw [add_block]; exact hn270_0) | exact hn270_0) (.int .i64 ((rd_T38 l1 x10_1).f0))).trans hx270_0; replace hx270_1 := (cell_far (p := ⟨gb266, 0, none⟩) (by first | (rw [add_block]; exact hn270_0) | (show (Addr.add _ _).block ≠ _; rw [add_block]; exact hn270_0) | exact hn270_0) (.int .i64 ((rd_T38 l1 x10_1).f0))).trans hx270_1; replace hx270_2 := (cell_far (p := ⟨gb266, 0, none⟩) (by first | (rw [add_block]; exact hn270_0) | (show (Addr.add _ _).block ≠ _; rw [add_block]; exact hn270_0) | exact hn270_0) (.int .i64 ((rd_T38 l1 x10_1).f0))).trans hx270_2; replace hx270_0 := (cell_far (p := ⟨gb266, 1, none⟩) (by first | (rw [add_block]; exact hn270_1) | (show (Addr.add _ _).block ≠ _; rw [add_block]; exact hn270_1) | exact hn270_1) (.int .i64 ((rd_T38 l1 x10_1).f1))).trans hx270_0; replace hx270_1 := (cell_far (p := ⟨gb266, 1, none⟩) (by first | (rw [add_block]; exact hn270_1) | (show (Addr.add _ _).block ≠ _; rw [add_block]; exact hn270_1) | exact hn270_1) (.int .i64 ((rd_T38 l1 x10_1).f1))).trans hx270_1; replace hx270_2 := (cell_far (p := ⟨gb266, 1, none⟩) (by first | (rw [add_block]; exact hn270_1) | (show (Addr.add _ _).block ≠ _; rw [add_block]; exact hn270_1) | exact hn270_1) (.int .i64 ((rd_T38 l1 x10_1).f1))).trans hx270_2; replace hx270_0 := (cell_far (p := ⟨gb266, 2, none⟩) (by first | (rw [add_block]; exact hn270_2) | (show (Addr.add _ _).block ≠ _; rw [add_block]; exact hn270_2) | exact hn270_2) (.int .i64 ((rd_T38 l1 x10_1).f2))).trans hx270_0; replace hx270_1 := (cell_far (p := ⟨gb266, 2, none⟩) (by first | (rw [add_block]; exact hn270_2) | (show (Addr.add _ _).block ≠ _; rw [add_block]; exact hn270_2) | exact hn270_2) (.int .i64 ((rd_T38 l1 x10_1).f2))).trans hx270_1; replace hx270_2 := (cell_far (p := ⟨gb266, 2, none⟩) (by first | (rw [add_block]; exact hn270_2) | (show (Addr.add _ _).block ≠ _; rw [add_block]; exact hn270_2) | exact hn270_2) (.int .i64 ((rd_T38 l1 x10_1).f2))).trans hx270_2; (try have hy270_0 := fun (n_ : Nat) => (show (((((w17.drewN n_).setCell ⟨gb266, 0, none⟩ (.int .i64 ((rd_T38 l1 x10_1).f0))).setCell ⟨gb266, 1, none⟩ (.int .i64 ((rd_T38 l1 x10_1).f1))).setCell ⟨gb266, 2, none⟩ (.int .i64 ((rd_T38 l1 x10_1).f2)))).cell? _ = some _ from hx270_0)); (try have hy270_1 := fun (n_ : Nat) => (show (((((w17.drewN n_).setCell ⟨gb266, 0, none⟩ (.int .i64 ((rd_T38 l1 x10_1).f0))).setCell ⟨gb266, 1, none⟩ (.int .i64 ((rd_T38 l1 x10_1).f1))).setCell ⟨gb266, 2, none⟩ (.int .i64 ((rd_T38 l1 x10_1).f2)))).cell? _ = some _ from hx270_1)); (try have hy270_2 := fun (n_ : Nat) => (show (((((w17.drewN n_).setCell ⟨gb266, 0, none⟩ (.int .i64 ((rd_T38 l1 x10_1).f0))).setCell ⟨gb266, 1, none⟩ (.int .i64 ((rd_T38 l1 x10_1).f1))).setCell ⟨gb266, 2, none⟩ (.int .i64 ((rd_T38 l1 x10_1).f2)))).cell? _ = some _ from hx270_2)); clear hn270_0; clear hn270_1; clear hn270_2; replace p270 := eq_true p270; replace q270 := eq_true q270)); try go_wp2_with (first | ((with_reducible refine gate_dst (N := 7) rfl ?_); refine box_event ?hg (N := 7) ?hd (cs := #[.int .i64 0, .int .i64 0, .int .i64 0]) (t := 38) ?hr ?_; (case hd => rfl); (case hg => rfl); (case hr => first | (go_simp; done) | (go_simp; rfl)); intro gb266 hg w17 hbox hb; have n0_ := Aside0.mk (Kd.R_below (by (with_reducible repeat (first | apply Kd.R_alloc | apply Kd.R_drewN | apply Kd.R_drew)); exact HO_5.out) hb); have n1_ := Aside0.mk (below_step (by repeat (first | (with_reducible first | exact HB.out | apply below_alloc | apply pw_below_drewN | apply below_drew1) | exact HB.out)) hb); have n2_ := Aside0.mk (hbox); have n3_ := Aside0.mk ((by rw [hg]; exact (below_size (by repeat (first | (with_reducible first | exact HB.out | apply below_alloc | apply pw_below_drewN | apply below_drew1) | exact HB.out))) : w.heap.size ≤ gb266)); have n4_ := Aside0.mk ((by rw [hg]; exact (below_size (by repeat (first | (with_reducible first | exact HB.out | apply below_alloc | apply pw_below_drewN | apply below_drew1) | exact HB.out))) : w.heap.size ≤ gb266)); clear HO_5; clear HB; have HO_5 := n0_; have HB := n1_; have BK266 := n2_; have GW266 := n3_; have GE266 := n4_; clear n0_ n1_ n2_ n3_ n4_; clear hb hbox hg; have hcz18_0 : w17.cell? ⟨gb266, 0, none⟩ = some (.int .i64 0) := (blk_cell BK266.out 0).trans rfl; have hcz18_1 : w17.cell? ⟨gb266, 1, none⟩ = some (.int .i64 0) := (blk_cell BK266.out 1).trans rfl; have hcz18_2 : w17.cell? ⟨gb266, 2, none⟩ = some (.int .i64 0) := (blk_cell BK266.out 2).trans rfl; have hfz18_0 := blk_frozen BK266.out 0; have hfz18_1 := blk_frozen BK266.out 1; have hfz18_2 := blk_frozen BK266.out 2; have p270 : 0 ≤ (x10_1 : Int) := of_decide_eq_true (by first | (with_reducible assumption) | assumption); have q270 : x10_1 < (l0.length : Int) := of_decide_eq_true (by first | (with_reducible assumption) | assumption); obtain ⟨ad270, e270, hx270_0, hx270_1, hx270_2⟩ := at_T38 HR0.out x10_1 p270 q270; cases e270; have hn270_0 : ad270.block ≠ gb266 := Nat.ne_of_lt (Nat.lt_of_lt_of_le (by have := World.block_lt_of_cell? _ _ hx270_0; first | rwa [add_block] at this | exact this) GW266.out); have hn270_1 : ad270.block ≠ gb266 := Nat.ne_of_lt (Nat.lt_of_lt_of_le (by have := World.block_lt_of_cell? _ _ hx270_0; first | rwa [add_block] at this | exact this) GW266.out); have hn270_2 : ad270.block ≠ gb266 := Nat.ne_of_lt (Nat.lt_of_lt_of_le (by have := World.block_lt_of_cell? _ _ hx270_0; first | rwa [add_block] at this | exact this) GW266.out); replace hx270_0 := (HB.out.cell (World.block_lt_of_cell? w _ hx270_0)).trans hx270_0; replace hx270_1 := (HB.out.cell (World.block_lt_of_cell? w _ hx270_1)).trans hx270_1; replace hx270_2 := (HB.out.cell (World.block_lt_of_cell? w _ hx270_2)).trans hx270_2; replace hx270_0 := (cell_far (p := ⟨gb266, 0, none⟩) (by first | (rw [add_block]; exact hn270_0) | (show (Addr.add _ _).block ≠ _; rw [add_block]; exact hn270_0) | exact hn270_0) (.int .i64 ((rd_T38 l1 x10_1).f0))).trans hx270_0; replace hx270_1 := (cell_far (p := ⟨gb266, 0, none⟩) (by first | (rw [add_block]; exact hn270_0) | (show (Addr.add _ _).block ≠ _; rw [add_block]; exact hn270_0) | exact hn270_0) (.int .i64 ((rd_T38 l1 x10_1).f0))).trans hx270_1; replace hx270_2 := (cell_far (p := ⟨gb266, 0, none⟩) (by first | (rw [add_block]; exact hn270_0) | (show (Addr.add _ _).block ≠ _; rw [add_block]; exact hn270_0) | exact hn270_0) (.int .i64 ((rd_T38 l1 x10_1).f0))).trans hx270_2; replace hx270_0 := (cell_far (p := ⟨gb266, 1, none⟩) (by first | (rw [add_block]; exact hn270_1) | (show (Addr.add _ _).block ≠ _; rw [add_block]; exact hn270_1) | exact hn270_1) (.int .i64 ((rd_T38 l1 x10_1).f1))).trans hx270_0; replace hx270_1 := (cell_far (p := ⟨gb266, 1, none⟩) (by first | (rw [add_block]; exact hn270_1) | (show (Addr.add _ _).block ≠ _; rw [add_block]; exact hn270_1) | exact hn270_1) (.int .i64 ((rd_T38 l1 x10_1).f1))).trans hx270_1; replace hx270_2 := (cell_far (p := ⟨gb266, 1, none⟩) (by first | (rw [add_block]; exact hn270_1) | (show (Addr.add _ _).block ≠ _; rw [add_block]; exact hn270_1) | exact hn270_1) (.int .i64 ((rd_T38 l1 x10_1).f1))).trans hx270_2; replace hx270_0 := (cell_far (p := ⟨gb266, 2, none⟩) (by first | (rw [add_block]; exact hn270_2) | (show (Addr.add _ _).block ≠ _; rw [add_block]; exact hn270_2) | exact hn270_2) (.int .i64 ((rd_T38 l1 x10_1).f2))).trans hx270_0; replace hx270_1 := (cell_far (p := ⟨gb266, 2, none⟩) (by first | (rw [add_block]; exact hn270_2) | (show (Addr.add _ _).block ≠ _; rw [add_block]; exact hn270_2) | exact hn270_2) (.int .i64 ((rd_T38 l1 x10_1).f2))).trans hx270_1; replace hx270_2 := (cell_far (p := ⟨gb266, 2, none⟩) (by first | (rw [add_block]; exact hn270_2) | (show (Addr.add _ _).block ≠ _; rw [add_block]; exact hn270_2) | exact hn270_2) (.int .i64 ((rd_T38 l1 x10_1).f2))).trans hx270_2; (try have hy270_0 := fun (n_ : Nat) => (show (((((w17.drewN n_).setCell ⟨gb266, 0, none⟩ (.int .i64 ((rd_T38 l1 x10_1).f0))).setCell ⟨gb266, 1, none⟩ (.int .i64 ((rd_T38 l1 x10_1).f1))).setCell ⟨gb266, 2, none⟩ (.int .i64 ((rd_T38 l1 x10_1).f2)))).cell? _ = some _ from hx270_0)); (try have hy270_1 := fun (n_ : Nat) => (show (((((w17.drewN n_).setCell ⟨gb266, 0, none⟩ (.int .i64 ((rd_T38 l1 x10_1).f0))).setCell ⟨gb266, 1, none⟩ (.int .i64 ((rd_T38 l1 x10_1).f1))).setCell ⟨gb266, 2, none⟩ (.int .i64 ((rd_T38 l1 x10_1).f2)))).cell? _ = some _ from hx270_1)); (try have hy270_2 := fun (n_ : Nat) => (show (((((w17.drewN n_).setCell ⟨gb266, 0, none⟩ (.int .i64 ((rd_T38 l1 x10_1).f0))).setCell ⟨gb266, 1, none⟩ (.int .i64 ((rd_T38 l1 x10_1).f1))).setCell ⟨gb266, 2, none⟩ (.int .i64 ((rd_T38 l1 x10_1).f2)))).cell? _ = some _ from hx270_2)); clear hn270_0; clear hn270_1; clear hn270_2; replace p270 := eq_true p270; replace q270 := eq_true q270)))
                  go_roundg k1
                  case measure => have := HK1.out; omega
                  case rel => exact ⟨(x5_1), (wrap64 (x10_1 + 1)), (by first | rfl | (simp; done) | (simp [*]; done)), H', ⟨by have := HK1.out; omega⟩, ⟨by (with_reducible repeat (first | apply Kd.R_alloc | apply Kd.R_drewN | apply Kd.R_drew)); exact Kd.R_mono (Kd.R_far (p := ⟨gb266, 2, none⟩) (Kd.R_far (p := ⟨gb266, 1, none⟩) (Kd.R_far (p := ⟨gb266, 0, none⟩) (Kd.R_types HO_5.out BK266.out (by decide)) (fun _ hk => hk.2) (.int .i64 ((rd_T38 l1 x10_1).f0))) (fun _ hk => hk.2) (.int .i64 ((rd_T38 l1 x10_1).f1))) (fun _ hk => hk.2) (.int .i64 ((rd_T38 l1 x10_1).f2))) (fun _ hk => trivial)⟩, ⟨by repeat (first | (with_reducible first | exact HB.out | apply below_alloc | apply pw_below_drewN | apply below_drew1 | refine below_set ?_ GE266.out) | exact HB.out)⟩⟩
              · rw [if_neg c11] at H
                exact absurd H (by simp)
          · rw [if_neg c5] at H
            exact absurd H (by simp)
        · rw [if_neg c4] at H
          exact absurd H (by simp)
      · rw [if_neg c3] at H
        have c3b0 : decide (x10_1 < (l1.length : Int)) = false := decide_eq_false c3
        clear c3
        obtain rfl := Option.some.inj H
        go_wp2
        repeat (go_quiet (fail); try go_wp2)
        go_ret
        exact ⟨_, by first | rfl | (simp [errW_none, errW_some] <;> rfl) | (simp [*, errW_none, errW_some] <;> rfl), by (with_reducible repeat (first | apply Kd.R_alloc | apply Kd.R_drewN | apply Kd.R_drew)); exact HO_5.out, by repeat (first | (with_reducible first | exact HB.out | apply below_alloc | apply pw_below_drewN | apply below_drew1) | exact HB.out)⟩

end Go.Proofs.Ytnneppnjofneoaa.R
