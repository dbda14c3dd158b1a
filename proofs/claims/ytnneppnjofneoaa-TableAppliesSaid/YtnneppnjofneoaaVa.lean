import Derived.RangeFuncNested
import Derived.RangeFuncBound
import Derived.RangeFuncCalls
import Derived.RangeFuncLeaves
import Derived.RangeFuncFrom
import Derived.Shelf.Abstract
import Derived.Shelf.RegionOpen
import Derived.OwnWalkIn
import Derived.TacticsInMore
import Derived.LoopNIn
import Derived.LoopIn
import Derived.Maps.AppendAt
import Derived.RangeFuncBox
import Derived.Test.YtnneppnjofneoaaQx0
namespace Go.Proofs.Ytnneppnjofneoaa.V
open Go.RowKit Go.Shelf Go.Proofs.Ytnneppnjofneoaa.Q Go.Proofs.YtnneppnjofneoaaW.PrintWords Go.Proofs.YtnneppnjofneoaaW.PrintLast Go.Proofs.YtnneppnjofneoaaW.PrintMore
set_option linter.unusedVariables false
set_option linter.unusedSimpArgs false
attribute [local go_sem] Oper.semAt_some
section
variable {P : Program} {b : Frame} {k : List Item} {cs : List Frame}
theorem stepR_scope {a : Act} {w : World} {c : Code} : step P (lone (b.atR a (.code (.scope c) :: k)) cs w) = .next (lone (b.atR a (.code c :: .inScope c :: k)) cs w) :=
  step_lone_go (by simp [stepG, stepG.exec, Frame.atR])
theorem stepR_inScope {a : Act} {w : World} {c : Code} : step P (lone (b.atR a (.inScope c :: k)) cs w) = .next (lone (b.atR a k) cs w) :=
  step_lone_go (by simp [stepG, stepG.exec, Frame.atR])
end
/-- A scope through which the run goes without a goto, inside a fence. -/
theorem wpIn_scope_straight {F : Fence} {n : Nat} {P : Program} {Q : Exit → Act → World → Prop} {a : Act} {w : World} {c : Code}
    (h : c.wpIn F n P (Exit.noGoto Q) a w) : (Code.scope c).wpIn F n P Q a w := by
  intro b k cs hro hb hr
  have h0 : (lone (b.atR a (.code (.scope c) :: k)) cs w).fenced P F := fenced_calm hb hr rfl
  obtain ⟨e, a₁, w₁, hq, harr⟩ := h b (.inScope c :: k) cs hro hb hr
  cases e with
  | normal => exact ⟨.normal, a₁, w₁, hq, .head h0 stepR_scope (StepsIn.trans harr (.one (fenced_calm hb hr rfl) stepR_inScope))⟩
  | exit id =>
    have hx : exitTo id (.inScope c :: k) = exitTo id k := by simp [exitTo]
    exact ⟨.exit id, a₁, w₁, hq, fun k' hk => .head h0 stepR_scope (harr.1 k' (by rw [hx]; exact hk)),
        fun hr' hk => let ⟨k₁, h1, h2⟩ := harr.2 hr' (by rw [hx]; exact hk); ⟨k₁, h1, .head h0 stepR_scope h2⟩⟩
  | goto l => exact hq.elim
  | ret => exact ⟨_, a₁, w₁, hq, .of_steps (.one h0 stepR_scope) harr⟩
  | panic ch => exact ⟨_, a₁, w₁, hq, .of_steps (.one h0 stepR_scope) harr⟩
  | outgrown => exact ⟨_, a₁, w₁, hq, .of_steps (.one h0 stepR_scope) harr⟩
def free (k : Nat) (x : S38) : Bool := decide (k ≠ 0) && (decide (x.f0 = 0) && decide (x.f2 < 65535))
def vac (zs : List S38) : Nat → List Int
  | 0 => []
  | k + 1 => if free k (zs.getD k z38) then vac zs k ++ [(k : Int)] else vac zs k
theorem vac_length (zs : List S38) (k : Nat) : (vac zs k).length ≤ k := by
  induction k with
  | zero => simp [vac]
  | succ k ih =>
    simp only [vac]
    split
    · simp; omega
    · omega

theorem add_blk (a : Addr) (i : Nat) : (a.add i).block = a.block := by unfold Addr.add; split <;> rfl
set_option maxRecDepth 100000 in
set_option maxHeartbeats 4000000 in
theorem vacant1_in (F : Fence) (n : Nat) (h7 : F.fn 25) (hro : F.round = none) (hn : 1 ≤ n) (l Bs n₀ : Nat) (A : Option Addr) (cap : Nat) (zs : List S38) (hreach : zs.length ≤ 140737488351232) (hb : ∀ ad, A = some ad → zs ≠ [] → ad.block < n₀) (J Jx : List Int → World → Prop) (W : World) (hn0 : n₀ ≤ W.heap.size) (hJa : AbidesFrom W.heap.size J)
    (hY : ∀ pre x W, J pre W → pre.length < zs.length → 0 ≤ x → x < (zs.length : Int) → YieldAt F (n - 1) Try.prog l #[.int .i64 x] W fun e W' =>
      (e = .returned (.bool true) ∧ J (pre ++ [x]) W' ∧ Below n₀ W W') ∨ (e = .returned (.bool false) ∧ Jx (pre ++ [x]) W'))
    (hBs : W.cell? ⟨Bs, 0, none⟩ = some (.slice A zs.length cap)) (hc : Kd.C k38 W A zs.length zs) (h0 : J [] W) :
    CallsIn F n Try.prog 25 #[.func (.yield l) #[] #[], .pointer (some ⟨Bs, 0, none⟩)] W fun e W' => (∃ v, e = .returned v) ∧
      ((∃ ys, ys = vac zs zs.length ∧ J ys W') ∨ (∃ pre, True ∧ Jx pre W')) := by
  have hu38 := Try.underlying38
  refine callsIn_of_wp Try.func25 rfl h7 ?_ hro
  simp only [Try.ntmps25, List.size_toArray, List.length_cons, List.length_nil, Nat.reduceAdd, Nat.reduceSub, Array.replicate_succ, Array.replicate_zero, List.push_toArray, List.append_toArray, List.nil_append, List.cons_append]
  refine wpIn_scope_straight ?_
  refine wpIn_seq_k (fun K hK => ?_)
  refine wpIn_label ?_
  refine hK _ _ ?_
  clear hK K
  gi_wp2
  gi_loopw [7] (fun i wr => ∃ k : Nat, k ≤ zs.length ∧ i = .int .i64 k ∧ J (vac zs k) wr ∧ Below n₀ W wr ∧ W.heap.size ≤ wr.heap.size)
    (fun i _ => zs.length - (intOf i).toNat)
  case atStart => exact ⟨0, Nat.zero_le _, rfl, h0, Below.refl _ _, Nat.le_refl _⟩
  case round =>
    obtain ⟨k, hk, rfl, hJs, hnx, hsz⟩ := hrel
    by_cases hlt : k < zs.length
    · obtain ⟨ad', hA, hx0, hx1, hx2⟩ := at_T38 hc (k : Int) (by omega) (by omega)
      cases hA
      have hb := hb ad' rfl (by intro e; subst e; simp at hlt)
      have hrd : rd_T38 zs (k : Int) = zs.getD k z38 := by simp [rd_T38]
      rw [hrd, Int.toNat_natCast] at hx0 hx1 hx2
      have c0 := (hnx.cell (p := ad'.add (k * 3)) (by rw [add_blk]; exact hb)).trans hx0
      have c1 := (hnx.cell (p := ⟨(ad'.add (k * 3)).block, (ad'.add (k * 3)).off + 1, none⟩) (by rw [add_blk]; exact hb)).trans hx1
      have c2 := (hnx.cell (p := ⟨(ad'.add (k * 3)).block, (ad'.add (k * 3)).off + 2, none⟩) (by rw [add_blk]; exact hb)).trans hx2
      have hvac : vac zs (k + 1) = if free k (zs.getD k z38) then vac zs k ++ [(k : Int)] else vac zs k := rfl
      clear hx0 hx1 hx2 hrd
      generalize zs.getD k z38 = x at *
      obtain ⟨x0, x1, x2⟩ := x
      simp only [] at c0 c1 c2
      have hJa2 : J (vac zs k) (wr.alloc (.cells #[.int .i64 x0, .int .i64 x1, .int .i64 x2] 38)) := hJa _ _ _ none hJs (World.grownBy_alloc _ _ _) (by simp)
      have hlen := vac_length zs k
      by_cases hfr : free k ⟨x0, x1, x2⟩ = true
      · rw [if_pos hfr] at hvac
        have hf := hfr
        simp only [free, Bool.and_eq_true, decide_eq_true_eq] at hf
        obtain ⟨hk0, rfl, hx2⟩ := hf
        have hkb : ((k : Int) == 0) = false := by simp; omega
        obtain ⟨fn, tmps, assign, body, hy, hR⟩ := hY _ (k : Int) _ hJa2 (by omega) (by omega) (by omega)
        gi_wp2
        refine hR.mono ?_
        rintro e W3 (⟨rfl, hJ3, hk3⟩ | ⟨rfl, hJx3⟩)
        · gi_wp2
          go_roundw
          case rel => exact ⟨k + 1, by omega, by simp, by rw [hvac]; exact hJ3, (hnx.alloc (by omega) _).trans hk3, ((hnx.alloc (by omega) _).trans hk3).size⟩
          case measure => simp [intOf]; omega
        · gi_wp2
          (try simp only [Exit.noGoto]); (try change bodyPost Try.prog Try.f25 _ _ _ _)
          refine bodyPost_end (results_none rfl _ _ _) rfl ?_
          exact ⟨⟨_, rfl⟩, .inr ⟨_, trivial, hJx3⟩⟩
      · rw [if_neg hfr] at hvac
        have hf : k = 0 ∨ ¬ x0 = 0 ∨ 65535 ≤ x2 := by
          simp only [free, Bool.and_eq_true, decide_eq_true_eq] at hfr
          by_cases k = 0
          · exact .inl ‹_›
          by_cases x0 = 0
          · exact .inr (.inr (by omega))
          · exact .inr (.inl ‹_›)
        gi_wp2
        case roundEnd =>
          subst_vars
          refine ⟨⟨1, by omega, rfl, by rw [hvac]; exact hJa2, hnx.alloc (by omega) _, by simp; omega⟩, by simp [intOf]; omega⟩
        all_goals
          subst_vars
          refine ⟨⟨k + 1, by omega, by simp, by rw [hvac]; exact hJa2, hnx.alloc (by omega) _, by simp; omega⟩, by simp [intOf]; omega⟩
    · obtain rfl : k = zs.length := by omega
      gi_wp2
      (try simp only [Exit.noGoto]); (try change bodyPost Try.prog Try.f25 _ _ _ _)
      go_end0
      exact ⟨⟨_, rfl⟩, .inl ⟨_, rfl, hJs⟩⟩

set_option maxHeartbeats 1000000 in
theorem table_Vacant_in (F : Fence) (n : Nat) (h5 : F.fn 9) (hro : F.round = none) (a : Option Addr) (len cap : Nat) (w : World) :
    CallsIn F n Try.prog 9 #[.slice a len cap] w fun e w' => e = .returned (.func (.func 25) #[] #[.pointer (some ⟨w.heap.size, 0, none⟩)]) ∧ w' = w.alloc (.cells #[.slice a len cap] 22) := by
  refine callsIn_of_wp Try.func9 rfl h5 ?_ hro
  simp only [Try.ntmps9, List.size_toArray, List.length_cons, List.length_nil, Nat.reduceAdd, Nat.reduceSub, Array.replicate_succ, Array.replicate_zero, List.push_toArray, List.append_toArray, List.nil_append, List.cons_append]
  gi_wp2
  go_ret
  exact ⟨rfl, rfl⟩

theorem vacant_stops (F : Fence) (n : Nat) (h7 : F.fn 25) (hro : F.round = none) (hn : 1 ≤ n) (Bs n₀ : Nat) (A : Option Addr) (cap : Nat) (zs : List S38) (hreach : zs.length ≤ 140737488351232) (w : World) (hBs : Bs < w.heap.size) (hn₀ : n₀ ≤ w.heap.size)
    (hc : w.cell? ⟨Bs, 0, none⟩ = some (.slice A zs.length cap)) (hI : Kd.C k38 w A zs.length zs) (hb : ∀ ad, A = some ad → zs ≠ [] → ad.block < n₀) :
    SeqStopsK F n Try.prog 25 #[.pointer (some ⟨Bs, 0, none⟩)] (fun x : Int => #[Value.int .i64 x]) (Below n₀) (fun ys => ys = vac zs zs.length) (fun _ => True) zs.length w := fun l J Jx W hW hJ _ hY h0 =>
  vacant1_in F n h7 hro hn l Bs n₀ A cap zs hreach hb J Jx W (Nat.le_trans hn₀ hW.size) hJ (fun pre x W1 hj hl _ _ => hY pre x W1 hj hl) ((hW.cell (p := ⟨Bs, 0, none⟩) hBs).trans hc) (Kd.C_below hI hW) h0

/-- Where a row's block lies. -/
theorem row_lt {w : World} {A : Option Addr} {zs : List S38} (hI : Kd.C k38 w A zs.length zs) : ∀ ad, A = some ad → zs ≠ [] → ad.block < w.heap.size := by
  intro ad e hz
  have hp : 0 < zs.length := by cases zs with | nil => exact absurd rfl hz | cons _ _ => simp
  obtain ⟨ad', e', h0, _⟩ := at_T38 hI 0 (by omega) (by exact_mod_cast hp)
  rw [e] at e'; cases e'
  have := World.block_lt_of_cell? w _ h0
  rw [add_blk] at this
  exact this

/-- A number of the table. -/
abbrev Num (n : Nat) := { x : Int // 0 ≤ x ∧ x < (n : Int) }
def ints {n : Nat} (q : List (Num n)) : List Int := q.map (fun x => x.1)
theorem ints_snoc {n : Nat} (q : List (Num n)) (x : Num n) : ints (q ++ [x]) = ints q ++ [x.1] := by simp [ints]
theorem ints_length {n : Nat} (q : List (Num n)) : (ints q).length = q.length := by simp [ints]
theorem vacant_stopsN (F : Fence) (n : Nat) (h7 : F.fn 25) (hro : F.round = none) (hn : 1 ≤ n) (Bs n₀ : Nat) (A : Option Addr) (cap : Nat) (zs : List S38) (hreach : zs.length ≤ 140737488351232) (w : World) (hBs : Bs < w.heap.size) (hn₀ : n₀ ≤ w.heap.size)
    (hc : w.cell? ⟨Bs, 0, none⟩ = some (.slice A zs.length cap)) (hI : Kd.C k38 w A zs.length zs) (hb : ∀ ad, A = some ad → zs ≠ [] → ad.block < n₀) :
    SeqStopsK F n Try.prog 25 #[.pointer (some ⟨Bs, 0, none⟩)] (fun x : Num zs.length => #[Value.int .i64 x.1]) (Below n₀) (fun ys => ints ys = vac zs zs.length) (fun _ => True) zs.length w := fun l J Jx W hW hJ hJx hY h0 => by
  refine (vacant1_in F n h7 hro hn l Bs n₀ A cap zs hreach hb (fun p W => ∃ q : List (Num zs.length), ints q = p ∧ J q W) (fun p W => ∃ q : List (Num zs.length), ints q = p ∧ Jx q W) W (Nat.le_trans hn₀ hW.size) ?_ ?_ ((hW.cell (p := ⟨Bs, 0, none⟩) hBs).trans hc) (Kd.C_below hI hW) ⟨[], rfl, h0⟩).mono ?_
  · rintro s X Y row ⟨q, hq, hj⟩ hg hr
    exact ⟨q, hq, hJ q X Y row hj hg hr⟩
  · rintro pre x W1 ⟨q, rfl, hj⟩ hl hx0 hx1
    rw [ints_length] at hl
    obtain ⟨fn, tmps, assign, body, hy, hR⟩ := hY q ⟨x, hx0, hx1⟩ W1 hj hl
    refine ⟨fn, tmps, assign, body, hy, hR.mono ?_⟩
    rintro e W3 (⟨rfl, hJ3, hk3⟩ | ⟨rfl, hJx3⟩)
    · exact .inl ⟨rfl, ⟨_, ints_snoc q ⟨x, hx0, hx1⟩, hJ3⟩, hk3⟩
    · exact .inr ⟨rfl, ⟨_, ints_snoc q ⟨x, hx0, hx1⟩, hJx3⟩⟩
  · rintro e W' ⟨hv, ⟨ys, hys, q, hq, hj⟩ | ⟨pre, _, q, hq, hj⟩⟩
    · exact ⟨hv, .inl ⟨q, hq.trans hys, hj⟩⟩
    · exact ⟨hv, .inr ⟨q, trivial, hj⟩⟩

set_option maxRecDepth 100000 in
set_option maxHeartbeats 2000000 in
theorem law_vacant_in (F : Fence) (n : Nat) (h3 : F.fn 11) (h4 : F.fn 9) (h5 : F.fn 25) (hro : F.round = none) (hn : 3 ≤ n) (A : Option Addr) (cap : Nat) (zs : List S38) (hreach : zs.length ≤ 500) (w : World) (hI : Kd.C k38 w A zs.length zs) :
    CallsIn F n Try.prog 11 #[.slice A zs.length cap] w fun e W' => ∃ v, e = .returned v ∧ W'.ownsRow w.heap.size 3 1 v (vac zs zs.length).length ((vac zs zs.length).map (Value.int .i64)) ∧ Below w.heap.size w W' := by
  have h1 : 1 ≤ n := by omega
  obtain ⟨i0, hi, hz0, hz1, hz2⟩ := info_parts Q.info3
  refine callsIn_of_wp_marks Try.func11 rfl h3 ?_ hro
  simp only [Try.ntmps11, List.size_toArray, List.length_cons, List.length_nil, Nat.reduceAdd, Nat.reduceSub, Array.replicate_succ, Array.replicate_zero, List.push_toArray, List.append_toArray, List.nil_append, List.cons_append]
  gi_wp2_with (gi_at_call 9; refine (table_Vacant_in F (n - 1) h4 hro _ _ _ _).mono ?_; rintro e w' ⟨rfl, rfl⟩)
  have ow := World.ownsRow_lit (base := w.heap.size) (e := 3) (size := 1) w #[] 0 (Nat.le_refl _) (by simp [maxLen]) (by simp)
  have bO := Boxed.new (w.alloc (.cells #[] 3)) 28 (.slice (some ⟨w.heap.size, 0, none⟩) 0 0)
  have bN := Boxed.new ((w.alloc (.cells #[] 3)).alloc (.cells #[.slice (some ⟨w.heap.size, 0, none⟩) 0 0] 28)) 22 (.slice A zs.length cap)
  simp only [World.size_alloc] at bO bN
  have hB0 : Below w.heap.size w (((w.alloc (.cells #[] 3)).alloc (.cells #[.slice (some ⟨w.heap.size, 0, none⟩) 0 0] 28)).alloc (.cells #[.slice A zs.length cap] 22)) := (((Below.refl _ w).alloc (Nat.le_refl _) _).alloc (by simp) _).alloc (by simp; omega) _
  have ow0 : (((w.alloc (.cells #[] 3)).alloc (.cells #[.slice (some ⟨w.heap.size, 0, none⟩) 0 0] 28)).alloc (.cells #[.slice A zs.length cap] 22)).ownsRow w.heap.size 3 1 (.slice (some ⟨w.heap.size, 0, none⟩) 0 0) 0 [] := (by simpa using (ow.alloc _).alloc _)
  have bO0 := bO.alloc (.cells #[.slice A zs.length cap] 22)
  have hsz : (((w.alloc (.cells #[] 3)).alloc (.cells #[.slice (some ⟨w.heap.size, 0, none⟩) 0 0] 28)).alloc (.cells #[.slice A zs.length cap] 22)).heap.size = w.heap.size + 3 := by simp
  generalize (((w.alloc (.cells #[] 3)).alloc (.cells #[.slice (some ⟨w.heap.size, 0, none⟩) 0 0] 28)).alloc (.cells #[.slice A zs.length cap] 22)) = W0 at *
  refine wpIn_rangeFunc_ownG hro h1 (gf := 25) (lb := #[.pointer (some ⟨w.heap.size + 1 + 1, 0, none⟩)]) rfl h5 (enters_of Try.func25 (by kernel_rfl) rfl)
    (vacant_stops F (n - 1) h5 hro (by omega) (w.heap.size + 1 + 1) w.heap.size A cap zs (by omega) _ (by omega) (by omega) bN.cell (Kd.C_below hI hB0) (row_lt hI)) belowK_t (belowK_b (by omega)) (Below.refl _ _) (fun _ => rfl)
    (fun pre W => (∃ v, Boxed W (w.heap.size + 1) 28 v ∧ W.ownsRow w.heap.size 3 1 v pre.length (pre.map (Value.int .i64)) ∧ True) ∧ Below w.heap.size w W)
    (fun _ _ _ => False)
    (OwnFrom.and (Own.from (holdsRow_own w.heap.size (w.heap.size + 1) 28 3 1 (fun pre : List Int => pre.length) (fun pre : List Int => pre.map (Value.int .i64)) (fun _ _ => True)) _) (ownFrom_below (Nat.le_refl _) (by omega)))
    (fun _ _ _ _ _ hs _ _ => hs)
    ⟨⟨_, bO0, ow0, trivial⟩, hB0⟩
    (fun x => { tmps := #[.slice A zs.length cap, undef, .slice none 0 0, .pointer (some ⟨w.heap.size + 1, 0, none⟩), .int .i64 x, .slice (some ⟨w.heap.size, 0, none⟩) 0 0, .slice A zs.length cap, .func (.func 25) #[] #[.pointer (some ⟨w.heap.size + 1 + 1, 0, none⟩)], .int .i64 x, undef, undef, undef, undef, undef], defers := [] }) ?assign ?body ?done ?stop
  case assign =>
    intro l x W K hK
    gi_wp2
    exact hK
  case body =>
    rintro l pre x W ⟨⟨v, hv, hrow, hnil⟩, hB⟩ hlt
    have hc := hv.cell
    gi_wp2_with (gi_at_builtin; refine wpListIn_append_own _ rfl _ _ 28 rfl w.heap.size 3 i0 (.int .i64 0) 1 8 Try.underlying28 hi hz0 hz1 hz2 rfl (by decide) _ _ _ rfl (hrow.alloc _) ⟨W.heap.size, 0, none⟩ 1 1 [.int .i64 x] rfl rfl (cell_one_new _ _ _) (by simp [Value.oneCell']) (by simp [maxLen]; omega) (by omega) (by have := hB.size; simp; omega) ?_; intro v' w1 hown' hgrow _; obtain ⟨g', cap', rfl⟩ := ownsRow_succ hown'; obtain ⟨hv1, hv2, hr2, hk2, hb2⟩ := hv.appended (by decide) hrow hB.size (Nat.le_succ _) hown' hgrow; have hc1 := hv1.cell; have hf1 := hv1.frozen)
    have hr3 : (w1.setCell ⟨w.heap.size + 1, 0, none⟩ (.slice (some ⟨g', 0, none⟩) (pre.length + 1) cap')).ownsRow w.heap.size 3 1 (.slice (some ⟨g', 0, none⟩) (pre.length + 1) cap') (pre ++ [x]).length ((pre ++ [x]).map (Value.int .i64)) := by rw [List.length_append, List.map_append]; exact hr2
    exact ⟨hk2.from _, hb2, ⟨_, hv2, hr3⟩, hB.trans hb2⟩
  case done =>
    rintro D ys W hD rfl ⟨⟨v, hv, hrow, hnil⟩, hB⟩ hK
    have hc := hv.cell
    gi_wp2
    refine ⟨by simp, .inl ⟨_, _, rfl, run_takeDeferred hK, ?_⟩⟩
    exact ⟨_, results_tmp rfl _ _ _, v, rfl, ownsRow_putObj hrow _ hK rfl, hB.trans (belowK_b (w := w) (Nat.le_refl _) W D _ _ (by omega) hK rfl rfl)⟩
  case stop =>
    rintro D c pre W _ _ h _
    exact h.elim

end Go.Proofs.Ytnneppnjofneoaa.V
