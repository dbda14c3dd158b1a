/- Parts of the proof: what the theorem reaches, put together by a program of this session. -/
import Derived.ArgAppend
import Derived.Below
import Derived.BigGuardPart
import Derived.BigQuiet
import Derived.BigRegion
import Derived.Deep.AppendLies
import Derived.Deep.CutBlock
import Derived.Deep.DeepCutAuto
import Derived.Deep.Draws
import Derived.Deep.LoopGhost
import Derived.Deep.OwnRows
import Derived.Deep.QuietTactic
import Derived.Deep.RegionHeld3
import Derived.KernelRfl
import Derived.Laws.BitsLemmas
import Derived.Laws.BytesArg
import Derived.Laws.EntriesVeiled
import Derived.Laws.IdiomCopy
import Derived.Laws.MakeOwn
import Derived.Laws.OwnMore
import Derived.Laws.Rows
import Derived.Laws.Slices
import Derived.Laws.StructEq
import Derived.Lib.AppendIntMem
import Derived.Lib.AppendStr
import Derived.Lib.Bytealg
import Derived.Lib.ConvBytes
import Derived.Lib.Hide
import Derived.Lib.OwnBridge
import Derived.LoopIn
import Derived.LoopNIn
import Derived.Maps.AppendAt
import Derived.Maps.OwnOps
import Derived.Maps.Views
import Derived.OrdersHeld
import Derived.Outline
import Derived.OwnWalk
import Derived.OwnWalkIn
import Derived.RangeFuncBound
import Derived.RangeFuncBox
import Derived.RangeFuncCalls
import Derived.RangeFuncFrom
import Derived.RangeFuncKeeps
import Derived.RangeFuncLeaves
import Derived.RangeFuncNested
import Derived.RowKit
import Derived.RowKit3
import Derived.Shelf.Abstract
import Derived.Shelf.RegionOpen
import Derived.Shelf.SlSortCmp.KitK
import Derived.Sort.LotA
import Derived.Sort.WalkB12
import Derived.Sort.WalkB2
import Derived.Tactics
import Derived.TacticsInMore
import Derived.Test.YtogpnkkoablmiaaProg
import Derived.WalkKit
import Derived.WalkLawsBesides
import Derived.WideLaws
import Derived.Test.YtogpnkkoablmiaaBL1
import Derived.Test.YtogpnkkoablmiaaBL2
import Derived.Test.YtogpnkkoablmiaaBL3
import Derived.Test.YtogpnkkoablmiaaBL4
import Derived.Test.YtogpnkkoablmiaaBL5
import Derived.Test.YtogpnkkoablmiaaBL6
import Derived.Test.YtogpnkkoablmiaaBL7
import Derived.Test.YtogpnkkoablmiaaBL9
import Derived.Test.YtogpnkkoablmiaaBL10
import Derived.Test.YtogpnkkoablmiaaBL11
import Derived.Test.YtogpnkkoablmiaaBL12
import Derived.Test.YtogpnkkoablmiaaBL13
import Derived.Test.YtogpnkkoablmiaaBL14
section
namespace Go.Proofs.Ytogpnkkoablmiaa.V
open Go.RowKit Go.Shelf Go.Lib Go.Proofs.Ytogpnkkoablmiaa.Q Go.Proofs.YtogpnkkoablmiaaW.PrintWords Go.Proofs.YtogpnkkoablmiaaW.PrintLast Go.Proofs.YtogpnkkoablmiaaW.PrintMore
set_option linter.unusedVariables false
set_option linter.unusedSimpArgs false
attribute [local go_sem] Oper.semAt_some
mutual
/-- What a value names, as it stands. -/
def lksV : S35 → List (Int × Int)
  | ⟨k, n, g, _, l, d⟩ => (if k = 7 then [(n, g)] else []) ++ lksL l ++ lksD d
def lksL : List S35 → List (Int × Int)
  | [] => []
  | x :: r => lksV x ++ lksL r
def lksD : List (P89 S35) → List (Int × Int)
  | [] => []
  | p :: r => lksP p ++ lksD r
def lksP : P89 S35 → List (Int × Int)
  | ⟨_, v⟩ => lksV v
end
theorem lksV_eq (v : S35) : lksV v = (if v.f0 = 7 then [(v.f1, v.f2)] else []) ++ lksL v.f4 ++ lksD v.f5 := by cases v; rw [lksV]
theorem lksP_eq (p : S89) : lksP p = lksV p.f1 := by cases p; rw [lksP]
theorem lksL_snoc (l : List S35) (x : S35) : lksL (l ++ [x]) = lksL l ++ lksV x := by
  induction l with
  | nil => simp [lksL]
  | cons y r ih => simp [lksL, ih, List.append_assoc]
theorem lksD_snoc (l : List S89) (x : S89) : lksD (l ++ [x]) = lksD l ++ lksV x.f1 := by
  induction l with
  | nil => simp [lksD, lksP_eq]
  | cons y r ih => simp [lksD, ih, List.append_assoc]
def isT (o : Obj) : Prop := ∃ cs q, o = .cells cs q (0, 0) ∧ (q = 35 ∨ q = 89 ∨ q = 118 ∨ q = 129)
def KeepT (W W' : World) : Prop := W.heap.size ≤ W'.heap.size ∧ ∀ (k : Nat) (o : Obj), W.heap[k]? = some o → isT o → W'.heap[k]? = some o
theorem KeepT.refl (W : World) : KeepT W W := ⟨Nat.le_refl _, fun _ _ h _ => h⟩
theorem KeepT.trans {A B C : World} (h : KeepT A B) (k : KeepT B C) : KeepT A C := ⟨Nat.le_trans h.1 k.1, fun i o hi ho => k.2 i o (h.2 i o hi ho) ho⟩
theorem KeepT.of_below {W W' : World} (h : Below W.heap.size W W') : KeepT W W' := ⟨h.size, fun k o hk _ => (h.block k (by
  rcases Nat.lt_or_ge k W.heap.size with h1 | h1
  · exact h1
  · rw [Array.getElem?_eq_none h1] at hk; cases hk)).trans hk⟩
theorem KeepT.blk {W W' : World} (h : KeepT W W') {b q : Nat} {cs : Array Value} (hb : W.heap[b]? = some (.cells cs q (0, 0))) (hq : q = 35 ∨ q = 89 ∨ q = 118 ∨ q = 129) : W'.heap[b]? = some (.cells cs q (0, 0)) := h.2 b _ hb ⟨cs, q, rfl, hq⟩
theorem R35_keepT {W W' : World} {base : Nat} {ok : Nat → Prop} {v : Value} {xs : List S35} (h : k35.R 35 W base ok v xs) (hk : KeepT W W') : k35.R 35 W' base ok v xs :=
  Kd.R_mono (Kd.R_move (Kd.R_bound h) (fun k hb => by
    obtain ⟨_, _, _, q, hq, cs, hc⟩ := hb
    rw [hc]
    exact hk.blk hc (by simp [k35, Kd.fix] at hq; omega))) (fun _ h => h.1)
theorem R89_keepT {W W' : World} {base : Nat} {ok : Nat → Prop} {v : Value} {xs : List S89} (h : k89.R 89 W base ok v xs) (hk : KeepT W W') : k89.R 89 W' base ok v xs :=
  Kd.R_mono (Kd.R_move (Kd.R_bound h) (fun k hb => by
    obtain ⟨_, _, _, q, hq, cs, hc⟩ := hb
    rw [hc]
    exact hk.blk hc (by simp [k89, k35, Kd.fix, Kd.iso, Kd.pair, Kd.string, Kd.scalar] at hq; omega))) (fun _ h => h.1)
theorem elem35 {W : World} {base g n cap : Nat} {ok : Nat → Prop} {xs : List S35} (HO : k35.R 35 W base ok (.slice (some ⟨g, 0, none⟩) n cap) xs) (i : Nat) (hi : i < n) : ∃ v4 v5,
    k35.M W base (fun k => ok k ∧ k ≠ g) (xs.getD i z35) [.int .i64 (xs.getD i z35).f0, .int .i64 (xs.getD i z35).f1, .int .i64 (xs.getD i z35).f2, .string (xs.getD i z35).f3, v4, v5] ∧
    W.cell? ⟨g, i * 6, none⟩ = some (.int .i64 (xs.getD i z35).f0) ∧ W.cell? ⟨g, i * 6 + 1, none⟩ = some (.int .i64 (xs.getD i z35).f1) ∧ W.cell? ⟨g, i * 6 + 2, none⟩ = some (.int .i64 (xs.getD i z35).f2) ∧
    W.cell? ⟨g, i * 6 + 3, none⟩ = some (.string (xs.getD i z35).f3) ∧ W.cell? ⟨g, i * 6 + 4, none⟩ = some v4 ∧ W.cell? ⟨g, i * 6 + 5, none⟩ = some v5 := by
  obtain ⟨c, hcl, hM, hc, hf⟩ := Kd.R_elem HO z35 (i : Int) (by omega) (by omega)
  simp only [Int.toNat_natCast] at *
  have hM' := hM
  obtain ⟨v4, v5, rfl, _⟩ := k35_openM hM
  have hc' : ∀ j u, _ → W.cell? ⟨g, i * 6 + j, none⟩ = some u := hc
  exact ⟨v4, v5, hM', hc' 0 _ rfl, hc' 1 _ rfl, hc' 2 _ rfl, hc' 3 _ rfl, hc' 4 _ rfl, hc' 5 _ rfl⟩
theorem own_at {α : Type} {d : Kd α} {e : Nat} {W : World} {base n c : Nat} {ok : Nat → Prop} {a : Option Addr} {xs : List α} (h : d.R e W base ok (.slice a n c) xs) (h0 : 0 < xs.length) : ∃ g, a = some ⟨g, 0, none⟩ := by
  obtain ⟨inner, hl, ho⟩ := Kd.R_own h
  rcases ho with ⟨hv, h1⟩ | ⟨g, cap, cur, hv, _⟩
  · omega
  · injection hv with h2; exact ⟨g, h2⟩
theorem lksL_take (l : List S35) (k : Nat) (h : k < l.length) : lksL (l.take (k + 1)) = lksL (l.take k) ++ lksV (l.getD k z35) := by
  rw [List.take_succ_eq_append_getElem h, lksL_snoc, List.getD_eq_getElem?_getD, List.getElem?_eq_getElem h]; rfl
theorem lksD_take (l : List S89) (k : Nat) (h : k < l.length) : lksD (l.take (k + 1)) = lksD (l.take k) ++ lksV (l.getD k z89).f1 := by
  rw [List.take_succ_eq_append_getElem h, lksD_snoc, List.getD_eq_getElem?_getD, List.getElem?_eq_getElem h]; rfl
theorem lksL_pre (l : List S35) (k : Nat) : lksL (l.take k) <+: lksL l := by
  have h : ∀ a b : List S35, lksL (a ++ b) = lksL a ++ lksL b := by
    intro a b; induction a with
    | nil => simp [lksL]
    | cons y r ih => simp [lksL, ih, List.append_assoc]
  exact ⟨lksL (l.drop k), by rw [← h, List.take_append_drop]⟩
theorem lksD_pre (l : List S89) (k : Nat) : lksD (l.take k) <+: lksD l := by
  have h : ∀ a b : List S89, lksD (a ++ b) = lksD a ++ lksD b := by
    intro a b; induction a with
    | nil => simp [lksD]
    | cons y r ih => simp [lksD, ih, List.append_assoc]
  exact ⟨lksD (l.drop k), by rw [← h, List.take_append_drop]⟩
set_option maxRecDepth 100000 in
set_option maxHeartbeats 4000000 in
theorem lk_in (F : Fence) (hd : F.depth = none) (h8 : F.fn 128) (hro : F.round = none) (l N yb wb : Nat) (J Jx : List (Int × Int) → World → Prop) (hJa : ∀ xs W o, J xs W → J xs (W.alloc o))
    (hY : ∀ m pre x W, J pre W → pre.length < N → YieldAt F m Try.prog l #[.agg #[.int .i64 x.1, .int .i64 x.2]] W fun e W' =>
      (e = .returned (.bool true) ∧ J (pre ++ [x]) W' ∧ KeepT W W') ∨ (e = .returned (.bool false) ∧ Jx (pre ++ [x]) W')) :
    ∀ v : S35, ∀ (n : Nat) (v4 v5 : Value) (pre : List (Int × Int)) (W : World) (base : Nat), W.heap[yb]? = some (.cells #[.func (.yield l) #[] #[]] 118 (0, 0)) →
      W.heap[wb]? = some (.cells #[.func (.func 128) #[] #[.pointer (some ⟨yb, 0, none⟩), .pointer (some ⟨wb, 0, none⟩)]] 129 (0, 0)) →
      k35.R 35 W base (fun _ => True) v4 v.f4 → k89.R 89 W base (fun _ => True) v5 v.f5 → J pre W → pre.length + (lksV v).length ≤ N →
      CallsIn F n Try.prog 128 #[.agg #[.int .i64 v.f0, .int .i64 v.f1, .int .i64 v.f2, .string v.f3, v4, v5], .pointer (some ⟨yb, 0, none⟩), .pointer (some ⟨wb, 0, none⟩)] W fun e W' =>
        (e = .returned (.bool true) ∧ J (pre ++ lksV v) W' ∧ KeepT W W') ∨ (e = .returned (.bool false) ∧ ∃ q, q <+: lksV v ∧ Jx (pre ++ q) W') := by
  refine S35.ind ?_
  rintro ⟨f0, f1, f2, f3, f4, f5⟩ ih4 ih5 n v4 v5 pre W base hyb hwb h4 h5 hJ hN
  simp only [] at ih4 ih5 h4 h5 ⊢
  have hdd : ∀ k : Nat, (F.depth.isSome = true → 1 ≤ k) := fun k h => by rw [hd] at h; cases h
  have hu35 := Try.underlying35
  obtain ⟨a4, c4, rfl⟩ := Kd.R_slice h4
  obtain ⟨a5, c5, rfl⟩ := Kd.R_slice h5
  rw [lksV_eq] at hN ⊢
  simp only [] at hN ⊢
  simp only [List.length_append] at hN
  have IH4 := Aside0.mk ih4
  have IH5 := Aside0.mk ih5
  have H4 := Aside0.mk h4
  have H5 := Aside0.mk h5
  have YB := Aside0.mk hyb
  have WB := Aside0.mk hwb
  have hy1 := blk_lt hyb
  have hw1 := blk_lt hwb
  clear ih4 ih5 h4 h5
  have y0 : W.cell? ⟨yb, 0, none⟩ = some (.func (.yield l) #[] #[]) := by rw [cell_of_row W yb _ _ _ _ hyb]; rfl
  refine callsIn_of_wp Try.func128 rfl h8 ?_ hro
  simp only [Try.ntmps128, List.size_toArray, List.length_cons, List.length_nil, Nat.reduceAdd, Nat.reduceSub, Array.replicate_succ, Array.replicate_zero, List.push_toArray, List.append_toArray, List.nil_append, List.cons_append]
  have hJ1 := hJa _ _ (.cells #[.int .i64 f0, .int .i64 f1, .int .i64 f2, .string f3, .slice a4 f4.length c4, .slice a5 f5.length c5] 35) hJ
  clear hyb hwb
  by_cases h7 : f0 = 7
  · subst h7
    rw [if_pos rfl] at hN ⊢
    obtain ⟨fn, tmps, assign, body, hy, hR⟩ := hY (n - 1) pre (f1, f2) _ hJ1 (by simp at hN; omega)
    gi_wp2
    refine hR.mono ?_
    rintro e Wl (⟨rfl, HJ, hK0⟩ | ⟨rfl, hx0⟩)
    · have HBx := Aside0.mk (hK0.blk (blk_new W (.cells #[.int .i64 7, .int .i64 f1, .int .i64 f2, .string f3, .slice a4 f4.length c4, .slice a5 f5.length c5] 35)) (by omega))
      have HK := (KeepT.of_below (below_alloc (Below.refl W.heap.size W) (.cells #[.int .i64 7, .int .i64 f1, .int .i64 f2, .string f3, .slice a4 f4.length c4, .slice a5 f5.length c5] 35))).trans hK0
      have H4l := Aside0.mk (R35_keepT H4.out HK)
      have H5l := Aside0.mk (R89_keepT H5.out HK)
      have YBl := Aside0.mk (HK.blk YB.out (by omega))
      have WBl := Aside0.mk (HK.blk WB.out (by omega))
      have HKl := Aside0.mk HK
      have c4' : Wl.cell? ⟨W.heap.size, 4, none⟩ = some (.slice a4 f4.length c4) := by rw [cell_of_row Wl W.heap.size _ _ _ _ HBx.out]; rfl
      have c5' := blk_lt HBx.out
      clear HK hK0 H4 H5 YB WB y0 hJ1 hR hy
      gi_wp2
      clear c4' c5'
      gi_loopw [25] (fun i wr => ∃ k : Nat, k ≤ f4.length ∧ i = .int .i64 k ∧ J (pre ++ [(f1, f2)] ++ lksL (f4.take k)) wr ∧ KeepT Wl wr) (fun i _ => f4.length - (intOf i).toNat)
      case atStart => exact ⟨0, Nat.zero_le _, rfl, by simpa [lksL] using HJ, KeepT.refl _⟩
      case round =>
        clear HJ
        obtain ⟨k, hk, rfl, hJk, hKk⟩ := hrel
        by_cases hlt : k < f4.length
        · obtain ⟨g, rfl⟩ := own_at H4l.out (by omega)
          have HR := R35_keepT H4l.out hKk
          have hwk : wrap64 ((k : Int) + 1) = (k : Int) + 1 := by
            have hmx : f4.length ≤ 9223372036854775807 := ((Kd.R_reads' HR).2.2).2.1
            unfold wrap64; omega
          have HWK := Aside0.mk hwk
          clear hwk
          obtain ⟨u4, u5, hM, e0, e1, e2, e3, e4, e5⟩ := elem35 HR k hlt
          obtain ⟨w4, w5, hcs, r4, r5⟩ := k35_openM hM
          have hu : u4 = w4 ∧ u5 = w5 := by simpa using hcs
          obtain ⟨rfl, rfl⟩ := hu
          have hmem := getD_mem f4 k hlt z35
          have htk := lksL_take f4 k hlt
          have hpf := lksL_pre f4 (k + 1)
          have IHx := IH4.out (f4.getD k z35) hmem
          generalize f4.getD k z35 = x at *
          obtain ⟨p4, q4, hv4⟩ := Kd.R_slice r4
          obtain ⟨p5, q5, hv5⟩ := Kd.R_slice r5
          subst hv4
          subst hv5
          have r4' := Kd.R_mono (ok' := fun _ => True) (Kd.R_below r4 (below_alloc (Below.refl wr.heap.size wr) (.cells #[.int .i64 x.f0, .int .i64 x.f1, .int .i64 x.f2, .string x.f3, .slice p4 x.f4.length q4, .slice p5 x.f5.length q5] 35))) (fun _ _ => trivial)
          have r5' := Kd.R_mono (ok' := fun _ => True) (Kd.R_below r5 (below_alloc (Below.refl wr.heap.size wr) (.cells #[.int .i64 x.f0, .int .i64 x.f1, .int .i64 x.f2, .string x.f3, .slice p4 x.f4.length q4, .slice p5 x.f5.length q5] 35))) (fun _ _ => trivial)
          have hYk := blk_alloc (hKk.blk YBl.out (by omega)) (.cells #[.int .i64 x.f0, .int .i64 x.f1, .int .i64 x.f2, .string x.f3, .slice p4 x.f4.length q4, .slice p5 x.f5.length q5] 35)
          have hWk := blk_alloc (hKk.blk WBl.out (by omega)) (.cells #[.int .i64 x.f0, .int .i64 x.f1, .int .i64 x.f2, .string x.f3, .slice p4 x.f4.length q4, .slice p5 x.f5.length q5] 35)
          have hJ2 := hJa _ _ (.cells #[.int .i64 x.f0, .int .i64 x.f1, .int .i64 x.f2, .string x.f3, .slice p4 x.f4.length q4, .slice p5 x.f5.length q5] 35) hJk
          have hlen : (pre ++ [(f1, f2)] ++ lksL (f4.take k)).length + (lksV x).length ≤ N := by
            have h1 := hpf.length_le
            rw [htk, List.length_append] at h1
            simp only [List.length_append]
            simp only [List.length_append, List.length_cons, List.length_nil] at hN ⊢
            omega
          have IHc := IHx (n - 1) _ _ _ _ base hYk hWk r4' r5' hJ2 hlen
          have HP := Aside0.mk hpf
          have HT := Aside0.mk htk
          have hy2 : wr.cell? ⟨wb, 0, none⟩ = some (.func (.func 128) #[] #[.pointer (some ⟨yb, 0, none⟩), .pointer (some ⟨wb, 0, none⟩)]) := by rw [cell_of_row wr wb _ _ _ _ (hKk.blk WBl.out (by omega))]; rfl
          have hw2 : wb < wr.heap.size := blk_lt (hKk.blk WBl.out (by omega))
          have IHd := Aside0.mk IHc
          clear IHc IHx hlen r4' r5' r4 r5 hM hcs HR hYk hWk hpf htk hmem
          gi_wp2_with ((try refine ⟨hdd _, ?_⟩); gi_at_call 128; refine IHd.out.mono ?_; rintro e W3 (⟨rfl, hJ3, hK3⟩ | ⟨rfl, q, hq, hx3⟩))
          · go_roundw
            case rel => exact ⟨k + 1, by omega, by rw [HWK.out]; simp, by rw [HT.out, ← List.append_assoc]; exact hJ3, (hKk.trans (KeepT.of_below (below_alloc (Below.refl wr.heap.size wr) (.cells #[.int .i64 x.f0, .int .i64 x.f1, .int .i64 x.f2, .string x.f3, .slice p4 x.f4.length q4, .slice p5 x.f5.length q5] 35)))).trans hK3⟩
            case measure => rw [HWK.out]; simp [intOf]; omega
          · go_ret
            exact .inr ⟨rfl, [(f1, f2)] ++ lksL (f4.take k) ++ q, by
              have h := HP.out
              rw [HT.out] at h
              obtain ⟨t1, ht1⟩ := hq
              obtain ⟨t2, ht2⟩ := h
              exact ⟨t1 ++ t2 ++ lksD f5, by rw [← ht2, ← ht1]; simp [List.append_assoc]⟩, by simpa [List.append_assoc] using hx3⟩
        · have hk4 : k = f4.length := by omega
          subst hk4
          rw [List.take_length] at hJk
          have e0 : wr.cell? ⟨W.heap.size, 5, none⟩ = some (.slice a5 f5.length c5) := by rw [cell_of_row wr W.heap.size _ _ _ _ (hKk.blk HBx.out (by omega))]; rfl
          have e1 := blk_lt (hKk.blk HBx.out (by omega))
          gi_wp2
          gi_loopw [37] (fun i w2 => ∃ k : Nat, k ≤ f5.length ∧ i = .int .i64 k ∧ J (pre ++ [(f1, f2)] ++ lksL f4 ++ lksD (f5.take k)) w2 ∧ KeepT Wl w2) (fun i _ => f5.length - (intOf i).toNat)
          case atStart => exact ⟨0, Nat.zero_le _, rfl, by simpa [lksD] using hJk, hKk⟩
          case round =>
            clear hJk hKk hlt hk e0 e1
            obtain ⟨k, hk, rfl, hJk, hKk⟩ := hrel
            by_cases hlt : k < f5.length
            · obtain ⟨g, rfl⟩ := own_at H5l.out (by omega)
              have HR := R89_keepT H5l.out hKk
              have hwk : wrap64 ((k : Int) + 1) = (k : Int) + 1 := by
                have hmx : f5.length ≤ 9223372036854775807 := ((Kd.R_reads' HR).2.2).2.1
                unfold wrap64; omega
              have HWK := Aside0.mk hwk
              clear hwk
              obtain ⟨u4, u5, hM, e0, e1, e2, e3, e4, e5, e6⟩ := elem89 HR k hlt
              obtain ⟨w4, w5, hcs, r4, r5⟩ := k89_openM hM
              have hu : u4 = w4 ∧ u5 = w5 := by simpa using hcs
              obtain ⟨rfl, rfl⟩ := hu
              have hmem := getD_mem f5 k hlt z89
              have htk := lksD_take f5 k hlt
              have hpf := lksD_pre f5 (k + 1)
              have IHx := IH5.out (f5.getD k z89) hmem
              generalize f5.getD k z89 = x at *
              obtain ⟨p4, q4, hv4⟩ := Kd.R_slice r4
              obtain ⟨p5, q5, hv5⟩ := Kd.R_slice r5
              subst hv4
              subst hv5
              have r4' := Kd.R_mono (ok' := fun _ => True) (Kd.R_below r4 (below_alloc (Below.refl wr.heap.size wr) (.cells #[.string x.f0, .int .i64 x.f1.f0, .int .i64 x.f1.f1, .int .i64 x.f1.f2, .string x.f1.f3, .slice p4 x.f1.f4.length q4, .slice p5 x.f1.f5.length q5] 89))) (fun _ _ => trivial)
              have r5' := Kd.R_mono (ok' := fun _ => True) (Kd.R_below r5 (below_alloc (Below.refl wr.heap.size wr) (.cells #[.string x.f0, .int .i64 x.f1.f0, .int .i64 x.f1.f1, .int .i64 x.f1.f2, .string x.f1.f3, .slice p4 x.f1.f4.length q4, .slice p5 x.f1.f5.length q5] 89))) (fun _ _ => trivial)
              have hYk := blk_alloc (hKk.blk YBl.out (by omega)) (.cells #[.string x.f0, .int .i64 x.f1.f0, .int .i64 x.f1.f1, .int .i64 x.f1.f2, .string x.f1.f3, .slice p4 x.f1.f4.length q4, .slice p5 x.f1.f5.length q5] 89)
              have hWk := blk_alloc (hKk.blk WBl.out (by omega)) (.cells #[.string x.f0, .int .i64 x.f1.f0, .int .i64 x.f1.f1, .int .i64 x.f1.f2, .string x.f1.f3, .slice p4 x.f1.f4.length q4, .slice p5 x.f1.f5.length q5] 89)
              have hJ2 := hJa _ _ (.cells #[.string x.f0, .int .i64 x.f1.f0, .int .i64 x.f1.f1, .int .i64 x.f1.f2, .string x.f1.f3, .slice p4 x.f1.f4.length q4, .slice p5 x.f1.f5.length q5] 89) hJk
              have hlen : (pre ++ [(f1, f2)] ++ lksL f4 ++ lksD (f5.take k)).length + (lksV x.f1).length ≤ N := by
                have h1 := hpf.length_le
                rw [htk, List.length_append] at h1
                simp only [List.length_append]
                simp only [List.length_append, List.length_cons, List.length_nil] at hN ⊢
                omega
              have IHc := IHx (n - 1) _ _ _ _ base hYk hWk r4' r5' hJ2 hlen
              have HP := Aside0.mk hpf
              have HT := Aside0.mk htk
              have hy2 : wr.cell? ⟨wb, 0, none⟩ = some (.func (.func 128) #[] #[.pointer (some ⟨yb, 0, none⟩), .pointer (some ⟨wb, 0, none⟩)]) := by rw [cell_of_row wr wb _ _ _ _ (hKk.blk WBl.out (by omega))]; rfl
              have hw2 : wb < wr.heap.size := blk_lt (hKk.blk WBl.out (by omega))
              have IHd := Aside0.mk IHc
              clear IHc IHx hlen r4' r5' r4 r5 hM hcs HR hYk hWk hpf htk hmem
              gi_wp2_with ((try refine ⟨hdd _, ?_⟩); gi_at_call 128; refine IHd.out.mono ?_; rintro e W3 (⟨rfl, hJ3, hK3⟩ | ⟨rfl, q, hq, hx3⟩))
              · go_roundw
                case rel => exact ⟨k + 1, by omega, by rw [HWK.out]; simp, by rw [HT.out, ← List.append_assoc]; exact hJ3, (hKk.trans (KeepT.of_below (below_alloc (Below.refl wr.heap.size wr) (.cells #[.string x.f0, .int .i64 x.f1.f0, .int .i64 x.f1.f1, .int .i64 x.f1.f2, .string x.f1.f3, .slice p4 x.f1.f4.length q4, .slice p5 x.f1.f5.length q5] 89)))).trans hK3⟩
                case measure => rw [HWK.out]; simp [intOf]; omega
              · go_ret
                exact .inr ⟨rfl, [(f1, f2)] ++ lksL f4 ++ lksD (f5.take k) ++ q, by
                  have h := HP.out
                  rw [HT.out] at h
                  obtain ⟨t1, ht1⟩ := hq
                  obtain ⟨t2, ht2⟩ := h
                  exact ⟨t1 ++ t2, by rw [← ht2, ← ht1]; simp [List.append_assoc]⟩, by simpa [List.append_assoc] using hx3⟩
            · have hk5 : k = f5.length := by omega
              subst hk5
              rw [List.take_length] at hJk
              gi_wp2
              go_ret
              exact .inl ⟨rfl, by simpa [List.append_assoc] using hJk, HKl.out.trans hKk⟩
    · gi_wp2
      go_ret
      exact .inr ⟨rfl, [(f1, f2)], by simp [List.append_assoc], hx0⟩
  · rw [if_neg h7] at hN ⊢
    have h7b : (f0 == 7) = false := by simpa using h7
    gi_wp2
    refine ⟨fun _ h => (by cases h), ?_⟩
    gi_wp2
    have HBx := Aside0.mk (blk_new W (.cells #[.int .i64 f0, .int .i64 f1, .int .i64 f2, .string f3, .slice a4 f4.length c4, .slice a5 f5.length c5] 35))
    have HK := KeepT.of_below (below_alloc (Below.refl W.heap.size W) (.cells #[.int .i64 f0, .int .i64 f1, .int .i64 f2, .string f3, .slice a4 f4.length c4, .slice a5 f5.length c5] 35))
    have H4l := Aside0.mk (R35_keepT H4.out HK)
    have H5l := Aside0.mk (R89_keepT H5.out HK)
    have YBl := Aside0.mk (HK.blk YB.out (by omega))
    have WBl := Aside0.mk (HK.blk WB.out (by omega))
    have HJ := hJ1
    have HKl := Aside0.mk HK
    clear HK H4 H5 YB WB y0 hJ1
    generalize W.alloc (.cells #[.int .i64 f0, .int .i64 f1, .int .i64 f2, .string f3, .slice a4 f4.length c4, .slice a5 f5.length c5] 35) = Wl at *
    gi_loopw [25] (fun i wr => ∃ k : Nat, k ≤ f4.length ∧ i = .int .i64 k ∧ J (pre ++ [] ++ lksL (f4.take k)) wr ∧ KeepT Wl wr) (fun i _ => f4.length - (intOf i).toNat)
    case atStart => exact ⟨0, Nat.zero_le _, rfl, by simpa [lksL] using HJ, KeepT.refl _⟩
    case round =>
      clear HJ
      obtain ⟨k, hk, rfl, hJk, hKk⟩ := hrel
      by_cases hlt : k < f4.length
      · obtain ⟨g, rfl⟩ := own_at H4l.out (by omega)
        have HR := R35_keepT H4l.out hKk
        have hwk : wrap64 ((k : Int) + 1) = (k : Int) + 1 := by
          have hmx : f4.length ≤ 9223372036854775807 := ((Kd.R_reads' HR).2.2).2.1
          unfold wrap64; omega
        have HWK := Aside0.mk hwk
        clear hwk
        obtain ⟨u4, u5, hM, e0, e1, e2, e3, e4, e5⟩ := elem35 HR k hlt
        obtain ⟨w4, w5, hcs, r4, r5⟩ := k35_openM hM
        have hu : u4 = w4 ∧ u5 = w5 := by simpa using hcs
        obtain ⟨rfl, rfl⟩ := hu
        have hmem := getD_mem f4 k hlt z35
        have htk := lksL_take f4 k hlt
        have hpf := lksL_pre f4 (k + 1)
        have IHx := IH4.out (f4.getD k z35) hmem
        generalize f4.getD k z35 = x at *
        obtain ⟨p4, q4, hv4⟩ := Kd.R_slice r4
        obtain ⟨p5, q5, hv5⟩ := Kd.R_slice r5
        subst hv4
        subst hv5
        have r4' := Kd.R_mono (ok' := fun _ => True) (Kd.R_below r4 (below_alloc (Below.refl wr.heap.size wr) (.cells #[.int .i64 x.f0, .int .i64 x.f1, .int .i64 x.f2, .string x.f3, .slice p4 x.f4.length q4, .slice p5 x.f5.length q5] 35))) (fun _ _ => trivial)
        have r5' := Kd.R_mono (ok' := fun _ => True) (Kd.R_below r5 (below_alloc (Below.refl wr.heap.size wr) (.cells #[.int .i64 x.f0, .int .i64 x.f1, .int .i64 x.f2, .string x.f3, .slice p4 x.f4.length q4, .slice p5 x.f5.length q5] 35))) (fun _ _ => trivial)
        have hYk := blk_alloc (hKk.blk YBl.out (by omega)) (.cells #[.int .i64 x.f0, .int .i64 x.f1, .int .i64 x.f2, .string x.f3, .slice p4 x.f4.length q4, .slice p5 x.f5.length q5] 35)
        have hWk := blk_alloc (hKk.blk WBl.out (by omega)) (.cells #[.int .i64 x.f0, .int .i64 x.f1, .int .i64 x.f2, .string x.f3, .slice p4 x.f4.length q4, .slice p5 x.f5.length q5] 35)
        have hJ2 := hJa _ _ (.cells #[.int .i64 x.f0, .int .i64 x.f1, .int .i64 x.f2, .string x.f3, .slice p4 x.f4.length q4, .slice p5 x.f5.length q5] 35) hJk
        have hlen : (pre ++ [] ++ lksL (f4.take k)).length + (lksV x).length ≤ N := by
          have h1 := hpf.length_le
          rw [htk, List.length_append] at h1
          simp only [List.length_append]
          simp only [List.length_append, List.length_cons, List.length_nil] at hN ⊢
          omega
        have IHc := IHx (n - 1) _ _ _ _ base hYk hWk r4' r5' hJ2 hlen
        have HP := Aside0.mk hpf
        have HT := Aside0.mk htk
        have hy2 : wr.cell? ⟨wb, 0, none⟩ = some (.func (.func 128) #[] #[.pointer (some ⟨yb, 0, none⟩), .pointer (some ⟨wb, 0, none⟩)]) := by rw [cell_of_row wr wb _ _ _ _ (hKk.blk WBl.out (by omega))]; rfl
        have hw2 : wb < wr.heap.size := blk_lt (hKk.blk WBl.out (by omega))
        have IHd := Aside0.mk IHc
        clear IHc IHx hlen r4' r5' r4 r5 hM hcs HR hYk hWk hpf htk hmem
        gi_wp2_with ((try refine ⟨hdd _, ?_⟩); gi_at_call 128; refine IHd.out.mono ?_; rintro e W3 (⟨rfl, hJ3, hK3⟩ | ⟨rfl, q, hq, hx3⟩))
        · go_roundw
          case rel => exact ⟨k + 1, by omega, by rw [HWK.out]; simp, by rw [HT.out, ← List.append_assoc]; exact hJ3, (hKk.trans (KeepT.of_below (below_alloc (Below.refl wr.heap.size wr) (.cells #[.int .i64 x.f0, .int .i64 x.f1, .int .i64 x.f2, .string x.f3, .slice p4 x.f4.length q4, .slice p5 x.f5.length q5] 35)))).trans hK3⟩
          case measure => rw [HWK.out]; simp [intOf]; omega
        · go_ret
          exact .inr ⟨rfl, [] ++ lksL (f4.take k) ++ q, by
            have h := HP.out
            rw [HT.out] at h
            obtain ⟨t1, ht1⟩ := hq
            obtain ⟨t2, ht2⟩ := h
            exact ⟨t1 ++ t2 ++ lksD f5, by rw [← ht2, ← ht1]; simp [List.append_assoc]⟩, by simpa [List.append_assoc] using hx3⟩
      · have hk4 : k = f4.length := by omega
        subst hk4
        rw [List.take_length] at hJk
        have e0 : wr.cell? ⟨W.heap.size, 5, none⟩ = some (.slice a5 f5.length c5) := by rw [cell_of_row wr W.heap.size _ _ _ _ (hKk.blk HBx.out (by omega))]; rfl
        have e1 := blk_lt (hKk.blk HBx.out (by omega))
        gi_wp2
        gi_loopw [37] (fun i w2 => ∃ k : Nat, k ≤ f5.length ∧ i = .int .i64 k ∧ J (pre ++ [] ++ lksL f4 ++ lksD (f5.take k)) w2 ∧ KeepT Wl w2) (fun i _ => f5.length - (intOf i).toNat)
        case atStart => exact ⟨0, Nat.zero_le _, rfl, by simpa [lksD] using hJk, hKk⟩
        case round =>
          clear hJk hKk hlt hk e0 e1
          obtain ⟨k, hk, rfl, hJk, hKk⟩ := hrel
          by_cases hlt : k < f5.length
          · obtain ⟨g, rfl⟩ := own_at H5l.out (by omega)
            have HR := R89_keepT H5l.out hKk
            have hwk : wrap64 ((k : Int) + 1) = (k : Int) + 1 := by
              have hmx : f5.length ≤ 9223372036854775807 := ((Kd.R_reads' HR).2.2).2.1
              unfold wrap64; omega
            have HWK := Aside0.mk hwk
            clear hwk
            obtain ⟨u4, u5, hM, e0, e1, e2, e3, e4, e5, e6⟩ := elem89 HR k hlt
            obtain ⟨w4, w5, hcs, r4, r5⟩ := k89_openM hM
            have hu : u4 = w4 ∧ u5 = w5 := by simpa using hcs
            obtain ⟨rfl, rfl⟩ := hu
            have hmem := getD_mem f5 k hlt z89
            have htk := lksD_take f5 k hlt
            have hpf := lksD_pre f5 (k + 1)
            have IHx := IH5.out (f5.getD k z89) hmem
            generalize f5.getD k z89 = x at *
            obtain ⟨p4, q4, hv4⟩ := Kd.R_slice r4
            obtain ⟨p5, q5, hv5⟩ := Kd.R_slice r5
            subst hv4
            subst hv5
            have r4' := Kd.R_mono (ok' := fun _ => True) (Kd.R_below r4 (below_alloc (Below.refl wr.heap.size wr) (.cells #[.string x.f0, .int .i64 x.f1.f0, .int .i64 x.f1.f1, .int .i64 x.f1.f2, .string x.f1.f3, .slice p4 x.f1.f4.length q4, .slice p5 x.f1.f5.length q5] 89))) (fun _ _ => trivial)
            have r5' := Kd.R_mono (ok' := fun _ => True) (Kd.R_below r5 (below_alloc (Below.refl wr.heap.size wr) (.cells #[.string x.f0, .int .i64 x.f1.f0, .int .i64 x.f1.f1, .int .i64 x.f1.f2, .string x.f1.f3, .slice p4 x.f1.f4.length q4, .slice p5 x.f1.f5.length q5] 89))) (fun _ _ => trivial)
            have hYk := blk_alloc (hKk.blk YBl.out (by omega)) (.cells #[.string x.f0, .int .i64 x.f1.f0, .int .i64 x.f1.f1, .int .i64 x.f1.f2, .string x.f1.f3, .slice p4 x.f1.f4.length q4, .slice p5 x.f1.f5.length q5] 89)
            have hWk := blk_alloc (hKk.blk WBl.out (by omega)) (.cells #[.string x.f0, .int .i64 x.f1.f0, .int .i64 x.f1.f1, .int .i64 x.f1.f2, .string x.f1.f3, .slice p4 x.f1.f4.length q4, .slice p5 x.f1.f5.length q5] 89)
            have hJ2 := hJa _ _ (.cells #[.string x.f0, .int .i64 x.f1.f0, .int .i64 x.f1.f1, .int .i64 x.f1.f2, .string x.f1.f3, .slice p4 x.f1.f4.length q4, .slice p5 x.f1.f5.length q5] 89) hJk
            have hlen : (pre ++ [] ++ lksL f4 ++ lksD (f5.take k)).length + (lksV x.f1).length ≤ N := by
              have h1 := hpf.length_le
              rw [htk, List.length_append] at h1
              simp only [List.length_append]
              simp only [List.length_append, List.length_cons, List.length_nil] at hN ⊢
              omega
            have IHc := IHx (n - 1) _ _ _ _ base hYk hWk r4' r5' hJ2 hlen
            have HP := Aside0.mk hpf
            have HT := Aside0.mk htk
            have hy2 : wr.cell? ⟨wb, 0, none⟩ = some (.func (.func 128) #[] #[.pointer (some ⟨yb, 0, none⟩), .pointer (some ⟨wb, 0, none⟩)]) := by rw [cell_of_row wr wb _ _ _ _ (hKk.blk WBl.out (by omega))]; rfl
            have hw2 : wb < wr.heap.size := blk_lt (hKk.blk WBl.out (by omega))
            have IHd := Aside0.mk IHc
            clear IHc IHx hlen r4' r5' r4 r5 hM hcs HR hYk hWk hpf htk hmem
            gi_wp2_with ((try refine ⟨hdd _, ?_⟩); gi_at_call 128; refine IHd.out.mono ?_; rintro e W3 (⟨rfl, hJ3, hK3⟩ | ⟨rfl, q, hq, hx3⟩))
            · go_roundw
              case rel => exact ⟨k + 1, by omega, by rw [HWK.out]; simp, by rw [HT.out, ← List.append_assoc]; exact hJ3, (hKk.trans (KeepT.of_below (below_alloc (Below.refl wr.heap.size wr) (.cells #[.string x.f0, .int .i64 x.f1.f0, .int .i64 x.f1.f1, .int .i64 x.f1.f2, .string x.f1.f3, .slice p4 x.f1.f4.length q4, .slice p5 x.f1.f5.length q5] 89)))).trans hK3⟩
              case measure => rw [HWK.out]; simp [intOf]; omega
            · go_ret
              exact .inr ⟨rfl, [] ++ lksL f4 ++ lksD (f5.take k) ++ q, by
                have h := HP.out
                rw [HT.out] at h
                obtain ⟨t1, ht1⟩ := hq
                obtain ⟨t2, ht2⟩ := h
                exact ⟨t1 ++ t2, by rw [← ht2, ← ht1]; simp [List.append_assoc]⟩, by simpa [List.append_assoc] using hx3⟩
          · have hk5 : k = f5.length := by omega
            subst hk5
            rw [List.take_length] at hJk
            gi_wp2
            go_ret
            exact .inl ⟨rfl, by simpa [List.append_assoc] using hJk, HKl.out.trans hKk⟩
end Go.Proofs.Ytogpnkkoablmiaa.V
end
section
namespace Go.Proofs.Ytogpnkkoablmiaa.V
open Go.RowKit Go.Shelf Go.Lib Go.Proofs.Ytogpnkkoablmiaa.Q Go.Proofs.YtogpnkkoablmiaaW.PrintWords Go.Proofs.YtogpnkkoablmiaaW.PrintLast Go.Proofs.YtogpnkkoablmiaaW.PrintMore
set_option linter.unusedVariables false
set_option linter.unusedSimpArgs false
attribute [local go_sem] Oper.semAt_some
theorem room_of_none {F : Fence} (hd : F.depth = none) (k : Nat) : F.room k := fun d h => by rw [hd] at h; cases h
theorem RoundIn.anyDepth {F : Fence} (hd : F.depth = none) {m m' : Nat} {P : Program} {l : Nat} {f : FuncId} {tmps : Array Value} {assign body : Code} {w : World} {R : Ending → World → Prop}
    (h : RoundIn F m P l f tmps assign body w R) : RoundIn F m' P l f tmps assign body w R := ⟨h.1, fun c cs _ => h.2 c cs (room_of_none hd _)⟩
theorem YieldAt.anyDepth {F : Fence} (hd : F.depth = none) {m : Nat} (m' : Nat) {P : Program} {l : Nat} {args : Array Value} {W : World} {R : Ending → World → Prop} (h : YieldAt F m P l args W R) : YieldAt F m' P l args W R := by
  obtain ⟨fn, tmps, assign, body, hy, hR⟩ := h
  exact ⟨fn, tmps, assign, body, hy, RoundIn.anyDepth hd hR⟩
theorem box0 {w : World} {b q : Nat} {u : Value} (h : w.heap[b]? = some (.cells #[u] q (0, 0))) : w.cell? ⟨b, 0, none⟩ = some u := by rw [cell_of_row w b _ _ _ _ h]; rfl
set_option maxRecDepth 100000 in
set_option maxHeartbeats 4000000 in
theorem links127 (l : Nat) (v : S35) (A4 : Option Addr) (c4 : Nat) (A5 : Option Addr) (c5 B n : Nat) (J Jx : List (Int × Int) → World → Prop) (W : World) (hB : W.heap[B]? = some (.cells #[.int .i64 v.f0, .int .i64 v.f1, .int .i64 v.f2, .string v.f3, .slice A4 v.f4.length c4, .slice A5 v.f5.length c5] 35 (0, 0)))
    (hf : fewV v) (la4 : v.f4.length ≤ c4) (ra4 : k35.C W A4 v.f4.length v.f4) (la5 : v.f5.length ≤ c5) (ra5 : k89.C W A5 v.f5.length v.f5) (hJ : AbidesFrom W.heap.size J)
    (hY : ∀ pre x W1, J pre W1 → pre.length < (lksV (plain v)).length → YieldAt Fence.wide (n - 1) Try.prog l #[.agg #[.int .i64 x.1, .int .i64 x.2]] W1 fun e W' =>
      (e = .returned (.bool true) ∧ J (pre ++ [x]) W' ∧ KeepT W1 W') ∨ (e = .returned (.bool false) ∧ Jx (pre ++ [x]) W'))
    (h0 : J [] W) :
    CallsIn Fence.wide n Try.prog 127 #[.func (.yield l) #[] #[], .pointer (some ⟨B, 0, none⟩)] W fun e W' => (∃ v, e = .returned v) ∧
      ((∃ xs, xs = lksV (plain v) ∧ J xs W') ∨ (∃ pre, pre <+: lksV (plain v) ∧ Jx pre W')) := by
  have hu35 := Try.underlying35
  have hBl := blk_lt hB
  have PA := Aside0.mk (fun w1 (hb : RowKit.Below W.heap.size W w1) => plain59_all v A4 c4 A5 c5 w1 hf la4 (Kd.C_below ra4 hb) la5 (Kd.C_below ra5 hb))
  have HY := Aside0.mk hY
  have HJ := Aside0.mk hJ
  have H0 := Aside0.mk h0
  have HB := Aside0.mk hB
  clear hf ra4 ra5 hB hY hJ h0
  refine callsIn_wide.2 ?_
  go_enter Try.func127, Try.ntmps127
  go_wp2_with fail
  have hW := Aside0.mk ((below_alloc (below_alloc (RowKit.Below.refl W.heap.size W) (.cells #[.func (.yield l) #[] #[]] 118)) (.cells #[.func (.func 128) #[] #[.pointer (some ⟨W.heap.size, 0, none⟩), .pointer (some ⟨W.heap.size + 1, 0, none⟩)]] 129)).drew)
  have hH : (fun w' => w'.heap[B]? = some (.cells #[.int .i64 v.f0, .int .i64 v.f1, .int .i64 v.f2, .string v.f3, .slice A4 v.f4.length c4, .slice A5 v.f5.length c5] 35 (0, 0)) ∧ w'.heap[W.heap.size]? = some (.cells #[.func (.yield l) #[] #[]] 118 (0, 0)) ∧ w'.heap[W.heap.size + 1]? = some (.cells #[.func (.func 128) #[] #[.pointer (some ⟨W.heap.size, 0, none⟩), .pointer (some ⟨W.heap.size + 1, 0, none⟩)]] 129 (0, 0))) ((W.alloc (.cells #[.func (.yield l) #[] #[]] 118)).alloc (.cells #[.func (.func 128) #[] #[.pointer (some ⟨W.heap.size, 0, none⟩), .pointer (some ⟨W.heap.size + 1, 0, none⟩)]] 129)).drew :=
    ⟨(hW.out.block _ hBl).trans HB.out, blk_drew (blk_alloc (blk_new W (.cells #[.func (.yield l) #[] #[]] 118)) _), by have h := blk_drew (blk_new (W.alloc (.cells #[.func (.yield l) #[] #[]] 118)) (.cells #[.func (.func 128) #[] #[.pointer (some ⟨W.heap.size, 0, none⟩), .pointer (some ⟨W.heap.size + 1, 0, none⟩)]] 129)); simpa using h⟩
  refine start_ (n := 4) (S := fun w' => w'.heap[B]? = some (.cells #[.int .i64 v.f0, .int .i64 v.f1, .int .i64 v.f2, .string v.f3, .slice A4 v.f4.length c4, .slice A5 v.f5.length c5] 35 (0, 0)) ∧ w'.heap[W.heap.size]? = some (.cells #[.func (.yield l) #[] #[]] 118 (0, 0)) ∧ w'.heap[W.heap.size + 1]? = some (.cells #[.func (.func 128) #[] #[.pointer (some ⟨W.heap.size, 0, none⟩), .pointer (some ⟨W.heap.size + 1, 0, none⟩)]] 129 (0, 0))) (ds := [3]) #[false, false, false, false] (by kernel_rfl) rfl rfl hH (fun hHeld => ?_)
  refine take_ (i := 0) (N := some 5) (v := ?_) (a' := ?_) #[true, false, false, false] rfl rfl (by kernel_rfl) (fun _ _ _ h => h) (Or.inl ⟨by rfl, ?_⟩) hHeld ?_ ?_
  rotate_left
  · intro w' hSw
    have x0 := box0 hSw.2.2
    go_simp
    with_reducible rfl
  rotate_left
  · simp only [Act.put, List.setIfInBounds_toArray, List.set_cons_zero, List.set_cons_succ]
    rfl
  refine take_ (i := 1) (N := some 6) (v := ?_) (a' := ?_) #[true, true, false, false] rfl rfl (by kernel_rfl) (fun _ _ _ h => h) (Or.inl ⟨by rfl, ?_⟩) hHeld ?_ ?_
  rotate_left
  · intro w' hSw
    obtain ⟨x0, x1, x2, x3, x4, x5⟩ := box35 hSw.1
    go_simp
    with_reducible rfl
  rotate_left
  · simp only [Act.put, List.setIfInBounds_toArray, List.set_cons_zero, List.set_cons_succ]
    rfl
  clear hHeld
  have HH := Aside0.mk hH
  clear hH
  generalize ((W.alloc (.cells #[.func (.yield l) #[] #[]] 118)).alloc (.cells #[.func (.func 128) #[] #[.pointer (some ⟨W.heap.size, 0, none⟩), .pointer (some ⟨W.heap.size + 1, 0, none⟩)]] 129)).drew = W2 at *
  refine one_ (i := 2) (N := some 7) #[true, true, true, false] rfl rfl (by kernel_rfl) (by decide) (fun K hK => ?_)
  refine goes_ Try.func59 (by kernel_rfl) rfl #[.agg #[.int .i64 v.f0, .int .i64 v.f1, .int .i64 v.f2, .string v.f3, .slice A4 v.f4.length c4, .slice A5 v.f5.length c5]] (by rfl) rfl rfl (by first | rfl | (simp only [List.map_toArray, List.map_cons, List.map_nil]; rfl)) ?_
  refine Calls.mono (PA.out _ hW.out) ?_
  rintro e w1 ⟨v4, v5, rfl, r4, r5, hb⟩
  obtain ⟨a4', n4', e4⟩ := Kd.R_slice r4
  obtain ⟨a5', n5', e5⟩ := Kd.R_slice r5
  subst e4
  subst e5
  have hW1 := Aside0.mk (hW.out.trans (hb.mono hW.out.size))
  refine ⟨_, rfl, ?_⟩
  refine hK.out _ _ ⟨(hb.block _ (blk_lt HH.out.1)).trans HH.out.1, (hb.block _ (blk_lt HH.out.2.1)).trans HH.out.2.1, (hb.block _ (blk_lt HH.out.2.2)).trans HH.out.2.2⟩ (fun hH2 => ?_)
  have HL := Aside0.mk hH2
  have X1 := Aside0.mk (And.intro r4 r5)
  clear hK K r4 r5 hb HH
  refine norm_ (a' := ?_) ?_ ?_
  rotate_left
  · show Act.put _ (some 7) _ = _
    simp only [Act.put, List.setIfInBounds_toArray, List.set_cons_zero, List.set_cons_succ]
    rfl
  refine chain_ [3] _ _ _ _ (⟨_, _, rfl, rfl, rfl⟩) (by kernel_rfl) (by decide) ?_
  have HY2 : ∀ m pre x W1, J pre W1 → pre.length < (lksV (plain v)).length → YieldAt Fence.wide m Try.prog l #[.agg #[.int .i64 x.1, .int .i64 x.2]] W1 fun e W' =>
      (e = .returned (.bool true) ∧ J (pre ++ [x]) W' ∧ KeepT W1 W') ∨ (e = .returned (.bool false) ∧ Jx (pre ++ [x]) W') := fun m pre x W1 hj hl => YieldAt.anyDepth rfl m (HY.out pre x W1 hj hl)
  have hbw := hW1.out
  have J1 := HJ.out [] W w1 none H0.out ⟨hbw.os, hbw.tape, hbw.output, hbw.size, fun k hk _ => hbw.block k hk⟩ (fun _ h => by cases h)
  have LK := lk_in Fence.wide rfl trivial rfl l (lksV (plain v)).length W.heap.size (W.heap.size + 1) J Jx (fun xs W o hj => HJ.out xs W _ none hj (World.grownBy_alloc W o none) (fun _ h => by cases h)) HY2 (plain v) n _ _ [] w1 _ HL.out.2.1 HL.out.2.2 X1.out.1 X1.out.2 J1 (by simp)
  have LK := Aside0.mk LK
  clear HY2 J1 hbw
  go_wp2_with (go_at_call 128; refine (callsIn_wide.1 LK.out).mono ?_; rintro e w3 (⟨rfl, hj, _⟩ | ⟨rfl, q, hq, hj⟩))
  · go_end0
    exact ⟨⟨_, rfl⟩, .inl ⟨_, rfl, by simpa using hj⟩⟩
  · go_end0
    exact ⟨⟨_, rfl⟩, .inr ⟨q, hq, by simpa using hj⟩⟩
theorem keepT_b {w : World} (W : World) (l : Nat) (o o' : Obj) (_ : w.heap.size ≤ l) (h : W.heap[l]? = some o) (hc : o.isCells = false) (_ : o.isWalk = false) : KeepT W (W.putObj l o') :=
  ⟨(grownBy_putObj' W l o').size, fun k ob hk hT => by
    obtain ⟨cs, q, rfl, _⟩ := hT
    refine ((grownBy_putObj' W l o').block k (Array.getElem?_eq_some_iff.1 hk).1 (fun e => ?_)).trans hk
    cases e
    rw [h] at hk; cases hk; cases hc⟩
set_option maxHeartbeats 1000000 in
theorem Links_calls (f0 f1 f2 : Int) (f3 : ByteArray) (A4 : Option Addr) (n4 c4 : Nat) (A5 : Option Addr) (n5 c5 : Nat) (w : World) : Calls Try.prog 67 #[.agg #[.int .i64 f0, .int .i64 f1, .int .i64 f2, .string f3, .slice A4 n4 c4, .slice A5 n5 c5]] w fun e w' => e = .returned (.func (.func 127) #[] #[.pointer (some ⟨w.heap.size, 0, none⟩)]) ∧ w' = w.alloc (.cells #[.int .i64 f0, .int .i64 f1, .int .i64 f2, .string f3, .slice A4 n4 c4, .slice A5 n5 c5] 35) := by
  have hu35 := Try.underlying35
  go_enter Try.func67, Try.ntmps67
  go_wp2
  go_ret
  exact ⟨rfl, rfl⟩
theorem links_stops (v : S35) (A4 : Option Addr) (c4 : Nat) (A5 : Option Addr) (c5 B n : Nat) (w : World) (hB : w.heap[B]? = some (.cells #[.int .i64 v.f0, .int .i64 v.f1, .int .i64 v.f2, .string v.f3, .slice A4 v.f4.length c4, .slice A5 v.f5.length c5] 35 (0, 0)))
    (hf : fewV v) (la4 : v.f4.length ≤ c4) (ra4 : k35.C w A4 v.f4.length v.f4) (la5 : v.f5.length ≤ c5) (ra5 : k89.C w A5 v.f5.length v.f5) :
    SeqStopsK Fence.wide n Try.prog 127 #[.pointer (some ⟨B, 0, none⟩)] (fun x : Int × Int => #[.agg #[.int .i64 x.1, .int .i64 x.2]]) KeepT (fun ys => ys = lksV (plain v)) (fun pre => pre <+: lksV (plain v)) (lksV (plain v)).length w :=
  fun l J Jx W hW hJ _ hY h0 => links127 l v A4 c4 A5 c5 B n J Jx W ((hW.block _ (blk_lt hB)).trans hB) hf la4 (Kd.C_below ra4 hW) la5 (Kd.C_below ra5 hW) hJ hY h0
end Go.Proofs.Ytogpnkkoablmiaa.V
end
section
namespace Go.Proofs.Ytogpnkkoablmiaa.V
open Go.RowKit Go.Shelf Go.Lib Go.Proofs.Ytogpnkkoablmiaa.Q Go.Proofs.YtogpnkkoablmiaaW.PrintWords Go.Proofs.YtogpnkkoablmiaaW.PrintLast Go.Proofs.YtogpnkkoablmiaaW.PrintMore
set_option linter.unusedVariables false
set_option linter.unusedSimpArgs false
attribute [local go_sem] Oper.semAt_some
def At28 (W : World) (B : Nat) (a b : Int) : Prop := W.heap[B]? = some (.cells #[.int .i64 a, .int .i64 b] 28 (0, 0))
theorem At28.kept {W W' : World} {row : Option Nat} {B : Nat} {a b : Int} (h : At28 W B a b) (hg : W.grownBy W' row) (hne : some B ≠ row) : At28 W' B a b := (hg.block B (blk_lt h) hne).trans h
theorem At28.alloc {W : World} {B : Nat} {a b : Int} (h : At28 W B a b) (o : Obj) : At28 (W.alloc o) B a b := h.kept (World.grownBy_alloc W o none) (by simp)
theorem At28.c0 {W : World} {B : Nat} {a b : Int} (h : At28 W B a b) : W.cell? ⟨B, 0, none⟩ = some (.int .i64 a) := by rw [cell_of_row W B _ _ _ _ h]; rfl
theorem At28.c1 {W : World} {B : Nat} {a b : Int} (h : At28 W B a b) : W.cell? ⟨B, 1, none⟩ = some (.int .i64 b) := by rw [cell_of_row W B _ _ _ _ h]; rfl
theorem at28_own {β : Type} (B : Nat) (f g : β → Int) : Own (fun s W => At28 W B (f s) (g s)) := fun s X Y row hs hg hrow =>
  hs.kept hg (fun e' => by obtain ⟨o, ho, hc⟩ := hrow B e'.symm; rw [show X.heap[B]? = _ from hs] at ho; cases ho; cases hc)
theorem KeepT.box {W : World} {B t : Nat} {u : Value} (h : Boxed W B t u) (ht : ¬ (t = 35 ∨ t = 89 ∨ t = 118 ∨ t = 129)) (x : Value) : KeepT W (W.setCell ⟨B, 0, none⟩ x) :=
  ⟨(grownBy_setCell' W B x).size, fun k o hk hT => by
    obtain ⟨cs, q, rfl, hq⟩ := hT
    refine ((grownBy_setCell' W B x).block k (Array.getElem?_eq_some_iff.1 hk).1 (fun e => ?_)).trans hk
    cases e
    rw [show W.heap[B]? = _ from h] at hk
    injection hk with hk; injection hk with _ h2 _
    exact ht (h2 ▸ hq)⟩
def holdsV (v : S35) (n g : Int) : Bool := decide ((n, g) ∈ lksV (plain v))
set_option maxRecDepth 100000 in
set_option maxHeartbeats 4000000 in
theorem Holds_calls (v : S35) (A4 : Option Addr) (c4 : Nat) (A5 : Option Addr) (c5 : Nat) (n g : Int) (w : World) (hf : fewV v) (la4 : v.f4.length ≤ c4) (ra4 : k35.C w A4 v.f4.length v.f4) (la5 : v.f5.length ≤ c5) (ra5 : k89.C w A5 v.f5.length v.f5) :
    Calls Try.prog 70 #[.agg #[.int .i64 v.f0, .int .i64 v.f1, .int .i64 v.f2, .string v.f3, .slice A4 v.f4.length c4, .slice A5 v.f5.length c5], .agg #[.int .i64 n, .int .i64 g]] w fun e w' => e = .returned (.bool (holdsV v n g)) ∧ RowKit.Below w.heap.size w w' := by
  have hu35 := Try.underlying35
  have hu28 := Try.underlying28
  refine (callsIn_wide (n := 6)).1 ?_
  refine callsIn_of_wp_marks Try.func70 rfl trivial ?_ rfl
  simp only [Try.ntmps70, List.size_toArray, List.length_cons, List.length_nil, Nat.reduceAdd, Nat.reduceSub, Array.replicate_succ, Array.replicate_zero, List.push_toArray, List.append_toArray, List.nil_append, List.cons_append]
  have h67 : Fence.wide.fn 67 := trivial
  gi_wp2_with (gi_at_call 67; refine (callsIn_wide.2 (Links_calls _ _ _ _ _ _ _ _ _ _ _)).mono ?_; rintro e w' ⟨rfl, rfl⟩)
  have b1 : At28 ((w.alloc (.cells #[.int .i64 v.f0, .int .i64 v.f1, .int .i64 v.f2, .string v.f3, .slice A4 v.f4.length c4, .slice A5 v.f5.length c5] 35)).alloc (.cells #[.int .i64 n, .int .i64 g] 28)) (w.heap.size + 1) n g := by have h := World.alloc_heap_new (w.alloc (.cells #[.int .i64 v.f0, .int .i64 v.f1, .int .i64 v.f2, .string v.f3, .slice A4 v.f4.length c4, .slice A5 v.f5.length c5] 35)) (.cells #[.int .i64 n, .int .i64 g] 28); simpa [At28] using h
  have b1 := (b1.alloc (.cells #[.bool false] 4)).alloc (.cells #[.int .i64 v.f0, .int .i64 v.f1, .int .i64 v.f2, .string v.f3, .slice A4 v.f4.length c4, .slice A5 v.f5.length c5] 35)
  have b2 := (Boxed.new ((w.alloc (.cells #[.int .i64 v.f0, .int .i64 v.f1, .int .i64 v.f2, .string v.f3, .slice A4 v.f4.length c4, .slice A5 v.f5.length c5] 35)).alloc (.cells #[.int .i64 n, .int .i64 g] 28)) 4 (.bool false)).alloc (.cells #[.int .i64 v.f0, .int .i64 v.f1, .int .i64 v.f2, .string v.f3, .slice A4 v.f4.length c4, .slice A5 v.f5.length c5] 35)
  have b3 := blk_new (((w.alloc (.cells #[.int .i64 v.f0, .int .i64 v.f1, .int .i64 v.f2, .string v.f3, .slice A4 v.f4.length c4, .slice A5 v.f5.length c5] 35)).alloc (.cells #[.int .i64 n, .int .i64 g] 28)).alloc (.cells #[.bool false] 4)) (.cells #[.int .i64 v.f0, .int .i64 v.f1, .int .i64 v.f2, .string v.f3, .slice A4 v.f4.length c4, .slice A5 v.f5.length c5] 35)
  simp only [World.size_alloc] at b2 b3
  have hB0 : RowKit.Below w.heap.size w ((((w.alloc (.cells #[.int .i64 v.f0, .int .i64 v.f1, .int .i64 v.f2, .string v.f3, .slice A4 v.f4.length c4, .slice A5 v.f5.length c5] 35)).alloc (.cells #[.int .i64 n, .int .i64 g] 28)).alloc (.cells #[.bool false] 4)).alloc (.cells #[.int .i64 v.f0, .int .i64 v.f1, .int .i64 v.f2, .string v.f3, .slice A4 v.f4.length c4, .slice A5 v.f5.length c5] 35)) := below_alloc (below_alloc (below_alloc (below_alloc (RowKit.Below.refl _ w) _) _) _) _
  have hsz : ((((w.alloc (.cells #[.int .i64 v.f0, .int .i64 v.f1, .int .i64 v.f2, .string v.f3, .slice A4 v.f4.length c4, .slice A5 v.f5.length c5] 35)).alloc (.cells #[.int .i64 n, .int .i64 g] 28)).alloc (.cells #[.bool false] 4)).alloc (.cells #[.int .i64 v.f0, .int .i64 v.f1, .int .i64 v.f2, .string v.f3, .slice A4 v.f4.length c4, .slice A5 v.f5.length c5] 35)).heap.size = w.heap.size + 4 := by simp
  obtain ⟨W0, hW0⟩ : ∃ W0, ((((w.alloc (.cells #[.int .i64 v.f0, .int .i64 v.f1, .int .i64 v.f2, .string v.f3, .slice A4 v.f4.length c4, .slice A5 v.f5.length c5] 35)).alloc (.cells #[.int .i64 n, .int .i64 g] 28)).alloc (.cells #[.bool false] 4)).alloc (.cells #[.int .i64 v.f0, .int .i64 v.f1, .int .i64 v.f2, .string v.f3, .slice A4 v.f4.length c4, .slice A5 v.f5.length c5] 35)) = W0 := ⟨_, rfl⟩
  rw [hW0] at b1 b2 b3 hB0 hsz ⊢
  clear hW0
  refine wpIn_rangeFunc_ownH rfl (by decide) (gf := 127) (lb := #[.pointer (some ⟨w.heap.size + 1 + 1 + 1, 0, none⟩)]) rfl trivial (enters_of Try.func127 (by kernel_rfl) rfl)
    (links_stops v A4 c4 A5 c5 (w.heap.size + 1 + 1 + 1) 5 W0 b3 hf la4 (Kd.C_below ra4 hB0) la5 (Kd.C_below ra5 hB0)) KeepT.trans keepT_b (RowKit.Below.refl _ _) (fun _ => rfl)
    (fun pre W => (((n, g) ∉ pre ∧ Boxed W (w.heap.size + 1 + 1) 4 (.bool false)) ∧ At28 W (w.heap.size + 1) n g) ∧ RowKit.Below w.heap.size w W)
    (fun c pre W => ((c = .ret ∧ (n, g) ∈ pre) ∧ Boxed W (w.heap.size + 1 + 1) 4 (.bool true)) ∧ RowKit.Below w.heap.size w W)
    (OwnFrom.and (OwnFrom.and (OwnFrom.and (ownFrom_pure _ _) (Own.from (boxed_own _ _ _) _)) (Own.from (at28_own _ _ _) _)) (ownFrom_below (Nat.le_refl _) (by omega)))
    (fun c => OwnFrom.and (OwnFrom.and (ownFrom_pure _ _) (Own.from (boxed_own _ _ _) _)) (ownFrom_below (Nat.le_refl _) (by omega)))
    ⟨⟨⟨by simp, b2⟩, b1⟩, hB0⟩
    (fun x a' W => ∃ Bx, w.heap.size + 1 + 1 < Bx ∧ At28 W Bx x.1 x.2 ∧ a' = { tmps := #[.agg #[.int .i64 v.f0, .int .i64 v.f1, .int .i64 v.f2, .string v.f3, .slice A4 v.f4.length c4, .slice A5 v.f5.length c5], .agg #[.int .i64 n, .int .i64 g], .pointer (some ⟨w.heap.size, 0, none⟩), .pointer (some ⟨w.heap.size + 1, 0, none⟩), .pointer (some ⟨w.heap.size + 1 + 1, 0, none⟩), .pointer (some ⟨Bx, 0, none⟩), .agg #[.int .i64 v.f0, .int .i64 v.f1, .int .i64 v.f2, .string v.f3, .slice A4 v.f4.length c4, .slice A5 v.f5.length c5], .func (.func 127) #[] #[.pointer (some ⟨w.heap.size + 1 + 1 + 1, 0, none⟩)], .agg #[.int .i64 x.1, .int .i64 x.2], undef, undef, undef], defers := [] })
    (fun x a' _ X Y row hs hg hr => by obtain ⟨Bx, e1, e2, e3⟩ := hs; exact ⟨Bx, e1, at28_own Bx (fun (_ : Unit) => x.1) (fun _ => x.2) () X Y row e2 hg (fun r e => (hr r e).2), e3⟩)
    ?assign ?body ?done ?stop
  case assign =>
    rintro l pre x W K ⟨⟨⟨hp, bR1⟩, bB1⟩, hB1⟩ hK
    gi_wp2
    exact hK _ _ ((KeepsOthers.alloc _ _).from _) (KeepT.of_below (below_alloc (RowKit.Below.refl _ W) _)) ⟨⟨⟨hp, bR1.alloc _⟩, bB1.alloc _⟩, hB1.alloc hB1.size _⟩ ⟨W.heap.size, bR1.lt, World.alloc_heap_new W _, rfl⟩
  case body =>
    rintro l pre x a' W hl ⟨r, hr⟩ ⟨⟨⟨hp, bR1⟩, bB1⟩, hB1⟩ ⟨Bx, hBx, bX, rfl⟩ hlt
    have cB0 := bB1.c0
    have cB1 := bB1.c1
    have cX0 := bX.c0
    have cX1 := bX.c1
    have cR := bR1.cell
    have fR := bR1.frozen
    obtain ⟨x1, x2⟩ := x
    simp only [] at cX0 cX1
    have hc : (w.heap.size + 1 + 1) < W.heap.size := bR1.lt
    gi_wp2
    · refine ⟨(KeepsOthers.setCell _ _ _).from _, ⟨⟨rfl, List.mem_append.2 (.inr (by simp))⟩, bR1.set _⟩, hB1.setCell (p := ⟨w.heap.size + 1 + 1, 0, none⟩) (by show _ ≤ _ + 1 + 1; omega) _⟩
    all_goals
      refine ⟨KeepsFrom.refl _ _, KeepT.refl _, ⟨⟨fun h => (List.mem_append.1 h).elim hp (fun e => by simp at e; simp_all), bR1⟩, bB1⟩, hB1⟩
  case done =>
    rintro D zs W hD rfl ⟨⟨⟨hp, bR1⟩, bB1⟩, hB1⟩ hK
    have cR := bR1.cell
    have fR := bR1.frozen
    gi_wp2
    have hK' := (KeepsOthers.setCell W ⟨w.heap.size + 1 + 1, 0, none⟩ (.bool false)).same D _ hK rfl
    refine ⟨by simp, .inl ⟨_, _, rfl, run_takeDeferred hK', ?_⟩⟩
    have hc5 := cell_kept (bR1.set (.bool false)).cell (grownBy_putObj' _ D (.deferred none)) (fun r e => by cases e; exact ⟨_, hK', rfl⟩)
    refine ⟨.bool false, ?_, by rw [holdsV, decide_eq_false hp], (hB1.setCell (p := ⟨w.heap.size + 1 + 1, 0, none⟩) (by show _ ≤ _ + 1 + 1; omega) _).trans (belowK_b (w := w) (Nat.le_refl _) _ D _ _ (by omega) hK' rfl rfl)⟩
    simp [results, Try.f70, go_sem, hc5]
  case stop =>
    rintro D c pre W hD hpre ⟨⟨⟨rfl, hin⟩, bR1⟩, hB1⟩ hK
    gi_wp2
    refine ⟨by simp, .inl ⟨_, _, rfl, run_takeDeferred hK, ?_⟩⟩
    have hc5 := cell_kept bR1.cell (grownBy_putObj' _ D (.deferred none)) (fun r e => by cases e; exact ⟨_, hK, rfl⟩)
    refine ⟨.bool true, ?_, by rw [holdsV, decide_eq_true (hpre.subset hin)], hB1.trans (belowK_b (w := w) (Nat.le_refl _) W D _ _ (by omega) hK rfl rfl)⟩
    simp [results, Try.f70, go_sem, hc5]
end Go.Proofs.Ytogpnkkoablmiaa.V
end
section
namespace Go.Proofs.Ytogpnkkoablmiaa.V
open Go.RowKit Go.Shelf Go.Lib Go.Proofs.Ytogpnkkoablmiaa.Q Go.Proofs.YtogpnkkoablmiaaW.PrintWords Go.Proofs.YtogpnkkoablmiaaW.PrintLast Go.Proofs.YtogpnkkoablmiaaW.PrintMore
set_option linter.unusedVariables false
set_option linter.unusedSimpArgs false
attribute [local go_sem] Oper.semAt_some
theorem info28 : (Try.prog.info? 28).map (fun i => (i.zero, i.size, i.bytes)) = some (some (.agg #[(.int .i64 0), (.int .i64 0)]), 2, 16) := by kernel_rfl
def refs (l : List (Int × Int)) : List S28 := l.map fun x => ⟨x.1, x.2⟩
def flat (l : List (Int × Int)) : List Value := l.flatMap fun x => [.int .i64 x.1, .int .i64 x.2]
theorem flat_snoc (l : List (Int × Int)) (x : Int × Int) : flat (l ++ [x]) = flat l ++ [.int .i64 x.1, .int .i64 x.2] := by simp [flat]
theorem reps28 (W : World) (base : Nat) (ok : Nat → Prop) : ∀ l : List (Int × Int), Reps (k28.M W base ok) 2 (refs l) (flat l)
  | [] => Reps.none _ _
  | x :: l => by have h := Reps.c2 (p := ⟨x.1, x.2⟩) (k28_mkM W base ok ⟨x.1, x.2⟩) (reps28 W base ok l); simpa [refs, flat] using h
theorem R28_of {W : World} {base : Nat} {v : Value} {l : List (Int × Int)} (h : W.ownsRow base 28 2 v l.length (flat l)) : k28.R 28 W base (fun _ => True) v (refs l) :=
  ⟨fun _ _ => trivial, flat l, by show W.ownsRow base 28 2 v (refs l).length (flat l); rw [show (refs l).length = l.length by simp [refs]]; exact h, reps28 _ _ _ l⟩
theorem KeepT.grown {W W' : World} {v : Value} {n : Nat} {base e size : Nat} {xs : List Value} (h : W.grownBy W' v.ownBlock) (ho : W.ownsRow base e size v n xs) (he : ¬ (e = 35 ∨ e = 89 ∨ e = 118 ∨ e = 129)) : KeepT W W' :=
  ⟨h.size, fun k o hk hT => by
    obtain ⟨cs, q, rfl, hq⟩ := hT
    refine (h.block k (Array.getElem?_eq_some_iff.1 hk).1 (fun e' => ?_)).trans hk
    obtain ⟨cells, hc⟩ := own_typed ho k e'.symm
    rw [hc] at hk
    injection hk with hk; injection hk with _ h2 _
    exact he (h2 ▸ hq)⟩
theorem cell_two_new (w : World) (x y : Value) (t : TypeId) : ∀ j u, [x, y][j]? = some u → (w.alloc (.cells #[x, y] t)).cell? ((⟨w.heap.size, 0, none⟩ : Addr).add j) = some u := by
  intro j u hj
  have h := World.alloc_heap_new w (.cells #[x, y] t)
  match j, hj with
  | 0, hj => simp at hj; subst hj; show (w.alloc (.cells #[x, y] t)).cell? ⟨w.heap.size, 0, none⟩ = _; rw [cell_of_row _ _ _ _ _ _ h]; rfl
  | 1, hj => simp at hj; subst hj; show (w.alloc (.cells #[x, y] t)).cell? ⟨w.heap.size, 0 + 1, none⟩ = _; rw [cell_of_row _ _ _ _ _ _ h]; rfl
set_option maxRecDepth 100000 in
set_option maxHeartbeats 4000000 in
theorem links_calls (v : S35) (A4 : Option Addr) (c4 : Nat) (A5 : Option Addr) (c5 : Nat) (w : World) (hf : fewV v) (hN : (lksV (plain v)).length ≤ 90000) (la4 : v.f4.length ≤ c4) (ra4 : k35.C w A4 v.f4.length v.f4) (la5 : v.f5.length ≤ c5) (ra5 : k89.C w A5 v.f5.length v.f5) :
    Calls Try.prog 68 #[.agg #[.int .i64 v.f0, .int .i64 v.f1, .int .i64 v.f2, .string v.f3, .slice A4 v.f4.length c4, .slice A5 v.f5.length c5]] w fun e w' => ∃ v0, e = .returned v0 ∧ k28.R 28 w' w.heap.size (fun _ => True) v0 (refs (lksV (plain v))) ∧ RowKit.Below w.heap.size w w' := by
  have hu35 := Try.underlying35
  have hu28 := Try.underlying28
  have hu31 := Try.underlying31
  obtain ⟨i0, hi, hz0, hz1, hz2⟩ := info_parts info28
  refine (callsIn_wide (n := 6)).1 ?_
  refine callsIn_of_wp_marks Try.func68 rfl trivial ?_ rfl
  simp only [Try.ntmps68, List.size_toArray, List.length_cons, List.length_nil, Nat.reduceAdd, Nat.reduceSub, Array.replicate_succ, Array.replicate_zero, List.push_toArray, List.append_toArray, List.nil_append, List.cons_append]
  have h67 : Fence.wide.fn 67 := trivial
  gi_wp2_with (gi_at_call 67; refine (callsIn_wide.2 (Links_calls _ _ _ _ _ _ _ _ _ _ _)).mono ?_; rintro e w' ⟨rfl, rfl⟩)
  have ow := World.ownsRow_lit (base := w.heap.size) (e := 28) (size := 2) (w.alloc (.cells #[.int .i64 v.f0, .int .i64 v.f1, .int .i64 v.f2, .string v.f3, .slice A4 v.f4.length c4, .slice A5 v.f5.length c5] 35)) #[] 0 (by simp) (by simp [maxLen]) (by simp)
  have b2 := (Boxed.new ((w.alloc (.cells #[.int .i64 v.f0, .int .i64 v.f1, .int .i64 v.f2, .string v.f3, .slice A4 v.f4.length c4, .slice A5 v.f5.length c5] 35)).alloc (.cells #[] 28)) 31 (.slice (some ⟨w.heap.size + 1, 0, none⟩) 0 0)).alloc (.cells #[.int .i64 v.f0, .int .i64 v.f1, .int .i64 v.f2, .string v.f3, .slice A4 v.f4.length c4, .slice A5 v.f5.length c5] 35)
  have b3 := blk_new (((w.alloc (.cells #[.int .i64 v.f0, .int .i64 v.f1, .int .i64 v.f2, .string v.f3, .slice A4 v.f4.length c4, .slice A5 v.f5.length c5] 35)).alloc (.cells #[] 28)).alloc (.cells #[.slice (some ⟨w.heap.size + 1, 0, none⟩) 0 0] 31)) (.cells #[.int .i64 v.f0, .int .i64 v.f1, .int .i64 v.f2, .string v.f3, .slice A4 v.f4.length c4, .slice A5 v.f5.length c5] 35)
  simp only [World.size_alloc] at ow b2 b3
  have hB0 : RowKit.Below w.heap.size w ((((w.alloc (.cells #[.int .i64 v.f0, .int .i64 v.f1, .int .i64 v.f2, .string v.f3, .slice A4 v.f4.length c4, .slice A5 v.f5.length c5] 35)).alloc (.cells #[] 28)).alloc (.cells #[.slice (some ⟨w.heap.size + 1, 0, none⟩) 0 0] 31)).alloc (.cells #[.int .i64 v.f0, .int .i64 v.f1, .int .i64 v.f2, .string v.f3, .slice A4 v.f4.length c4, .slice A5 v.f5.length c5] 35)) := below_alloc (below_alloc (below_alloc (below_alloc (RowKit.Below.refl _ w) _) _) _) _
  have ow0 : ((((w.alloc (.cells #[.int .i64 v.f0, .int .i64 v.f1, .int .i64 v.f2, .string v.f3, .slice A4 v.f4.length c4, .slice A5 v.f5.length c5] 35)).alloc (.cells #[] 28)).alloc (.cells #[.slice (some ⟨w.heap.size + 1, 0, none⟩) 0 0] 31)).alloc (.cells #[.int .i64 v.f0, .int .i64 v.f1, .int .i64 v.f2, .string v.f3, .slice A4 v.f4.length c4, .slice A5 v.f5.length c5] 35)).ownsRow w.heap.size 28 2 (.slice (some ⟨w.heap.size + 1, 0, none⟩) 0 0) 0 [] := (by simpa using (ow.alloc _).alloc _)
  have hsz : ((((w.alloc (.cells #[.int .i64 v.f0, .int .i64 v.f1, .int .i64 v.f2, .string v.f3, .slice A4 v.f4.length c4, .slice A5 v.f5.length c5] 35)).alloc (.cells #[] 28)).alloc (.cells #[.slice (some ⟨w.heap.size + 1, 0, none⟩) 0 0] 31)).alloc (.cells #[.int .i64 v.f0, .int .i64 v.f1, .int .i64 v.f2, .string v.f3, .slice A4 v.f4.length c4, .slice A5 v.f5.length c5] 35)).heap.size = w.heap.size + 4 := by simp
  obtain ⟨W0, hW0⟩ : ∃ W0, ((((w.alloc (.cells #[.int .i64 v.f0, .int .i64 v.f1, .int .i64 v.f2, .string v.f3, .slice A4 v.f4.length c4, .slice A5 v.f5.length c5] 35)).alloc (.cells #[] 28)).alloc (.cells #[.slice (some ⟨w.heap.size + 1, 0, none⟩) 0 0] 31)).alloc (.cells #[.int .i64 v.f0, .int .i64 v.f1, .int .i64 v.f2, .string v.f3, .slice A4 v.f4.length c4, .slice A5 v.f5.length c5] 35)) = W0 := ⟨_, rfl⟩
  rw [hW0] at b2 b3 hB0 hsz ow0 ⊢
  clear hW0 ow
  refine wpIn_rangeFunc_ownH rfl (by decide) (gf := 127) (lb := #[.pointer (some ⟨w.heap.size + 1 + 1 + 1, 0, none⟩)]) rfl trivial (enters_of Try.func127 (by kernel_rfl) rfl)
    (links_stops v A4 c4 A5 c5 (w.heap.size + 1 + 1 + 1) 5 W0 b3 hf la4 (Kd.C_below ra4 hB0) la5 (Kd.C_below ra5 hB0)) KeepT.trans keepT_b (RowKit.Below.refl _ _) (fun _ => rfl)
    (fun pre W => (∃ v, Boxed W (w.heap.size + 1 + 1) 31 v ∧ W.ownsRow w.heap.size 28 2 v pre.length (flat pre) ∧ True) ∧ RowKit.Below w.heap.size w W)
    (fun _ _ _ => False)
    (OwnFrom.and (Own.from (holdsRow_own w.heap.size (w.heap.size + 1 + 1) 31 28 2 (fun pre : List (Int × Int) => pre.length) (fun pre : List (Int × Int) => flat pre) (fun _ _ => True)) _) (ownFrom_below (Nat.le_refl _) (by omega)))
    (fun _ _ _ _ _ hs _ _ => hs)
    ⟨⟨_, b2, ow0, trivial⟩, hB0⟩
    (fun x a' W => ∃ Bx, w.heap.size + 1 + 1 < Bx ∧ At28 W Bx x.1 x.2 ∧ a' = { tmps := #[.agg #[.int .i64 v.f0, .int .i64 v.f1, .int .i64 v.f2, .string v.f3, .slice A4 v.f4.length c4, .slice A5 v.f5.length c5], .pointer (some ⟨w.heap.size, 0, none⟩), .slice none 0 0, .pointer (some ⟨w.heap.size + 1 + 1, 0, none⟩), .pointer (some ⟨Bx, 0, none⟩), .slice (some ⟨w.heap.size + 1, 0, none⟩) 0 0, .agg #[.int .i64 v.f0, .int .i64 v.f1, .int .i64 v.f2, .string v.f3, .slice A4 v.f4.length c4, .slice A5 v.f5.length c5], .func (.func 127) #[] #[.pointer (some ⟨w.heap.size + 1 + 1 + 1, 0, none⟩)], .agg #[.int .i64 x.1, .int .i64 x.2], undef, undef, undef, undef, undef], defers := [] })
    (fun x a' _ X Y row hs hg hr => by obtain ⟨Bx, e1, e2, e3⟩ := hs; exact ⟨Bx, e1, at28_own Bx (fun (_ : Unit) => x.1) (fun _ => x.2) () X Y row e2 hg (fun r e => (hr r e).2), e3⟩)
    ?assign ?body ?done ?stop
  case assign =>
    rintro l pre x W K ⟨⟨v1, bR1, hrow, -⟩, hB1⟩ hK
    gi_wp2
    exact hK _ _ ((KeepsOthers.alloc _ _).from _) (KeepT.of_below (below_alloc (RowKit.Below.refl _ W) _)) ⟨⟨_, bR1.alloc _, hrow.alloc _, trivial⟩, hB1.alloc hB1.size _⟩ ⟨W.heap.size, bR1.lt, World.alloc_heap_new W _, rfl⟩
  case body =>
    rintro l pre x a' W hl ⟨r, hr⟩ ⟨⟨v1, bR1, hrow, -⟩, hB1⟩ ⟨Bx, hBx, bX, rfl⟩ hlt
    have cX0 := bX.c0
    have cX1 := bX.c1
    have cR := bR1.cell
    have fR := bR1.frozen
    have hsW := hB1.size
    gi_wp2_with (gi_at_builtin; refine wpListIn_append_own _ rfl _ _ 31 rfl w.heap.size 28 i0 _ 2 16 Try.underlying31 hi hz0 hz1 hz2 rfl (by decide) _ _ _ rfl (hrow.alloc _) ⟨W.heap.size, 0, none⟩ 1 1 [.int .i64 x.1, .int .i64 x.2] rfl rfl (cell_two_new _ _ _ _) (by simp [Value.oneCell']) (by simp [maxLen]; omega) (by omega) (by simp; omega) ?_; intro v' w1 hown' hgrow _; obtain ⟨g', cap', rfl⟩ := ownsRow_succ hown'; obtain ⟨hv1, hv2, hr2, hk2, hb2⟩ := bR1.appended (by decide) hrow hB1.size (by omega) hown' hgrow; have hc1 := hv1.cell; have hf1 := hv1.frozen)
    have hr3 : (w1.setCell ⟨w.heap.size + 1 + 1, 0, none⟩ (.slice (some ⟨g', 0, none⟩) (pre.length + 1) cap')).ownsRow w.heap.size 28 2 (.slice (some ⟨g', 0, none⟩) (pre.length + 1) cap') (pre ++ [x]).length (flat (pre ++ [x])) := by rw [List.length_append, flat_snoc]; exact hr2
    exact ⟨hk2.from _, (KeepT.of_below (below_alloc (RowKit.Below.refl _ W) _)).trans ((KeepT.grown hgrow (hrow.alloc _) (by decide)).trans (KeepT.box hv1 (by decide) _)), ⟨⟨_, hv2, hr3, trivial⟩, hB1.trans hb2⟩⟩
  case done =>
    rintro D ys W hD rfl ⟨⟨v1, bR1, hrow, -⟩, hB1⟩ hK
    have cR := bR1.cell
    gi_wp2
    refine ⟨by simp, .inl ⟨_, _, rfl, run_takeDeferred hK, ?_⟩⟩
    exact ⟨_, results_tmp rfl _ _ _, v1, rfl, R28_of (ownsRow_putObj hrow _ hK rfl), hB1.trans (belowK_b (w := w) (Nat.le_refl _) W D _ _ (by omega) hK rfl rfl)⟩
  case stop =>
    rintro D c pre W _ _ h _
    exact h.elim
end Go.Proofs.Ytogpnkkoablmiaa.V
end
