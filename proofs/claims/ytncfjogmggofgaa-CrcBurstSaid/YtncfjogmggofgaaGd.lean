/- crc: what twice does -/
import Derived.Test.YtncfjogmggofgaaGc
import Derived.Test.YtncfjogmggofgaaProg
import Derived.Below
import Derived.Deep.Draws
import Derived.Deep.AppendLies
import Derived.Maps.AppendAt
import Derived.OwnWalk
import Derived.Laws.BytesArg
import Derived.Laws.MakeOwn
import Derived.Laws.OwnMore
import Derived.Deep.OwnRows
import Derived.Tactics
import Derived.Lib.ConvBytes
import Derived.Laws.Slices
import Derived.WalkKit
import Derived.KernelRfl
import Derived.RowKit3
import Derived.Deep.LoopGhost
import Derived.Deep.QuietTactic
import Derived.BigQuiet
import Derived.WideLaws
import Derived.Deep.DeepCutAuto
import Derived.Deep.CutBlock
import Derived.Deep.RegionHeld3
import Derived.Laws.Rows
import Derived.Lib.AppendStr
import Derived.ArgAppend
import Derived.Laws.IdiomCopy
import Derived.OrdersHeld
import Derived.Laws.BitsLemmas
import Derived.RowKit
import Derived.Test.YtncfjogmggofgaaWWords
import Derived.Test.YtncfjogmggofgaaWLast
import Derived.Test.YtncfjogmggofgaaWTab
import Derived.Test.YtncfjogmggofgaaWFour
import Derived.Test.YtncfjogmggofgaaWQPut
import Derived.Test.YtncfjogmggofgaaWApart
import Derived.Test.YtncfjogmggofgaaWArr
import Derived.Test.YtncfjogmggofgaaWZeros
import Derived.Test.YtncfjogmggofgaaWFoot
import Derived.Test.YtncfjogmggofgaaWKept
import Derived.Test.YtncfjogmggofgaaWShare
import Derived.Test.YtncfjogmggofgaaWN
import Derived.Test.YtncfjogmggofgaaWFootNe
import Derived.Test.YtncfjogmggofgaaWAt
import Derived.Test.YtncfjogmggofgaaWEqStruct
import Derived.Test.YtncfjogmggofgaaWRepsOne
import Derived.Test.YtncfjogmggofgaaWInv
import Derived.Test.YtncfjogmggofgaaWInvWords
import Derived.Test.YtncfjogmggofgaaWGuard
import Derived.Test.YtncfjogmggofgaaWNEv
import Derived.Test.YtncfjogmggofgaaWMore
namespace Go.Proofs.Ytncfjogmggofgaa.G
open Go.RowKit Go.Proofs.YtncfjogmggofgaaW.PrintWords Go.Proofs.YtncfjogmggofgaaW.PrintLast Go.Proofs.YtncfjogmggofgaaW.PrintMore
set_option linter.unusedVariables false
set_option linter.unusedSimpArgs false
/-! ### twice -/
def twice (l : List Int) : List Int := (List.range 32).map fun i => ofR (l.getD i 0) 0 l 0
theorem twice_len (l : List Int) : (twice l).length = 32 := by simp [twice]

theorem yields_load_row {P : Program} {oi : Oper} {a : Act} {w : World} (ty : TypeId) (x : Operand) (ho : oi.op = .load ty x)
    (g : Nat) (hx : a.eval x = .pointer (some ⟨g, 0, none⟩)) (t : TypeId) (cs : Array Value) (fr : Nat × Nat) (d : TypeDesc) (hg : w.heap[g]? = some (.cells cs t fr))
    (hu : P.underlying ty = some d) (hd : (match d with | .struct _ | .array _ _ => true | _ => false) = true) (hi : (P.info? ty).map (·.size) = some cs.size) : (execOp a.eval oi).run P w = .ok (.value (.agg cs)) w := by
  unfold execOp
  simp only [ho, hx, Instr.loadAt, Instr.sureAddr, Sem.run_bind, Sem.run_pure, Result.andThen_ok, run_loadVar_row w g t ty cs fr d hg hu hd hi]

set_option maxHeartbeats 4000000 in
set_option maxRecDepth 100000 in
theorem twice_calls (m : List Int) (hm : m.length = 32) (w : World) : Calls Try.prog 20 #[.agg (vals m)] w fun e w' => e = .returned (.agg (vals (twice m))) ∧ Below w.heap.size w w' := by
  have HM := Aside0.mk hm
  go_enter Try.func20, Try.ntmps20
  go_wp2
  have b1 := below_alloc (Below.refl w.heap.size w) (.cells (vals m) 45)
  have b2 := below_alloc b1 (.cells (vals zeros) 45)
  have HB := Aside0.mk (below_alloc b2 (.cells (vals zeros) 45))
  have HM0 := Aside0.mk (((Blk.new w m hm).below (below_alloc (Below.refl _ _) (.cells (vals zeros) 45))).below (below_alloc (Below.refl _ _) (.cells (vals zeros) 45)))
  have H0 := Aside0.mk ((Blk.new (w.alloc (.cells (vals m) 45)) zeros zeros_len).below (below_alloc (Below.refl _ _) (.cells (vals zeros) 45)))
  have H1 := Aside0.mk (Blk.new ((w.alloc (.cells (vals m) 45)).alloc (.cells (vals zeros) 45)) zeros zeros_len)
  have e1 : (w.alloc (.cells (vals m) 45)).heap.size = w.heap.size + 1 := by simp
  have e2 : ((w.alloc (.cells (vals m) 45)).alloc (.cells (vals zeros) 45)).heap.size = w.heap.size + 1 + 1 := by simp
  rw [e2] at H1
  rw [e1] at H0
  clear e1 e2 b1 b2
  change Code.wp Try.prog _ _ _ (((w.alloc (.cells (vals m) 45)).alloc (.cells (vals zeros) 45)).alloc (.cells (vals zeros) 45))
  generalize ((w.alloc (.cells (vals m) 45)).alloc (.cells (vals zeros) 45)).alloc (.cells (vals zeros) 45) = W at HB HM0 H0 H1 ⊢
  obtain ⟨gm, hgm⟩ : ∃ g, w.heap.size = g := ⟨_, rfl⟩
  obtain ⟨g0, hg0⟩ : ∃ g, w.heap.size + 1 = g := ⟨_, rfl⟩
  obtain ⟨g1, hg1⟩ : ∃ g, w.heap.size + 1 + 1 = g := ⟨_, rfl⟩
  have HG := Aside0.mk (show g0 ≠ g1 ∧ gm ≠ g1 ∧ w.heap.size ≤ g0 ∧ w.heap.size ≤ g1 from by omega)
  rw [hg1] at H1 ⊢
  rw [hg0] at H0 ⊢
  rw [hgm] at HM0
  simp only [hgm]
  clear hg0 hg1 hgm
  go_loopg [5] 32 (fun kq v5 w' => ∃ (i : Nat) (l : List Int), v5 = .int .i64 i ∧ Aside0 (i + kq = 32) ∧ Aside0 (Blk w' gm m) ∧ Aside0 (Blk w' g0 zeros) ∧ Aside0 (Blk w' g1 l) ∧ Aside0 (∀ j, j < i → l.getD j 0 = ofR (m.getD j 0) 0 m 0) ∧ Aside0 (Below w.heap.size w w'))
  case atStart => exact ⟨0, zeros, rfl, ⟨by omega⟩, HM0, H0, H1, ⟨fun j hj => by omega⟩, HB⟩
  case round =>
    clear HB H0 H1 HM0
    obtain ⟨i, l, rfl, HI, HM0, H0, H1, HF, HB⟩ := hrel
    by_cases hlt : i < 32
    · obtain ⟨k1, rfl⟩ : ∃ k1, gk = k1 + 1 := ⟨gk - 1, by have := HI.out; omega⟩
      have h0 : (0 : Int) ≤ (i : Int) := by omega
      have h32 : (i : Int) ≤ 32 := by omega
      have hz : (Try.prog.info? 45).map (·.size) = some (vals m).size := by rw [vals_size, HM.out]; exact info45
      obtain ⟨x, hx⟩ : ∃ x, m.getD i 0 = x := ⟨_, rfl⟩
      have hc := HM0.out.drawn.cell i hlt
      rw [hx] at hc
      have HX := Aside0.mk hx
      clear hx
      go_wp2_with fail
      have hgc := HM0.out.drawn.heap
      refine start_ (n := 8) (S := fun w' => w' = wr.drew) (ds := [5, 7]) #[false, false, false, false, false, false, false, false] (by kernel_rfl) rfl rfl rfl (fun hHeld => ?_)
      refine pure_ (i := 0) (N := some 8) (v := ?_) (a' := ?_) #[true, false, false, false, false, false, false, false] rfl rfl (by kernel_rfl) (fun _ _ _ h => h) (Or.inl ⟨by rfl, ?_⟩) ?_ ?_
      rotate_left
      · intro w'
        go_simp
        with_reducible rfl
      rotate_left
      · simp only [Act.put, List.setIfInBounds_toArray, List.set_cons_zero, List.set_cons_succ, i64_w, i32_w]
        rfl
      refine pure_ (i := 2) (N := some 10) (v := ?_) (a' := ?_) #[true, false, true, false, false, false, false, false] rfl rfl (by kernel_rfl) (fun _ _ _ h => h) (Or.inl ⟨by rfl, ?_⟩) ?_ ?_
      rotate_left
      · intro w'
        go_simp
        with_reducible rfl
      rotate_left
      · simp only [Act.put, List.setIfInBounds_toArray, List.set_cons_zero, List.set_cons_succ, i64_w, i32_w]
        rfl
      refine pure_ (i := 3) (N := some 11) (v := ?_) (a' := ?_) #[true, false, true, true, false, false, false, false] rfl rfl (by kernel_rfl) (fun _ _ _ h => h) (Or.inl ⟨by rfl, ?_⟩) ?_ ?_
      rotate_left
      · intro w'
        go_simp
        with_reducible rfl
      rotate_left
      · simp only [Act.put, List.setIfInBounds_toArray, List.set_cons_zero, List.set_cons_succ, i64_w, i32_w]
        rfl
      refine take_ (i := 1) (N := some 9) (v := ?_) (a' := ?_) #[true, true, true, true, false, false, false, false] rfl rfl (by kernel_rfl) (fun _ _ _ h => h) (Or.inl ⟨by rfl, ?_⟩) hHeld ?_ ?_
      rotate_left
      · rintro w' rfl
        refine yields_load_row 45 (.tmp 1) ?_ gm ?_ 45 _ (0, 0) _ hgc Try.underlying45 rfl hz <;> rfl
      rotate_left
      · simp only [Act.put, List.setIfInBounds_toArray, List.set_cons_zero, List.set_cons_succ, i64_w, i32_w]
        rfl
      refine take_ (i := 4) (N := some 12) (v := ?_) (a' := ?_) #[true, true, true, true, true, false, false, false] rfl rfl (by kernel_rfl) (fun _ _ _ h => h) (Or.inl ⟨by rfl, ?_⟩) hHeld ?_ ?_
      rotate_left
      · rintro w' rfl
        go_simp
        with_reducible rfl
      rotate_left
      · simp only [Act.put, List.setIfInBounds_toArray, List.set_cons_zero, List.set_cons_succ, i64_w, i32_w]
        rfl
      refine last_ (i := 5) (N := some 13) #[true, true, true, true, true, true, false, false] rfl rfl (by kernel_rfl) (by decide) (fun K hK => ?_)
      refine goes_ Try.func19 (by kernel_rfl) rfl #[.agg (vals m), .int .u32 x] (by rfl) rfl rfl (by first | rfl | (simp only [List.map_toArray, List.map_cons, List.map_nil]; rfl)) ?_
      refine (of_calls m HM.out _ _).mono ?_
      rintro e w2 ⟨rfl, hb2⟩
      have HB2 := Aside0.mk hb2
      clear hb2
      have hc2 := (H1.out.drawn.below HB2.out).cell i hlt
      have hf2 := (H1.out.drawn.below HB2.out).frozen i
      refine ⟨_, rfl, ?_⟩
      refine hK.out _ _ ?_
      clear hK K
      refine norm_ (a' := ?_) ?_ ?_
      rotate_left
      · show Act.put _ (some 13) _ = _
        simp only [Act.put, List.setIfInBounds_toArray, List.set_cons_zero, List.set_cons_succ, i64_w, i32_w]
        rfl
      refine pure_ (i := 6) (N := some 14) (v := ?_) (a' := ?_) #[true, true, true, true, true, true, true, false] rfl rfl (by kernel_rfl) (fun _ _ _ h => h) (Or.inl ⟨by rfl, ?_⟩) ?_ ?_
      rotate_left
      · intro w'
        go_simp
        with_reducible rfl
      rotate_left
      · simp only [Act.put, List.setIfInBounds_toArray, List.set_cons_zero, List.set_cons_succ, i64_w, i32_w]
        rfl
      refine last_ (i := 7) (N := none) #[true, true, true, true, true, true, true, true] rfl rfl (by kernel_rfl) (by decide) (fun K hK => ?_)
      refine skip_ (w1 := ?_) (by rfl) rfl ?_ ?_
      rotate_left
      · go_simp
        rfl
      refine hK.out _ _ ?_
      clear hK K
      refine done_ (by kernel_rfl) ?_
      go_wp2
      go_roundg k1
      case measure => have := HI.out; omega
      case rel =>
        have hs := HB.out.size
        have hne : g0 ≠ g1 := HG.out.1
        refine ⟨i + 1, l.set i (ofR (m.getD i 0) 0 m 0), by go_num, ⟨by have := HI.out; omega⟩, ⟨(HM0.out.drawn.below HB2.out).other HG.out.2.1 i _⟩, ⟨(H0.out.drawn.below HB2.out).other hne i _⟩, ⟨by rw [HX.out]; exact (H1.out.drawn.below HB2.out).set i _⟩, ⟨fun j hj => ?_⟩, ⟨(below_then (below_drew1 HB.out) (by exact hs) HB2.out).setCell HG.out.2.2.2 _⟩⟩
        rw [getD_set l i j _ H1.out.len hlt]
        by_cases he : j = i
        · rw [if_pos he, he]
        · rw [if_neg he]
          exact HF.out j (by omega)
    · have hl : l = twice m := list_of l _ H1.out.len (fun j hj => HF.out j (by omega))
      subst hl
      have hz : (Try.prog.info? 45).map (·.size) = some (vals (twice m)).size := by rw [vals_size, twice_len]; exact info45
      have hall : (vals (twice m)).all (·.oneCell') = true := by
        simp [vals, nums, Value.oneCell']
      have hsz : (vals zeros).size = (vals (twice m)).size := by rw [vals_size, vals_size, twice_len]; rfl
      go_wp2_with (first | (refine wpList_load_row rfl 45 _ rfl g1 rfl 45 _ (0, 0) _ H1.out.heap Try.underlying45 rfl hz ?_) | (refine wpList_store_row rfl 45 _ _ rfl g0 _ rfl rfl 45 _ H0.out.heap hz hsz hall ?_))
      exact bodyPost_ret (v := .agg (vals (twice m))) (results_cell_row (p := 2) (ty := 45) rfl _ _ g0 45 _ (0, 0) _ rfl (H0.out.row H1.out.len).heap Try.underlying45 rfl hz) rfl ⟨rfl, below_setRow HB.out HG.out.2.2.1 _⟩
end Go.Proofs.Ytncfjogmggofgaa.G
