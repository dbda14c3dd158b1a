/- crc: arrays of 32 numbers in memory; what byteSteps does -/
import Derived.Test.YtncfjogmggofgaaGb
import Derived.Test.YtncfjogmggofgaaProg
import Derived.Below
import Derived.Deep.Draws
import Derived.Deep.AppendLies
import Derived.Maps.AppendAt
import Derived.OwnWalk
import Derived.Laws.BytesArg
import Derived.Laws.MakeOwn
import Derived.Laws.OwnMore
import Derived.Deep.OwnRows
import Derived.Tactics
import Derived.Lib.ConvBytes
import Derived.Laws.Slices
import Derived.WalkKit
import Derived.KernelRfl
import Derived.RowKit3
import Derived.Deep.LoopGhost
import Derived.Deep.QuietTactic
import Derived.BigQuiet
import Derived.WideLaws
import Derived.Deep.DeepCutAuto
import Derived.Deep.CutBlock
import Derived.Deep.RegionHeld3
import Derived.Laws.Rows
import Derived.Lib.AppendStr
import Derived.ArgAppend
import Derived.Laws.IdiomCopy
import Derived.OrdersHeld
import Derived.Laws.BitsLemmas
import Derived.RowKit
import Derived.Test.YtncfjogmggofgaaWWords
import Derived.Test.YtncfjogmggofgaaWLast
import Derived.Test.YtncfjogmggofgaaWTab
import Derived.Test.YtncfjogmggofgaaWFour
import Derived.Test.YtncfjogmggofgaaWQPut
import Derived.Test.YtncfjogmggofgaaWApart
import Derived.Test.YtncfjogmggofgaaWArr
import Derived.Test.YtncfjogmggofgaaWZeros
import Derived.Test.YtncfjogmggofgaaWFoot
import Derived.Test.YtncfjogmggofgaaWKept
import Derived.Test.YtncfjogmggofgaaWShare
import Derived.Test.YtncfjogmggofgaaWN
import Derived.Test.YtncfjogmggofgaaWFootNe
import Derived.Test.YtncfjogmggofgaaWAt
import Derived.Test.YtncfjogmggofgaaWEqStruct
import Derived.Test.YtncfjogmggofgaaWRepsOne
import Derived.Test.YtncfjogmggofgaaWInv
import Derived.Test.YtncfjogmggofgaaWInvWords
import Derived.Test.YtncfjogmggofgaaWGuard
import Derived.Test.YtncfjogmggofgaaWNEv
import Derived.Test.YtncfjogmggofgaaWMore
namespace Go.Proofs.Ytncfjogmggofgaa.G
open Go.RowKit Go.Proofs.YtncfjogmggofgaaW.PrintWords Go.Proofs.YtncfjogmggofgaaW.PrintLast Go.Proofs.YtncfjogmggofgaaW.PrintMore
set_option linter.unusedVariables false
set_option linter.unusedSimpArgs false
structure Blk (W : World) (g : Nat) (l : List Int) : Prop where
  len : l.length = 32
  heap : W.heap[g]? = some (.cells (vals l) 45 (0, 0))
theorem Blk.lt {W : World} {g : Nat} {l : List Int} (h : Blk W g l) : g < W.heap.size := (Array.getElem?_eq_some_iff.1 h.heap).1
theorem Blk.cell {W : World} {g : Nat} {l : List Int} (h : Blk W g l) (i : Nat) (hi : i < 32) : W.cell? ⟨g, i, none⟩ = some (.int .u32 (l.getD i 0)) := by
  have hl : i < l.length := by rw [h.len]; exact hi
  simp [World.cell?, h.heap, vals, nums, List.getD_eq_getElem?_getD, List.getElem?_eq_getElem hl]
theorem Blk.frozen {W : World} {g : Nat} {l : List Int} (h : Blk W g l) (i : Nat) : W.frozen? ⟨g, i, none⟩ = false := frozen_of_row W g i _ 45 h.heap
theorem Blk.set {W : World} {g : Nat} {l : List Int} (h : Blk W g l) (i : Nat) (x : Int) : Blk (W.setCell ⟨g, i, none⟩ (.int .u32 x)) g (l.set i x) := by
  refine ⟨by rw [List.length_set]; exact h.len, ?_⟩
  rw [setCell_eq_setRow W g i _ 45 (0, 0) _ h.heap, setRow_heap W g _ _ 45 (0, 0) h.heap]
  simp [vals, nums, List.map_set]
theorem Blk.other {W : World} {g k : Nat} {l : List Int} (h : Blk W g l) (hk : g ≠ k) (i : Nat) (v : Value) : Blk (W.setCell ⟨k, i, none⟩ v) g l :=
  ⟨h.len, by rw [Below.heap_setCell _ _ _ _ hk]; exact h.heap⟩
theorem Blk.row {W : World} {g : Nat} {l l' : List Int} (h : Blk W g l) (hl : l'.length = 32) : Blk (W.setRow g (vals l')) g l' :=
  ⟨hl, setRow_heap W g _ _ 45 (0, 0) h.heap⟩
theorem Blk.otherRow {W : World} {g k : Nat} {l : List Int} (h : Blk W g l) (hk : g ≠ k) (cs : Array Value) : Blk (W.setRow k cs) g l :=
  ⟨h.len, by rw [setRow_other W k g cs hk]; exact h.heap⟩
theorem Blk.below {W W' : World} {g : Nat} {l : List Int} (h : Blk W g l) (hb : Below W.heap.size W W') : Blk W' g l :=
  ⟨h.len, (hb.block g h.lt).trans h.heap⟩
theorem Blk.drawn {W : World} {g : Nat} {l : List Int} (h : Blk W g l) : Blk W.drew g l := ⟨h.len, h.heap⟩
theorem Blk.new (W : World) (l : List Int) (hl : l.length = 32) : Blk (W.alloc (.cells (vals l) 45)) W.heap.size l := ⟨hl, heap_alloc_new W _⟩
theorem below_setRow {B : Nat} {a w : World} (h : Below B a w) {g : Nat} (hp : B ≤ g) (cs : Array Value) : Below B a (w.setRow g cs) :=
  h.trans ⟨rfl, rfl, rfl, by simp, fun k hk => setRow_other _ _ _ _ (by omega)⟩
def zeros : List Int := List.replicate 32 0
theorem zeros_len : zeros.length = 32 := rfl
theorem list_of (l : List Int) (f : Nat → Int) (hl : l.length = 32) (h : ∀ j, j < 32 → l.getD j 0 = f j) : l = (List.range 32).map f := by
  apply List.ext_getElem
  · simp [hl]
  · intro j h1 h2
    have := h j (by omega)
    rw [List.getD_eq_getElem?_getD, List.getElem?_eq_getElem h1] at this
    simpa using this
theorem getD_set (l : List Int) (i j : Nat) (x : Int) (hl : l.length = 32) (hi : i < 32) : (l.set i x).getD j 0 = if j = i then x else l.getD j 0 := by
  simp only [List.getD_eq_getElem?_getD, List.getElem?_set]
  by_cases h : i = j
  · subst h; simp [hl, hi]
  · rw [if_neg h, if_neg (fun e => h e.symm)]
def bstep (i : Nat) : Int := runF (2 ^ i % 4294967296) (bytesOf ⟨#[0]⟩)
def bsteps : List Int := (List.range 32).map bstep

set_option maxHeartbeats 4000000 in
set_option maxRecDepth 100000 in
theorem byteSteps_calls (w : World) : Calls Try.prog 18 #[] w fun e w' => e = .returned (.agg (vals bsteps)) ∧ Below w.heap.size w w' := by
  go_enter Try.func18, Try.ntmps18
  go_wp2
  have HB := Aside0.mk (below_alloc (below_alloc (Below.refl w.heap.size w) (.cells (vals zeros) 45)) (.cells (vals zeros) 45))
  have H0 := Aside0.mk ((Blk.new w zeros zeros_len).below (below_alloc (Below.refl _ _) (.cells (vals zeros) 45)))
  have H1 := Aside0.mk (Blk.new (w.alloc (.cells (vals zeros) 45)) zeros zeros_len)
  have e1 : (w.alloc (.cells (vals zeros) 45)).heap.size = w.heap.size + 1 := by simp
  rw [e1] at H1
  clear e1
  change Code.wp Try.prog _ _ _ ((w.alloc (.cells (vals zeros) 45)).alloc (.cells (vals zeros) 45))
  generalize (w.alloc (.cells (vals zeros) 45)).alloc (.cells (vals zeros) 45) = W at HB H0 H1 ⊢
  obtain ⟨g0, hg0⟩ : ∃ g, w.heap.size = g := ⟨_, rfl⟩
  obtain ⟨g1, hg1⟩ : ∃ g, w.heap.size + 1 = g := ⟨_, rfl⟩
  have HG := Aside0.mk (show g0 ≠ g1 ∧ g0 = w.heap.size ∧ w.heap.size ≤ g1 from by omega)
  rw [hg1] at H1 ⊢
  rw [hg0] at H0
  simp only [hg0]
  clear hg0 hg1
  go_loopg [3] 32 (fun kq v3 w' => ∃ (i : Nat) (l : List Int), v3 = .int .i64 i ∧ Aside0 (i + kq = 32) ∧ Aside0 (Blk w' g0 zeros) ∧ Aside0 (Blk w' g1 l) ∧ Aside0 (∀ j, j < i → l.getD j 0 = bstep j) ∧ Aside0 (Below w.heap.size w w'))
  case atStart => exact ⟨0, zeros, rfl, ⟨by omega⟩, H0, H1, ⟨fun j hj => by omega⟩, HB⟩
  case round =>
    clear HB H0 H1
    obtain ⟨i, l, rfl, HI, H0, H1, HF, HB⟩ := hrel
    by_cases hlt : i < 32
    · obtain ⟨k1, rfl⟩ : ∃ k1, gk = k1 + 1 := ⟨gk - 1, by have := HI.out; omega⟩
      have h0 : (0 : Int) ≤ (i : Int) := by omega
      have h32 : (i : Int) ≤ 32 := by omega
      go_wp2_with (go_at_call 14; refine (run_calls _ _ _ (by decide)).mono ?_; rintro e w2 ⟨rfl, hb2⟩; have HB2 := Aside0.mk hb2; clear hb2; have hc := (H1.out.below HB2.out).cell i hlt; have hf := (H1.out.below HB2.out).frozen i)
      go_roundg k1
      case measure => have := HI.out; omega
      case rel =>
        have hs := HB.out.size
        have hne : g0 ≠ g1 := HG.out.1
        refine ⟨i + 1, l.set i (bstep i), by go_num, ⟨by have := HI.out; omega⟩, ⟨(H0.out.below HB2.out).other hne i _⟩, ⟨(H1.out.below HB2.out).set i _⟩, ⟨fun j hj => ?_⟩, ⟨(below_then HB.out hs HB2.out).setCell HG.out.2.2 _⟩⟩
        rw [getD_set l i j _ H1.out.len hlt]
        by_cases he : j = i
        · rw [if_pos he, he]
        · rw [if_neg he]
          exact HF.out j (by omega)
    · have hl : l = bsteps := list_of l bstep H1.out.len (fun j hj => HF.out j (by omega))
      subst hl
      have hz : (Try.prog.info? 45).map (·.size) = some (vals bsteps).size := info45
      have hall : (vals bsteps).all (·.oneCell') = true := by
        simp [vals, nums, Value.oneCell']
      go_wp2_with (first | (refine wpList_load_row rfl 45 _ rfl g1 rfl 45 _ (0, 0) _ H1.out.heap Try.underlying45 rfl hz ?_) | (refine wpList_store_row rfl 45 _ _ rfl g0 _ rfl rfl 45 _ H0.out.heap hz rfl hall ?_))
      exact bodyPost_ret (v := .agg (vals bsteps)) (results_cell_row (p := 0) (ty := 45) rfl _ _ g0 45 _ (0, 0) _ rfl (H0.out.row H1.out.len).heap Try.underlying45 rfl hz) rfl ⟨rfl, below_setRow HB.out (by have := HG.out; omega) _⟩

end Go.Proofs.Ytncfjogmggofgaa.G
