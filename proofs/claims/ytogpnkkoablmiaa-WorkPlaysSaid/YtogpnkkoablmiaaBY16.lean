/- Parts of the proof: what the theorem reaches, put together by a program of this session. -/
import Derived.Laws.EntriesVeiled
import Derived.LoopIn
import Derived.LoopNIn
import Derived.OwnWalkIn
import Derived.RangeFuncBound
import Derived.RangeFuncNested
import Derived.Shelf.RegionOpen
import Derived.Test.YtogpnkkoablmiaaBY15
section
namespace Go.Proofs.Ytogpnkkoablmiaa.V
open Go.RowKit Go.Shelf Go.Lib Go.Proofs.Ytogpnkkoablmiaa.Q Go.Proofs.YtogpnkkoablmiaaW.PrintWords Go.Proofs.YtogpnkkoablmiaaW.PrintLast Go.Proofs.YtogpnkkoablmiaaW.PrintMore
set_option linter.unusedVariables false
set_option linter.unusedSimpArgs false
attribute [local go_sem] Oper.semAt_some
def isT (o : Obj) : Prop := ∃ cs q, o = .cells cs q (0, 0) ∧ (q = 35 ∨ q = 89 ∨ q = 118 ∨ q = 129)
def KeepT (W W' : World) : Prop := W.heap.size ≤ W'.heap.size ∧ ∀ (k : Nat) (o : Obj), W.heap[k]? = some o → isT o → W'.heap[k]? = some o
theorem KeepT.refl (W : World) : KeepT W W := ⟨Nat.le_refl _, fun _ _ h _ => h⟩
theorem KeepT.trans {A B C : World} (h : KeepT A B) (k : KeepT B C) : KeepT A C := ⟨Nat.le_trans h.1 k.1, fun i o hi ho => k.2 i o (h.2 i o hi ho) ho⟩
theorem KeepT.of_below {W W' : World} (h : Below W.heap.size W W') : KeepT W W' := ⟨h.size, fun k o hk _ => (h.block k (by
 rcases Nat.lt_or_ge k W.heap.size with h1 | h1
 · exact h1
 · rw [Array.getElem?_eq_none h1] at hk; cases hk)).trans hk⟩
theorem KeepT.blk {W W' : World} (h : KeepT W W') {b q : Nat} {cs : Array Value} (hb : W.heap[b]? = some (.cells cs q (0, 0))) (hq : q = 35 ∨ q = 89 ∨ q = 118 ∨ q = 129) : W'.heap[b]? = some (.cells cs q (0, 0)) := h.2 b _ hb ⟨cs, q, rfl, hq⟩
theorem room_of_none {F : Fence} (hd : F.depth = none) (k : Nat) : F.room k := fun d h => by rw [hd] at h; cases h
theorem RoundIn.anyDepth {F : Fence} (hd : F.depth = none) {m m' : Nat} {P : Program} {l : Nat} {f : FuncId} {tmps : Array Value} {assign body : Code} {w : World} {R : Ending → World → Prop}
 (h : RoundIn F m P l f tmps assign body w R) : RoundIn F m' P l f tmps assign body w R := ⟨h.1, fun c cs _ => h.2 c cs (room_of_none hd _)⟩
theorem YieldAt.anyDepth {F : Fence} (hd : F.depth = none) {m : Nat} (m' : Nat) {P : Program} {l : Nat} {args : Array Value} {W : World} {R : Ending → World → Prop} (h : YieldAt F m P l args W R) : YieldAt F m' P l args W R := by
 obtain ⟨fn, tmps, assign, body, hy, hR⟩ := h
 exact ⟨fn, tmps, assign, body, hy, RoundIn.anyDepth hd hR⟩
theorem box0 {w : World} {b q : Nat} {u : Value} (h : w.heap[b]? = some (.cells #[u] q (0, 0))) : w.cell? ⟨b, 0, none⟩ = some u := by rw [cell_of_row w b _ _ _ _ h]; rfl
def At28 (W : World) (B : Nat) (a b : Int) : Prop := W.heap[B]? = some (.cells #[.int .i64 a, .int .i64 b] 28 (0, 0))
theorem At28.kept {W W' : World} {row : Option Nat} {B : Nat} {a b : Int} (h : At28 W B a b) (hg : W.grownBy W' row) (hne : some B ≠ row) : At28 W' B a b := (hg.block B (blk_lt h) hne).trans h
theorem At28.alloc {W : World} {B : Nat} {a b : Int} (h : At28 W B a b) (o : Obj) : At28 (W.alloc o) B a b := h.kept (World.grownBy_alloc W o none) (by simp)
theorem At28.c0 {W : World} {B : Nat} {a b : Int} (h : At28 W B a b) : W.cell? ⟨B, 0, none⟩ = some (.int .i64 a) := by rw [cell_of_row W B _ _ _ _ h]; rfl
theorem At28.c1 {W : World} {B : Nat} {a b : Int} (h : At28 W B a b) : W.cell? ⟨B, 1, none⟩ = some (.int .i64 b) := by rw [cell_of_row W B _ _ _ _ h]; rfl
theorem KeepT.box {W : World} {B t : Nat} {u : Value} (h : Boxed W B t u) (ht : ¬ (t = 35 ∨ t = 89 ∨ t = 118 ∨ t = 129)) (x : Value) : KeepT W (W.setCell ⟨B, 0, none⟩ x) :=
 ⟨(grownBy_setCell' W B x).size, fun k o hk hT => by
   obtain ⟨cs, q, rfl, hq⟩ := hT
   refine ((grownBy_setCell' W B x).block k (Array.getElem?_eq_some_iff.1 hk).1 (fun e => ?_)).trans hk
   cases e
   rw [show W.heap[B]? = _ from h] at hk
   injection hk with hk; injection hk with _ h2 _
   exact ht (h2 ▸ hq)⟩
def refs (l : List (Int × Int)) : List S28 := l.map fun x => ⟨x.1, x.2⟩
def flat (l : List (Int × Int)) : List Value := l.flatMap fun x => [.int .i64 x.1, .int .i64 x.2]
theorem KeepT.grown {W W' : World} {v : Value} {n : Nat} {base e size : Nat} {xs : List Value} (h : W.grownBy W' v.ownBlock) (ho : W.ownsRow base e size v n xs) (he : ¬ (e = 35 ∨ e = 89 ∨ e = 118 ∨ e = 129)) : KeepT W W' :=
 ⟨h.size, fun k o hk hT => by
  obtain ⟨cs, q, rfl, hq⟩ := hT
  refine (h.block k (Array.getElem?_eq_some_iff.1 hk).1 (fun e' => ?_)).trans hk
  obtain ⟨cells, hc⟩ := own_typed ho k e'.symm
  rw [hc] at hk
  injection hk with hk; injection hk with _ h2 _
  exact he (h2 ▸ hq)⟩
end Go.Proofs.Ytogpnkkoablmiaa.V
end
