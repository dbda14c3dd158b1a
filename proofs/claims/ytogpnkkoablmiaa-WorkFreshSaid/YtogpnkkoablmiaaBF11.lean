/- Parts of the proof: what the theorem reaches, put together by a program of this session. -/
import Derived.ArgAppend
import Derived.Below
import Derived.BigQuiet
import Derived.Deep.AppendLies
import Derived.Deep.CutBlock
import Derived.Deep.DeepCutAuto
import Derived.Deep.Draws
import Derived.Deep.LoopGhost
import Derived.Deep.OwnRows
import Derived.Deep.QuietTactic
import Derived.Deep.RegionHeld3
import Derived.KernelRfl
import Derived.Laws.BitsLemmas
import Derived.Laws.BytesArg
import Derived.Laws.IdiomCopy
import Derived.Laws.MakeOwn
import Derived.Laws.OwnMore
import Derived.Laws.Rows
import Derived.Laws.Slices
import Derived.Laws.StructEq
import Derived.Lib.AppendStr
import Derived.Lib.ConvBytes
import Derived.Maps.AppendAt
import Derived.OrdersHeld
import Derived.OwnWalk
import Derived.RowKit
import Derived.RowKit3
import Derived.Tactics
import Derived.Test.YtogpnkkoablmiaaProg
import Derived.WalkKit
import Derived.WideLaws
import Derived.Test.YtogpnkkoablmiaaBF1
import Derived.Test.YtogpnkkoablmiaaBF2
import Derived.Test.YtogpnkkoablmiaaBF3
import Derived.Test.YtogpnkkoablmiaaBF4
import Derived.Test.YtogpnkkoablmiaaBF5
import Derived.Test.YtogpnkkoablmiaaBF6
import Derived.Test.YtogpnkkoablmiaaBF7
section
namespace Go.Proofs.Ytogpnkkoablmiaa.V
open Go.RowKit Go.Proofs.Ytogpnkkoablmiaa.Q Go.Proofs.YtogpnkkoablmiaaW.PrintWords Go.Proofs.YtogpnkkoablmiaaW.PrintLast Go.Proofs.YtogpnkkoablmiaaW.PrintMore
set_option linter.unusedVariables false
set_option linter.unusedSimpArgs false
structure Past (w : World) where
  w' : World
  h : Below w.heap.size w w'
instance (w : World) : Inhabited (Past w) := ⟨⟨w, Below.refl _ _⟩⟩
theorem past_cell {w : World} {a : Addr} {v : Value} (h : w.cell? a = some v) (p : Past w) : p.w'.cell? a = some v := (p.h.cell (World.block_lt_of_cell? w a h)).trans h
theorem at35 {w : World} {A : Option Addr} {n : Nat} {xs : List S35} (h : Kd.C k35 w A n xs) (i : Nat) (h1 : i < n) : ∃ ad A4 c4 A5 c5, A = some ad ∧
    (∀ p : Past w, p.w'.cell? (ad.add (i * 6)) = some (.int .i64 (xs.getD i z35).f0)) ∧ (∀ p : Past w, p.w'.cell? ⟨(ad.add (i * 6)).block, (ad.add (i * 6)).off + 1, none⟩ = some (.int .i64 (xs.getD i z35).f1)) ∧
    (∀ p : Past w, p.w'.cell? ⟨(ad.add (i * 6)).block, (ad.add (i * 6)).off + 2, none⟩ = some (.int .i64 (xs.getD i z35).f2)) ∧ (∀ p : Past w, p.w'.cell? ⟨(ad.add (i * 6)).block, (ad.add (i * 6)).off + 3, none⟩ = some (.string (xs.getD i z35).f3)) ∧
    (∀ p : Past w, p.w'.cell? ⟨(ad.add (i * 6)).block, (ad.add (i * 6)).off + 4, none⟩ = some (.slice A4 (xs.getD i z35).f4.length c4)) ∧ (∀ p : Past w, p.w'.cell? ⟨(ad.add (i * 6)).block, (ad.add (i * 6)).off + 5, none⟩ = some (.slice A5 (xs.getD i z35).f5.length c5)) ∧
    (xs.getD i z35).f4.length ≤ c4 ∧ k35.C w A4 (xs.getD i z35).f4.length (xs.getD i z35).f4 ∧ (xs.getD i z35).f5.length ≤ c5 ∧ k89.C w A5 (xs.getD i z35).f5.length (xs.getD i z35).f5 := by
  obtain ⟨ad, A4, c4, A5, c5, e, h0, h1, h2, h3, h4, h5, l4, g4, l5, g5⟩ := at_T35 h (i : Int) (by omega) (by omega)
  simp only [rd_T35, Int.toNat_natCast] at *
  exact ⟨ad, A4, c4, A5, c5, e, past_cell h0, past_cell h1, past_cell h2, past_cell h3, past_cell h4, past_cell h5, l4, g4, l5, g5⟩
theorem at89 {w : World} {A : Option Addr} {n : Nat} {xs : List S89} (h : Kd.C k89 w A n xs) (i : Nat) (h1 : i < n) : ∃ ad A4 c4 A5 c5, A = some ad ∧
    (∀ p : Past w, p.w'.cell? (ad.add (i * 7)) = some (.string (xs.getD i z89).f0)) ∧ (∀ p : Past w, p.w'.cell? ⟨(ad.add (i * 7)).block, (ad.add (i * 7)).off + 1, none⟩ = some (.int .i64 (xs.getD i z89).f1.f0)) ∧ (∀ p : Past w, p.w'.cell? ⟨(ad.add (i * 7)).block, (ad.add (i * 7)).off + 2, none⟩ = some (.int .i64 (xs.getD i z89).f1.f1)) ∧
    (∀ p : Past w, p.w'.cell? ⟨(ad.add (i * 7)).block, (ad.add (i * 7)).off + 3, none⟩ = some (.int .i64 (xs.getD i z89).f1.f2)) ∧ (∀ p : Past w, p.w'.cell? ⟨(ad.add (i * 7)).block, (ad.add (i * 7)).off + 4, none⟩ = some (.string (xs.getD i z89).f1.f3)) ∧
    (∀ p : Past w, p.w'.cell? ⟨(ad.add (i * 7)).block, (ad.add (i * 7)).off + 5, none⟩ = some (.slice A4 (xs.getD i z89).f1.f4.length c4)) ∧ (∀ p : Past w, p.w'.cell? ⟨(ad.add (i * 7)).block, (ad.add (i * 7)).off + 6, none⟩ = some (.slice A5 (xs.getD i z89).f1.f5.length c5)) ∧
    (xs.getD i z89).f1.f4.length ≤ c4 ∧ k35.C w A4 (xs.getD i z89).f1.f4.length (xs.getD i z89).f1.f4 ∧ (xs.getD i z89).f1.f5.length ≤ c5 ∧ k89.C w A5 (xs.getD i z89).f1.f5.length (xs.getD i z89).f1.f5 := by
  obtain ⟨ad, A4, c4, A5, c5, e, h0, h1, h2, h3, h4, h5, h6, l4, g4, l5, g5⟩ := at_T89 h (i : Int) (by omega) (by omega)
  simp only [rd_T89, Int.toNat_natCast] at *
  exact ⟨ad, A4, c4, A5, c5, e, past_cell h0, past_cell h1, past_cell h2, past_cell h3, past_cell h4, past_cell h5, past_cell h6, l4, g4, l5, g5⟩
theorem getD_mem {α : Type} (xs : List α) (i : Nat) (h : i < xs.length) (z : α) : xs.getD i z ∈ xs := by rw [List.getD_eq_getElem?_getD, List.getElem?_eq_getElem h]; exact List.getElem_mem h
theorem ext_getD {α : Type} (z : α) {xs ys : List α} (hl : ys.length = xs.length) (h : ∀ j, j < xs.length → xs.getD j z = ys.getD j z) : xs = ys := by
  apply List.ext_getElem hl.symm
  intro i h1 h2
  have := h i h1
  rwa [List.getD_eq_getElem?_getD, List.getD_eq_getElem?_getD, List.getElem?_eq_getElem h1, List.getElem?_eq_getElem h2] at this
theorem S35.ind {P : S35 → Prop} (h : ∀ v : S35, (∀ x ∈ v.f4, P x) → (∀ p ∈ v.f5, P p.f1) → P v) : ∀ v, P v := by
  intro v
  exact S35.rec (motive_1 := P) (motive_2 := fun l => ∀ x ∈ l, P x) (motive_3 := fun l => ∀ p ∈ l, P p.f1) (motive_4 := fun p => P p.f1)
    (fun f0 f1 f2 f3 f4 f5 h4 h5 => h ⟨f0, f1, f2, f3, f4, f5⟩ h4 h5)
    (fun x hx => by simp at hx) (fun x l hx hl y hy => by rcases List.mem_cons.1 hy with rfl | hy; exact hx; exact hl y hy)
    (fun x hx => by simp at hx) (fun x l hx hl y hy => by rcases List.mem_cons.1 hy with rfl | hy; exact hx; exact hl y hy)
    (fun k v hv => hv) v
noncomputable def eqB {α : Type} (a b : α) : Bool := @decide (a = b) (Classical.propDecidable _)
theorem eqB_true {α : Type} {a b : α} (h : a = b) : eqB a b = true := @decide_eq_true _ (Classical.propDecidable _) h
theorem eqB_false {α : Type} {a b : α} (h : a ≠ b) : eqB a b = false := @decide_eq_false _ (Classical.propDecidable _) h
theorem ret_b {b c : Bool} (h : b = c) : Ending.returned (.bool b) = .returned (.bool c) := by rw [h]
theorem ba_inj {a b : ByteArray} (h : a.toList = b.toList) : a = b := by
  rw [ByteArray.toList_eq, ByteArray.toList_eq] at h
  exact ByteArray.ext (Array.toList_inj.1 h)
end Go.Proofs.Ytogpnkkoablmiaa.V
end
section
namespace Go.Proofs.Ytogpnkkoablmiaa.V
open Go.RowKit Go.Proofs.Ytogpnkkoablmiaa.Q Go.Proofs.YtogpnkkoablmiaaW.PrintWords Go.Proofs.YtogpnkkoablmiaaW.PrintLast Go.Proofs.YtogpnkkoablmiaaW.PrintMore
set_option linter.unusedVariables false
set_option linter.unusedSimpArgs false
def foreignB (N G : Int) (S : ByteArray) (L D : Nat) (n g s l d : Bool) : Bool :=
  (!n && decide (N ≠ 0)) || (!g && decide (G ≠ 0)) || (!s && !(S.toList.isEmpty)) || (!l && decide (0 < L)) || (!d && decide (0 < D))
set_option maxHeartbeats 8000000 in
set_option maxRecDepth 100000 in
theorem foreign_calls (f0 f1 f2 : Int) (f3 : ByteArray) (L D : Nat) (A4 : Option Addr) (c4 : Nat) (A5 : Option Addr) (c5 : Nat) (n g s l d : Bool) (w : World) : Calls Try.prog 171 #[.agg #[.int .i64 f0, .int .i64 f1, .int .i64 f2, .string f3, .slice A4 L c4, .slice A5 D c5], .agg #[.bool n, .bool g, .bool s, .bool l, .bool d]] w fun e w' => e = .returned (.bool (foreignB f1 f2 f3 L D n g s l d)) ∧ Below w.heap.size w w' := by
  have hu35 := Try.underlying35
  have HB := fun x y => Aside0.mk (((Below.refl w.heap.size w).alloc (Nat.le_refl _) x).alloc (by simp) y)
  go_enter Try.func171, Try.ntmps171
  go_wp2
  all_goals
    go_ret
    refine ⟨ret_b ?_, (HB _ _).out⟩
    clear HB
    simp_all [foreignB]
    all_goals first | omega | exact Or.inl (by omega)
def extraB (k N G : Int) (S : ByteArray) (L D : Nat) : Bool :=
  (decide (N ≠ 0) && decide (k ≠ 1) && decide (k ≠ 2) && decide (k ≠ 7)) || (decide (G ≠ 0) && decide (k ≠ 7)) || (!(S.toList.isEmpty) && decide (k ≠ 3) && decide (k ≠ 4) && decide (k ≠ 8)) || (decide (0 < L) && decide (k ≠ 5)) || (decide (0 < D) && decide (k ≠ 6) && decide (k ≠ 8))
end Go.Proofs.Ytogpnkkoablmiaa.V
end
