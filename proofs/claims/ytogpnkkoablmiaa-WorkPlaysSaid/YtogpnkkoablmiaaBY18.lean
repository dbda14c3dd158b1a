/- Parts of the proof: what the theorem reaches, put together by a program of this session. -/
import Derived.Shelf.Spec.SlicesInsertGrow
import Derived.Test.YtogpnkkoablmiaaBY17
section
namespace Go.Proofs.Ytogpnkkoablmiaa.V
open Go.Shelf Go.RowKit Go.Lib Go.Sort Go.Proofs.Ytogpnkkoablmiaa.Q Go.Proofs.YtogpnkkoablmiaaW.PrintWords Go.Proofs.YtogpnkkoablmiaaW.PrintLast Go.Proofs.YtogpnkkoablmiaaW.PrintMore
set_option linter.unusedVariables false
set_option linter.unusedSimpArgs false
def At (w : World) (g N : Nat) (f : Nat → Value) : Prop := ∀ j, j < N → w.cell? ⟨g, j, none⟩ = some (f j) ∧ w.frozen? ⟨g, j, none⟩ = false
theorem At.set {w : World} {g N : Nat} {f : Nat → Value} (h : At w g N f) (o : Nat) (vs : List Value) (hl : o + vs.length ≤ N) (f' : Nat → Value)
 (h1 : ∀ j, j < N → ¬ (o ≤ j ∧ j < o + vs.length) → f' j = f j) (h2 : ∀ j (hj : j < vs.length), f' (o + j) = vs[j]) : At (w.setCells g o vs) g N f' := by
 intro j hj
 refine ⟨?_, by rw [World.frozen?_setCells]; exact (h j hj).2⟩
 by_cases hin : o ≤ j ∧ j < o + vs.length
 · have := World.cell?_setCells_in g vs o w (fun t ht => by rw [(h (o + t) (by omega)).1]; rfl) (j - o) (by omega)
   rw [show o + (j - o) = j by omega] at this
   rw [this, ← h2 (j - o) (by omega), show o + (j - o) = j by omega]
 · rw [World.cell?_setCells_out g vs o w ⟨g, j, none⟩ (fun _ _ => by show j < o ∨ o + vs.length ≤ j; omega), (h j hj).1, h1 j hj hin]
theorem At.mono {w : World} {g N M : Nat} {f : Nat → Value} (h : At w g N f) (hM : M ≤ N) : At w g M f := fun j hj => h j (by omega)
theorem At.congr {w : World} {g N : Nat} {f f' : Nat → Value} (h : At w g N f) (he : ∀ j, j < N → f j = f' j) : At w g N f' := fun j hj => ⟨by rw [(h j hj).1, he j hj], (h j hj).2⟩
def Chg (g : Nat) (w w' : World) : Prop := (∀ B, B ≤ g → B ≤ w.heap.size → RowKit.Below B w w') ∧ w.heap.size ≤ w'.heap.size ∧ ∀ b, b < w.heap.size → b ≠ g → w'.heap[b]? = w.heap[b]?
theorem Chg.refl (g : Nat) (w : World) : Chg g w w := ⟨fun _ _ _ => RowKit.Below.refl _ _, Nat.le_refl _, fun _ _ _ => rfl⟩
theorem Chg.drew {g : Nat} {w W : World} (h : Chg g w W) : Chg g w W.drew := ⟨fun B h1 h2 => (h.1 B h1 h2).trans ⟨rfl, rfl, rfl, Nat.le_refl _, fun _ _ => rfl⟩, h.2.1, h.2.2⟩
theorem Chg.cell {g b : Nat} {w W : World} (h : Chg g w W) (hb : b = g ∨ w.heap.size ≤ b) (o : Nat) (v : Value) : Chg g w (W.setCell ⟨b, o, none⟩ v) :=
 ⟨fun B h1 h2 => (h.1 B h1 h2).setCell (p := ⟨b, o, none⟩) (by show B ≤ b; omega) v, by rw [World.size_setCell]; exact h.2.1, fun k hk hg => (RowKit.Below.heap_setCell W ⟨b, o, none⟩ v k (by show k ≠ b; omega)).trans (h.2.2 k hk hg)⟩
theorem Chg.cells {g b : Nat} {w : World} (hb : b = g ∨ w.heap.size ≤ b) : ∀ (vs : List Value) (o : Nat) (W : World), Chg g w W → Chg g w (W.setCells b o vs)
 | [], _, _, h => h
 | v :: r, o, W, h => Chg.cells hb r (o + 1) _ (h.cell hb o v)
theorem Chg.alloc {g : Nat} {w W : World} (h : Chg g w W) (o : Obj) : Chg g w (W.alloc o) :=
 ⟨fun B h1 h2 => (h.1 B h1 h2).trans (RowKit.Below.mono (below_alloc (RowKit.Below.refl W.heap.size W) o) (Nat.le_trans h2 h.2.1)), by rw [World.size_alloc]; have := h.2.1; omega, fun k hk hg => by
  rw [← h.2.2 k hk hg]
  exact (below_alloc (RowKit.Below.refl W.heap.size W) o).block k (Nat.lt_of_lt_of_le hk h.2.1)⟩
theorem below_drew (B : Nat) (w : World) : RowKit.Below B w w.drew := ⟨rfl, rfl, rfl, Nat.le_refl _, fun _ _ => rfl⟩
noncomputable def rowf (rps : List RP) (j : Nat) : Value := (encP (rps.getD (j / 7) default)).getD (j % 7) default
def PM (w : World) (lo pb g : Nat) (x : RP) : Prop := k89.M w lo (fun k => (k < w.heap.size ∧ k ≠ pb) ∧ k ≠ g) x.p (encP x)
def PN (w : World) (lo pb : Nat) (x : RP) : Prop := k89.M w lo (fun k => k < w.heap.size ∧ k ≠ pb) x.p (encP x)
theorem PN.far {w : World} {lo pb b o : Nat} {v : Value} {x : RP} (h : PN w lo pb x) (hb : b < lo ∨ b = pb) : PN (w.setCell ⟨b, o, none⟩ v) lo pb x :=
 k89.M_mono (fun k hk => by rw [World.size_setCell]; exact hk.1) (k89.M_move (fun k hk => RowKit.Below.heap_setCell w ⟨b, o, none⟩ v k (by have := hk.2.1; have := hk.1.2; show k ≠ b; omega)) (k89.M_bound h))
theorem PM.far {w : World} {lo pb g o : Nat} {v : Value} {x : RP} (h : PM w lo pb g x) : PM (w.setCell ⟨g, o, none⟩ v) lo pb g x :=
 k89.M_mono (fun k hk => by rw [World.size_setCell]; exact hk) (k89.M_move (fun k hk => RowKit.Below.heap_setCell w ⟨g, o, none⟩ v k hk.2) h)
structure Row (w : World) (lo pb g : Nat) (rps : List RP) : Prop where
 at_ : At w g (rps.length * 7) (rowf rps)
 own : ∀ x ∈ rps, PN w lo pb x
 low : lo ≤ g ∧ g ≠ pb
theorem Row.far {w : World} {lo pb g b o : Nat} {v : Value} {rps : List RP} (h : Row w lo pb g rps) (hb : b < lo ∨ b = pb) : Row (w.setCell ⟨b, o, none⟩ v) lo pb g rps where
 at_ := fun j hj => by
  have hne : g ≠ b := by have := h.low; omega
  have hh := RowKit.Below.heap_setCell w ⟨b, o, none⟩ v g hne
  refine ⟨(World.cell?_of_block hh).trans (h.at_ j hj).1, ?_⟩
  rw [World.frozen?_setCell]
  exact (h.at_ j hj).2
 own := fun x hx => (h.own x hx).far hb
 low := h.low
theorem At.below {w w' : World} {g N : Nat} {f : Nat → Value} (h : At w g N f) (hg : g < w.heap.size) (hb : RowKit.Below w.heap.size w w') : At w' g N f := fun j hj =>
 ⟨(World.cell?_of_block (hb.block g hg)).trans (h j hj).1, by
   have := hb.block g hg
   have h2 := (h j hj).2
   simp only [World.frozen?] at h2 ⊢
   rw [this]; exact h2⟩
theorem PM.below {w w' : World} {lo pb g : Nat} {x : RP} (h : PM w lo pb g x) (hb : RowKit.Below w.heap.size w w') : PM w' lo pb g x :=
 k89.M_mono (fun k hk => ⟨⟨Nat.lt_of_lt_of_le hk.1.1 hb.size, hk.1.2⟩, hk.2⟩) (k89.M_move (fun k hk => hb.block k hk.1.1) h)
theorem mem_pairsP (d : List S89) (p : S89) : p ∈ pairsP d ↔ (d.map (fun p => (⟨p.f0, plain p.f1⟩ : S89))).find? (fun y => decide (y.f0.data = p.f0.data)) = some p ∧ p.f1.f0 ≠ 0 := by
 have h := (fst_fold (d.map (fun p => (⟨p.f0, plain p.f1⟩ : S89))) [] [] fst_nil).2 p
 unfold pairsP
 rw [List.mem_filter, h, List.nil_append]
 simp
end Go.Proofs.Ytogpnkkoablmiaa.V
end
