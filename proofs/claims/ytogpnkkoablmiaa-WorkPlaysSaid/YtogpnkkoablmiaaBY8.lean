/- Parts of the proof: what the theorem reaches, put together by a program of this session. -/
import Derived.Deep.Fields
import Derived.Test.YtogpnkkoablmiaaBY7
section
namespace Go.Proofs.Ytogpnkkoablmiaa.O
open Go.RowKit Go.ChangeShapes Go.WideShapes Go.Deep Go.Proofs.Ytogpnkkoablmiaa.Q Go.Proofs.YtogpnkkoablmiaaW.PrintWords
set_option linter.unusedVariables false
set_option linter.unusedSimpArgs false
structure Opens {α : Type} (P : Program) (t : TypeId) (d : Kd α) (G : α → Prop) (n : Nat) : Prop where
 sz : P.cellsOf t = d.sz
 opens : ∀ {H : Type} (enc : TypeId × Value → H) (w : World) (base : Nat) (spare : Nat → Bool) (held : Bool) (fuel : Nat) (cs : List Value) (x : DataW H × List MemPlace), fuel ≤ n →
  DataW.trod enc P w base spare held fuel t cs = some x → ∃ a, G a ∧ d.K w a cs
section
variable {α β γ : Type} {P : Program} {t e : TypeId} {n : Nat}
theorem Opens.int {k : IntKind} (ht : P.underlying t = some (.int k)) (hc : P.cellsOf t = 1) : Opens P t (Kd.int k) (fun a => (Lit.int k a).wf = true) n :=
 ⟨hc, fun enc w base spare held fuel cs x _ h => by
  obtain ⟨a, rfl, _, hw⟩ := DataW.trod_int ht h
  exact ⟨a, hw, rfl⟩⟩
theorem Opens.bool (ht : P.underlying t = some .bool) (hc : P.cellsOf t = 1) : Opens P t Kd.bool (fun _ => True) n :=
 ⟨hc, fun enc w base spare held fuel cs x _ h => by
  obtain ⟨a, rfl, _⟩ := DataW.trod_bool ht h
  exact ⟨a, trivial, rfl⟩⟩
theorem Opens.string (ht : P.underlying t = some .string) (hc : P.cellsOf t = 1) : Opens P t Kd.string (fun a => a.size ≤ 9223372036854775807) n :=
 ⟨hc, fun enc w base spare held fuel cs x _ h => by
  obtain ⟨a, rfl, _, hs⟩ := DataW.trod_string ht h
  exact ⟨a, by unfold maxLen at hs; omega, rfl⟩⟩
theorem list_of {Q : Nat → α → Prop} : ∀ len : Nat, (∀ i, i < len → ∃ a, Q i a) → ∃ xs : List α, xs.length = len ∧ ∀ i a, xs[i]? = some a → Q i a
 | 0, _ => ⟨[], rfl, fun i a h => by simp at h⟩
 | m + 1, h => by
   obtain ⟨xs, hl, hx⟩ := list_of m (fun i hi => h i (by omega))
   obtain ⟨b, hb⟩ := h m (by omega)
   refine ⟨xs ++ [b], by simp [hl], fun i a hi => ?_⟩
   rcases Nat.lt_or_ge i m with hlt | hge
   · rw [List.getElem?_append_left (by omega)] at hi
     exact hx i a hi
   · rw [List.getElem?_append_right (by omega)] at hi
     have hlt := (List.getElem?_eq_some_iff.1 hi).1
     simp at hlt
     have : i = m := by omega
     subst this
     rw [hl, Nat.sub_self] at hi
     simp at hi
     subst hi
     exact hb
theorem Opens.slice {d : Kd α} {G : α → Prop} (ht : P.underlying t = some (.slice e)) (hc : P.cellsOf t = 1) (h : Opens P e d G n) : Opens P t (Kd.slice e d) (fun xs => ∀ x ∈ xs, G x) (n + 1) :=
 ⟨hc, fun enc w base spare held fuel cs x hn hx => by
  rcases DataW.trod_slice ht hx with ⟨rfl, _⟩ | ⟨a, len, cap, elems, rest, m, rfl, rfl, _, hb, hl, hm, hlen, hel, _, _⟩
  · exact ⟨[], fun x hx => by simp at hx, none, 0, rfl, Nat.le_refl _, Kd.C_nil _ _⟩
  · obtain ⟨xs, hxl, hxs⟩ := list_of (Q := fun i (b : α) => G b ∧ ∃ c, c.length = d.sz ∧ d.K w b c ∧ ∀ j u, c[j]? = some u → w.cell? (a.add (i * d.sz + j)) = some u) len (fun i hi => by
     have h1 := hel i hi
     rw [List.getElem?_eq_getElem (by omega)] at h1
     obtain ⟨c, hc1, hc2⟩ := Option.bind_eq_some_iff.1 h1
     obtain ⟨b, hg, hk⟩ := h.opens enc w base spare held m c _ (by omega) hc2
     obtain ⟨_, hcl, hat⟩ := World.cells?_some hc1
     rw [h.sz] at hcl hat
     refine ⟨b, hg, c, hcl, hk, fun j u hu => ?_⟩
     have hj : j < d.sz := by
      have := (List.getElem?_eq_some_iff.1 hu).1
      omega
     rw [← Go.Deep.add_add, hat j hj, hu])
    subst hxl
    refine ⟨xs, fun x hx => ?_, some a, cap, rfl, hl, rfl, by unfold maxLen at hm; omega, fun _ => ⟨a, rfl, fun j p hj => (hxs j p hj).2⟩⟩
    obtain ⟨i, hi⟩ := List.getElem?_of_mem hx
    exact (hxs i x hi).1⟩
structure OpensFs {β : Type} (P : Program) (fs : List Field) (o : Nat) (d : Kd β) (G : β → Prop) (n : Nat) : Prop where
 opens : ∀ {H : Type} (enc : TypeId × Value → H) (w : World) (base : Nat) (spare : Nat → Bool) (held : Bool) (fuel : Nat) (cs : List Value), fuel ≤ n → cs.length = o + d.sz →
  (∀ (i : Nat) (f : Field), fs[i]? = some f → ∃ y, DataW.trod enc P w base spare held fuel f.type ((cs.drop f.offset).take (P.cellsOf f.type)) = some y) → ∃ b, G b ∧ d.K w b (cs.drop o)
theorem OpensFs.one {d : Kd β} {G : β → Prop} {f : Field} {o : Nat} (ho : f.offset = o) (h : Opens P f.type d G n) : OpensFs P [f] o d G n :=
 ⟨fun enc w base spare held fuel cs hn hl hf => by
  obtain ⟨y, hy⟩ := hf 0 f rfl
  rw [ho, h.sz, List.take_of_length_le (by simp; omega)] at hy
  exact h.opens enc w base spare held fuel _ y hn hy⟩
theorem OpensFs.cons {d : Kd β} {d' : Kd γ} {G : β → Prop} {G' : γ → Prop} {f : Field} {fs : List Field} {o : Nat} (ho : f.offset = o) (h : Opens P f.type d G n) (hs : OpensFs P fs (o + d.sz) d' G' n) :
 OpensFs P (f :: fs) o (Kd.pair d d') (fun b => G b.1 ∧ G' b.2) n :=
 ⟨fun enc w base spare held fuel cs hn hl hf => by
  have hl' : cs.length = o + (d.sz + d'.sz) := hl
  obtain ⟨y, hy⟩ := hf 0 f rfl
  rw [ho, h.sz] at hy
  obtain ⟨b, hg, hk⟩ := h.opens enc w base spare held fuel _ y hn hy
  obtain ⟨c, hg', hk'⟩ := hs.opens enc w base spare held fuel cs hn (by omega) (fun i f' hi => hf (i + 1) f' (by simpa using hi))
  refine ⟨(b, c), ⟨hg, hg'⟩, (cs.drop o).take d.sz, cs.drop (o + d.sz), ?_, hk, hk'⟩
  rw [← List.drop_drop, List.take_append_drop]⟩
theorem Opens.struct {d : Kd β} {G : β → Prop} {fs : Array Field} (f : γ → β) (g : β → γ) (hfg : ∀ b, f (g b) = b) (ht : P.underlying t = some (.struct fs)) (hc : P.cellsOf t = d.sz) (h : OpensFs P fs.toList 0 d G n) :
 Opens P t (Kd.iso d f) (fun x => G (f x)) (n + 1) :=
 ⟨hc, fun enc w base spare held fuel cs x hn hx => by
  obtain ⟨xs, m, rfl, _, hl, hxl, hf⟩ := DataW.trod_struct ht hx
  obtain ⟨b, hg, hk⟩ := h.opens enc w base spare held m cs (by omega) (by omega) (fun i f' hi => by
   have hi' : fs[i]? = some f' := by simpa using hi
   have hlt := (Array.getElem?_eq_some_iff.1 hi').1
   exact ⟨_, (hf i f' hi').trans (List.getElem?_eq_getElem (by omega))⟩)
  refine ⟨g b, by rw [hfg]; exact hg, ?_⟩
  show d.K w (f (g b)) cs
  rw [hfg]
  simpa using hk⟩
theorem Opens.arg {d : Kd α} {G : α → Prop} (h : ∀ n, Opens P t (Kd.slice e d) (fun xs => ∀ x ∈ xs, G x) n) {H : Type} {enc : TypeId × Value → H} {w : World} {base : Nat} {spare : Nat → Bool} {held : Bool} {A : Option Addr} {len cap : Nat} {D : DataW H} {ps : List MemPlace}
 (ht : DataW.Trod enc P w base spare held t (.slice A len cap) D ps) : ∃ l : List α, l.length = len ∧ Kd.C d w A l.length l ∧ l.length ≤ cap ∧ ∀ x ∈ l, G x := by
 obtain ⟨fuel, hf⟩ := ht
 obtain ⟨xs, hg, A', c', he, hl, hC⟩ := (h fuel).opens enc w base spare held fuel _ _ (Nat.le_refl _) hf
 simp [Value.cells] at he
 obtain ⟨rfl, rfl, rfl⟩ := he
 exact ⟨xs, rfl, hC, hl, hg⟩
end
theorem Opens.le {α : Type} {P : Program} {t : TypeId} {d : Kd α} {G : α → Prop} {n m : Nat} (h : Opens P t d G m) (hnm : n ≤ m) : Opens P t d G n :=
 ⟨h.sz, fun enc w base spare held fuel cs x hn hx => h.opens enc w base spare held fuel cs x (by omega) hx⟩
theorem Opens.imp {α : Type} {P : Program} {t : TypeId} {d : Kd α} {G G' : α → Prop} {n : Nat} (h : Opens P t d G n) (hg : ∀ a, G a → G' a) : Opens P t d G' n :=
 ⟨h.sz, fun enc w base spare held fuel cs x hn hx => by obtain ⟨a, g, hk⟩ := h.opens enc w base spare held fuel cs x hn hx; exact ⟨a, hg a g, hk⟩⟩
theorem nestV (n : Nat) : Opens Try.prog 35 k35 (fun _ => True) n ∧ Opens Try.prog 89 k89 (fun _ => True) n := by
 induction n using Nat.strongRecOn with
 | _ n ih =>
   have cs35 : Try.prog.cellsOf 35 = 6 := by kernel_rfl
   have cs89 : Try.prog.cellsOf 89 = 7 := by kernel_rfl
   cases n with
   | zero =>
     refine ⟨⟨cs35, fun enc w base spare held fuel cs x hn hx => ?_⟩, ⟨cs89, fun enc w base spare held fuel cs x hn hx => ?_⟩⟩
     all_goals
      obtain rfl : fuel = 0 := by omega
      simp [DataW.trod] at hx
   | succ n =>
     have I := Opens.int (n := n) (P := Try.prog) Try.underlying3 (by kernel_rfl)
     have T := Opens.string (n := n) (P := Try.prog) Try.underlying9 (by kernel_rfl)
     have A := (ih n (by omega)).1
     have B := (ih n (by omega)).2
     have L : Opens Try.prog 32 (Kd.slice 35 k35) (fun xs => ∀ x ∈ xs, True) n := (Opens.slice Try.underlying32 (by kernel_rfl) A).le (by omega)
     have D : Opens Try.prog 33 (Kd.slice 89 k89) (fun xs => ∀ x ∈ xs, True) n := (Opens.slice Try.underlying33 (by kernel_rfl) B).le (by omega)
     have h := Opens.struct (n := n) (fun x : S35 => (x.f0, x.f1, x.f2, x.f3, x.f4, x.f5)) (fun b => ⟨b.1, b.2.1, b.2.2.1, b.2.2.2.1, b.2.2.2.2.1, b.2.2.2.2.2⟩) (fun _ => rfl) Try.underlying35 (by kernel_rfl) (OpensFs.cons rfl I (OpensFs.cons rfl I (OpensFs.cons rfl I (OpensFs.cons rfl T (OpensFs.cons rfl L (OpensFs.one rfl D))))))
     have h9 := Opens.struct (n := n) (fun x : S89 => (x.f0, x.f1)) (fun b => ⟨b.1, b.2⟩) (fun _ => rfl) Try.underlying89 (by kernel_rfl) (OpensFs.cons rfl T (OpensFs.one rfl A))
     refine ⟨⟨cs35, fun enc w base spare held fuel cs x hn hx => ?_⟩, ⟨cs89, fun enc w base spare held fuel cs x hn hx => ?_⟩⟩
     · obtain ⟨a, _, hk⟩ := h.opens enc w base spare held fuel cs x hn hx
       obtain ⟨_, _, rfl, rfl, ⟨_, _, rfl, rfl, ⟨_, _, rfl, rfl, ⟨_, _, rfl, rfl, ⟨_, _, rfl, ⟨A4, c4, rfl, l4, g4⟩, ⟨A5, c5, rfl, l5, g5⟩⟩⟩⟩⟩⟩ := hk
       exact ⟨a, trivial, k35_mk w a l4 g4 l5 g5⟩
     · obtain ⟨a, _, hk⟩ := h9.opens enc w base spare held fuel cs x hn hx
       exact ⟨a, trivial, hk⟩
end Go.Proofs.Ytogpnkkoablmiaa.O
end
section
namespace Go.Proofs.Ytogpnkkoablmiaa.O
open Go.RowKit Go.ChangeShapes Go.WideShapes Go.Deep Go.Proofs.Ytogpnkkoablmiaa.Q Go.Proofs.YtogpnkkoablmiaaW.PrintWords
set_option linter.unusedVariables false
set_option linter.unusedSimpArgs false
theorem refE (n : Nat) : Opens Try.prog 28 (Kd.iso (Kd.pair (Kd.int .i64) (Kd.int .i64)) (fun x : Int × Int => x)) (fun x => (Lit.int .i64 x.1).wf = true ∧ (Lit.int .i64 x.2).wf = true) (n + 1) := by
 have i0 := Opens.int (n := n) (P := Try.prog) Try.underlying3 (by kernel_rfl)
 exact (Opens.struct (n := n) (fun x : Int × Int => x) (fun b => b) (fun _ => rfl) Try.underlying28 (by kernel_rfl) (OpensFs.cons rfl i0 (OpensFs.one rfl i0))).imp (fun _ hg => hg)
theorem open_ref {H : Type} {enc : TypeId × Value → H} {w : World} {base : Nat} {spare : Nat → Bool} {held : Bool} {cs : Array Value} {D : DataW H} {ps : List MemPlace}
 (ht : DataW.Trod enc Try.prog w base spare held 28 (.agg cs) D ps) : ∃ a b : Int, cs = #[.int .i64 a, .int .i64 b] ∧ (Lit.int .i64 a).wf = true ∧ (Lit.int .i64 b).wf = true := by
 obtain ⟨fuel, hf⟩ := ht
 obtain ⟨⟨a, b⟩, hg, hk⟩ := (refE fuel).opens enc w base spare held fuel _ _ (by omega) hf
 obtain ⟨_, _, e, rfl, rfl⟩ := hk
 refine ⟨a, b, ?_, hg.1, hg.2⟩
 have e2 : cs.toList = _ := e
 apply Array.ext'
 rw [e2]
 rfl
theorem ref28E (n : Nat) : Opens Try.prog 28 k28 (fun _ => True) (n + 1) := by
 have i0 := Opens.int (n := n) (P := Try.prog) Try.underlying3 (by kernel_rfl)
 exact (Opens.struct (n := n) (fun x : S28 => (x.f0, x.f1)) (fun b => ⟨b.1, b.2⟩) (fun _ => rfl) Try.underlying28 (by kernel_rfl) (OpensFs.cons rfl i0 (OpensFs.one rfl i0))).imp (fun _ _ => trivial)
theorem opE (n : Nat) : Opens Try.prog 37 k37 (fun _ => True) (n + 2) := by
 have i0 := Opens.int (n := n + 1) (P := Try.prog) Try.underlying5 (by kernel_rfl)
 exact (Opens.struct (n := n + 1) (fun x : S37 => (x.f0, x.f1, x.f2)) (fun b => ⟨b.1, b.2.1, b.2.2⟩) (fun _ => rfl) Try.underlying37 (by kernel_rfl) (OpensFs.cons rfl i0 (OpensFs.cons rfl (ref28E n) (OpensFs.one rfl (nestV (n + 1)).1)))).imp (fun _ _ => trivial)
theorem slotE (n : Nat) : Opens Try.prog 69 k69 (fun _ => True) (n + 2) := by
 have i0 := Opens.int (n := n + 1) (P := Try.prog) Try.underlying3 (by kernel_rfl)
 have b0 := Opens.bool (n := n + 1) (P := Try.prog) Try.underlying4 (by kernel_rfl)
 exact (Opens.struct (n := n + 1) (fun x : S69 => (x.f0, x.f1, x.f2)) (fun b => ⟨b.1, b.2.1, b.2.2⟩) (fun _ => rfl) Try.underlying69 (by kernel_rfl) (OpensFs.cons rfl i0 (OpensFs.cons rfl b0 (OpensFs.one rfl (nestV (n + 1)).1)))).imp (fun _ _ => trivial)
theorem opsE (n : Nat) : Opens Try.prog 22 (Kd.slice 37 k37) (fun xs => ∀ x ∈ xs, True) n := (Opens.slice Try.underlying22 (by kernel_rfl) (opE n)).le (by omega)
theorem slotsE (n : Nat) : Opens Try.prog 46 (Kd.slice 69 k69) (fun xs => ∀ x ∈ xs, True) n := (Opens.slice Try.underlying46 (by kernel_rfl) (slotE n)).le (by omega)
theorem open_ops {H : Type} {enc : TypeId × Value → H} {w : World} {base : Nat} {spare : Nat → Bool} {held : Bool} {A : Option Addr} {len cap : Nat} {D : DataW H} {ps : List MemPlace}
 (ht : DataW.Trod enc Try.prog w base spare held 22 (.slice A len cap) D ps) : ∃ l : List S37, l.length = len ∧ Kd.C k37 w A l.length l ∧ l.length ≤ cap := by
 obtain ⟨l, h1, h2, h3, _⟩ := Opens.arg opsE ht
 exact ⟨l, h1, h2, h3⟩
theorem open_slots {H : Type} {enc : TypeId × Value → H} {w : World} {base : Nat} {spare : Nat → Bool} {held : Bool} {A : Option Addr} {len cap : Nat} {D : DataW H} {ps : List MemPlace}
 (ht : DataW.Trod enc Try.prog w base spare held 46 (.slice A len cap) D ps) : ∃ l : List S69, l.length = len ∧ Kd.C k69 w A l.length l ∧ l.length ≤ cap := by
 obtain ⟨l, h1, h2, h3, _⟩ := Opens.arg slotsE ht
 exact ⟨l, h1, h2, h3⟩
end Go.Proofs.Ytogpnkkoablmiaa.O
end
