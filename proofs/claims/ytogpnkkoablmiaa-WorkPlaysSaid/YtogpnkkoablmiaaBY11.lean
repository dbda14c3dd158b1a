/- Parts of the proof: what the theorem reaches, put together by a program of this session. -/
import Derived.Test.YtogpnkkoablmiaaBY7
section
namespace Go.Proofs.Ytogpnkkoablmiaa.V
open Go.RowKit Go.Proofs.Ytogpnkkoablmiaa.Q Go.Proofs.YtogpnkkoablmiaaW.PrintWords Go.Proofs.YtogpnkkoablmiaaW.PrintLast Go.Proofs.YtogpnkkoablmiaaW.PrintMore
set_option linter.unusedVariables false
set_option linter.unusedSimpArgs false
structure Past (w : World) where
 w' : World
 h : Below w.heap.size w w'
instance (w : World) : Inhabited (Past w) := ⟨⟨w, Below.refl _ _⟩⟩
theorem wp_region_past {P : Program} {id : Nat} {Q : Exit → Act → World → Prop} {a : Act} {w : World} {l : List Oper} (hm : P.follows .mixedOrders = true) (hB : Region.lexB .any l.toArray = true)
 (h : wpQuiet P l.toArray (fun w' => ∃ p : Past w, w' = p.w') (fun a' => ∀ w', (∃ p : Past w, w' = p.w') → Q .normal a' w') l a) : (Code.region id l.toArray true).wp P Q a w :=
 wp_region_quiet (C := fun w' => ∃ p : Past w, w' = p.w') hm hB ⟨⟨w.drew, (Below.refl _ _).drew⟩, rfl⟩ (by simpa using h)
theorem past_of {P : Program} {f : FuncId} {args : Array Value} {w : World} {p : Past w} {v : Value} (h : Calls P f args p.w' fun e w' => e = .returned v ∧ Below p.w'.heap.size p.w' w') :
 Calls P f args p.w' fun e w'' => e = .returned v ∧ ∃ q : Past w, w'' = q.w' :=
 h.mono fun _ w'' ⟨he, hb⟩ => ⟨he, ⟨w'', p.h.trans (hb.mono p.h.size)⟩, rfl⟩
theorem past_cell {w : World} {a : Addr} {v : Value} (h : w.cell? a = some v) (p : Past w) : p.w'.cell? a = some v := (p.h.cell (World.block_lt_of_cell? w a h)).trans h
theorem at35 {w : World} {A : Option Addr} {n : Nat} {xs : List S35} (h : Kd.C k35 w A n xs) (i : Nat) (h1 : i < n) : ∃ ad A4 c4 A5 c5, A = some ad ∧
 (∀ p : Past w, p.w'.cell? (ad.add (i * 6)) = some (.int .i64 (xs.getD i z35).f0)) ∧ (∀ p : Past w, p.w'.cell? ⟨(ad.add (i * 6)).block, (ad.add (i * 6)).off + 1, none⟩ = some (.int .i64 (xs.getD i z35).f1)) ∧
 (∀ p : Past w, p.w'.cell? ⟨(ad.add (i * 6)).block, (ad.add (i * 6)).off + 2, none⟩ = some (.int .i64 (xs.getD i z35).f2)) ∧ (∀ p : Past w, p.w'.cell? ⟨(ad.add (i * 6)).block, (ad.add (i * 6)).off + 3, none⟩ = some (.string (xs.getD i z35).f3)) ∧
 (∀ p : Past w, p.w'.cell? ⟨(ad.add (i * 6)).block, (ad.add (i * 6)).off + 4, none⟩ = some (.slice A4 (xs.getD i z35).f4.length c4)) ∧ (∀ p : Past w, p.w'.cell? ⟨(ad.add (i * 6)).block, (ad.add (i * 6)).off + 5, none⟩ = some (.slice A5 (xs.getD i z35).f5.length c5)) ∧
 (xs.getD i z35).f4.length ≤ c4 ∧ k35.C w A4 (xs.getD i z35).f4.length (xs.getD i z35).f4 ∧ (xs.getD i z35).f5.length ≤ c5 ∧ k89.C w A5 (xs.getD i z35).f5.length (xs.getD i z35).f5 := by
 obtain ⟨ad, A4, c4, A5, c5, e, h0, h1, h2, h3, h4, h5, l4, g4, l5, g5⟩ := at_T35 h (i : Int) (by omega) (by omega)
 simp only [rd_T35, Int.toNat_natCast] at *
 exact ⟨ad, A4, c4, A5, c5, e, past_cell h0, past_cell h1, past_cell h2, past_cell h3, past_cell h4, past_cell h5, l4, g4, l5, g5⟩
theorem at89 {w : World} {A : Option Addr} {n : Nat} {xs : List S89} (h : Kd.C k89 w A n xs) (i : Nat) (h1 : i < n) : ∃ ad A4 c4 A5 c5, A = some ad ∧
 (∀ p : Past w, p.w'.cell? (ad.add (i * 7)) = some (.string (xs.getD i z89).f0)) ∧ (∀ p : Past w, p.w'.cell? ⟨(ad.add (i * 7)).block, (ad.add (i * 7)).off + 1, none⟩ = some (.int .i64 (xs.getD i z89).f1.f0)) ∧ (∀ p : Past w, p.w'.cell? ⟨(ad.add (i * 7)).block, (ad.add (i * 7)).off + 2, none⟩ = some (.int .i64 (xs.getD i z89).f1.f1)) ∧
 (∀ p : Past w, p.w'.cell? ⟨(ad.add (i * 7)).block, (ad.add (i * 7)).off + 3, none⟩ = some (.int .i64 (xs.getD i z89).f1.f2)) ∧ (∀ p : Past w, p.w'.cell? ⟨(ad.add (i * 7)).block, (ad.add (i * 7)).off + 4, none⟩ = some (.string (xs.getD i z89).f1.f3)) ∧
 (∀ p : Past w, p.w'.cell? ⟨(ad.add (i * 7)).block, (ad.add (i * 7)).off + 5, none⟩ = some (.slice A4 (xs.getD i z89).f1.f4.length c4)) ∧ (∀ p : Past w, p.w'.cell? ⟨(ad.add (i * 7)).block, (ad.add (i * 7)).off + 6, none⟩ = some (.slice A5 (xs.getD i z89).f1.f5.length c5)) ∧
 (xs.getD i z89).f1.f4.length ≤ c4 ∧ k35.C w A4 (xs.getD i z89).f1.f4.length (xs.getD i z89).f1.f4 ∧ (xs.getD i z89).f1.f5.length ≤ c5 ∧ k89.C w A5 (xs.getD i z89).f1.f5.length (xs.getD i z89).f1.f5 := by
 obtain ⟨ad, A4, c4, A5, c5, e, h0, h1, h2, h3, h4, h5, h6, l4, g4, l5, g5⟩ := at_T89 h (i : Int) (by omega) (by omega)
 simp only [rd_T89, Int.toNat_natCast] at *
 exact ⟨ad, A4, c4, A5, c5, e, past_cell h0, past_cell h1, past_cell h2, past_cell h3, past_cell h4, past_cell h5, past_cell h6, l4, g4, l5, g5⟩
theorem getD_mem {α : Type} (xs : List α) (i : Nat) (h : i < xs.length) (z : α) : xs.getD i z ∈ xs := by rw [List.getD_eq_getElem?_getD, List.getElem?_eq_getElem h]; exact List.getElem_mem h
theorem ext_getD {α : Type} (z : α) {xs ys : List α} (hl : ys.length = xs.length) (h : ∀ j, j < xs.length → xs.getD j z = ys.getD j z) : xs = ys := by
 apply List.ext_getElem hl.symm
 intro i h1 h2
 have := h i h1
 rwa [List.getD_eq_getElem?_getD, List.getD_eq_getElem?_getD, List.getElem?_eq_getElem h1, List.getElem?_eq_getElem h2] at this
theorem S35.ind {P : S35 → Prop} (h : ∀ v : S35, (∀ x ∈ v.f4, P x) → (∀ p ∈ v.f5, P p.f1) → P v) : ∀ v, P v := by
 intro v
 exact S35.rec (motive_1 := P) (motive_2 := fun l => ∀ x ∈ l, P x) (motive_3 := fun l => ∀ p ∈ l, P p.f1) (motive_4 := fun p => P p.f1)
  (fun f0 f1 f2 f3 f4 f5 h4 h5 => h ⟨f0, f1, f2, f3, f4, f5⟩ h4 h5)
  (fun x hx => by simp at hx) (fun x l hx hl y hy => by rcases List.mem_cons.1 hy with rfl | hy; exact hx; exact hl y hy)
  (fun x hx => by simp at hx) (fun x l hx hl y hy => by rcases List.mem_cons.1 hy with rfl | hy; exact hx; exact hl y hy)
  (fun k v hv => hv) v
noncomputable def eqB {α : Type} (a b : α) : Bool := @decide (a = b) (Classical.propDecidable _)
theorem eqB_true {α : Type} {a b : α} (h : a = b) : eqB a b = true := @decide_eq_true _ (Classical.propDecidable _) h
theorem eqB_false {α : Type} {a b : α} (h : a ≠ b) : eqB a b = false := @decide_eq_false _ (Classical.propDecidable _) h
theorem eqB_iff {α : Type} {a b : α} : eqB a b = true ↔ a = b := ⟨fun h => @of_decide_eq_true _ (Classical.propDecidable _) h, eqB_true⟩
theorem ret_b {b c : Bool} (h : b = c) : Ending.returned (.bool b) = .returned (.bool c) := by rw [h]
def EqSaid (a : S35) : Prop := ∀ (b : S35) (A4 : Option Addr) (c4 : Nat) (A5 : Option Addr) (c5 : Nat) (B4 : Option Addr) (d4 : Nat) (B5 : Option Addr) (d5 : Nat) (w : World), a.f4.length ≤ c4 → k35.C w A4 a.f4.length a.f4 → a.f5.length ≤ c5 → k89.C w A5 a.f5.length a.f5 →
 b.f4.length ≤ d4 → k35.C w B4 b.f4.length b.f4 → b.f5.length ≤ d5 → k89.C w B5 b.f5.length b.f5 →
 Calls Try.prog 58 #[.agg #[.int .i64 a.f0, .int .i64 a.f1, .int .i64 a.f2, .string a.f3, .slice A4 a.f4.length c4, .slice A5 a.f5.length c5], .agg #[.int .i64 b.f0, .int .i64 b.f1, .int .i64 b.f2, .string b.f3, .slice B4 b.f4.length d4, .slice B5 b.f5.length d5]] w fun e w' => e = .returned (.bool (eqB a b)) ∧ Below w.heap.size w w'
theorem ba_inj {a b : ByteArray} (h : a.toList = b.toList) : a = b := by
 rw [ByteArray.toList_eq, ByteArray.toList_eq] at h
 exact ByteArray.ext (Array.toList_inj.1 h)
theorem first_diff (a b : S35) : (a.f0 = b.f0 ∧ a.f1 = b.f1 ∧ a.f2 = b.f2 ∧ a.f3 = b.f3 ∧ a.f4.length = b.f4.length ∧ a.f5.length = b.f5.length) ∨ (Aside0 (eqB a b = false) ∧ (a.f0 ≠ b.f0 ∨ (a.f0 = b.f0 ∧ a.f1 ≠ b.f1) ∨ (a.f0 = b.f0 ∧ a.f1 = b.f1 ∧ a.f2 ≠ b.f2) ∨
 (a.f0 = b.f0 ∧ a.f1 = b.f1 ∧ a.f2 = b.f2 ∧ a.f3.toList ≠ b.f3.toList) ∨ (a.f0 = b.f0 ∧ a.f1 = b.f1 ∧ a.f2 = b.f2 ∧ a.f3 = b.f3 ∧ a.f4.length ≠ b.f4.length) ∨ (a.f0 = b.f0 ∧ a.f1 = b.f1 ∧ a.f2 = b.f2 ∧ a.f3 = b.f3 ∧ a.f4.length = b.f4.length ∧ a.f5.length ≠ b.f5.length))) := by
 by_cases h : a = b
 · subst h
   exact .inl ⟨rfl, rfl, rfl, rfl, rfl, rfl⟩
 · have hf := Aside0.mk (eqB_false h)
   by_cases h0 : a.f0 = b.f0 <;> by_cases h1 : a.f1 = b.f1 <;> by_cases h2 : a.f2 = b.f2 <;> by_cases h3 : a.f3 = b.f3 <;> (try have h3' : a.f3.toList ≠ b.f3.toList := fun h => h3 (ba_inj h)) <;> by_cases h4 : a.f4.length = b.f4.length <;> by_cases h5 : a.f5.length = b.f5.length <;> simp [*]
set_option maxHeartbeats 4000000 in
set_option maxRecDepth 100000 in
theorem equal_all : ∀ a, EqSaid a := by
 refine S35.ind ?_
 rintro ⟨a0, a1, a2, a3, a4, a5⟩ ih4 ih5 ⟨b0, b1, b2, b3, b4, b5⟩ A4 c4 A5 c5 B4 d4 B5 d5 w la4 ra4 la5 ra5 lb4 rb4 lb5 rb5
 have hd := first_diff ⟨a0, a1, a2, a3, a4, a5⟩ ⟨b0, b1, b2, b3, b4, b5⟩
 simp only [] at *
 have hu35 := Try.underlying35
 rcases hd with ⟨rfl, rfl, rfl, rfl, el, ed⟩ | ⟨HR, e | ⟨rfl, e⟩ | ⟨rfl, rfl, e⟩ | ⟨rfl, rfl, rfl, e⟩ | ⟨rfl, rfl, rfl, rfl, e⟩ | ⟨rfl, rfl, rfl, rfl, el, e⟩⟩
 · have el' : b4.length = a4.length := el.symm
   have ed' : b5.length = a5.length := ed.symm
   rw [el'] at lb4 rb4 ⊢
   rw [ed'] at lb5 rb5 ⊢
   have EL := Aside0.mk el'
   have ED := Aside0.mk ed'
   clear el ed el' ed'
   have m4 := Kd.C_max ra4
   have m5 := Kd.C_max ra5
   go_enter Try.func58, Try.ntmps58
   go_wp2
   have hb0 : Below w.heap.size w ((w.alloc (.cells #[.int .i64 a0, .int .i64 a1, .int .i64 a2, .string a3, .slice A4 a4.length c4, .slice A5 a5.length c5] 35)).alloc (.cells #[.int .i64 a0, .int .i64 a1, .int .i64 a2, .string a3, .slice B4 a4.length d4, .slice B5 a5.length d5] 35)) := ((Below.refl _ _).alloc (Nat.le_refl _) _).alloc (by simp) _
   have xa4 : ((w.alloc (.cells #[.int .i64 a0, .int .i64 a1, .int .i64 a2, .string a3, .slice A4 a4.length c4, .slice A5 a5.length c5] 35)).alloc (.cells #[.int .i64 a0, .int .i64 a1, .int .i64 a2, .string a3, .slice B4 a4.length d4, .slice B5 a5.length d5] 35)).cell? ⟨w.heap.size, 4, none⟩ = some (.slice A4 a4.length c4) := by go_simp
   have xa5 : ((w.alloc (.cells #[.int .i64 a0, .int .i64 a1, .int .i64 a2, .string a3, .slice A4 a4.length c4, .slice A5 a5.length c5] 35)).alloc (.cells #[.int .i64 a0, .int .i64 a1, .int .i64 a2, .string a3, .slice B4 a4.length d4, .slice B5 a5.length d5] 35)).cell? ⟨w.heap.size, 5, none⟩ = some (.slice A5 a5.length c5) := by go_simp
   have xb4 : ((w.alloc (.cells #[.int .i64 a0, .int .i64 a1, .int .i64 a2, .string a3, .slice A4 a4.length c4, .slice A5 a5.length c5] 35)).alloc (.cells #[.int .i64 a0, .int .i64 a1, .int .i64 a2, .string a3, .slice B4 a4.length d4, .slice B5 a5.length d5] 35)).cell? ⟨w.heap.size + 1, 4, none⟩ = some (.slice B4 a4.length d4) := by go_simp
   have xb5 : ((w.alloc (.cells #[.int .i64 a0, .int .i64 a1, .int .i64 a2, .string a3, .slice A4 a4.length c4, .slice A5 a5.length c5] 35)).alloc (.cells #[.int .i64 a0, .int .i64 a1, .int .i64 a2, .string a3, .slice B4 a4.length d4, .slice B5 a5.length d5] 35)).cell? ⟨w.heap.size + 1, 5, none⟩ = some (.slice B5 a5.length d5) := by go_simp
   generalize ((w.alloc (.cells #[.int .i64 a0, .int .i64 a1, .int .i64 a2, .string a3, .slice A4 a4.length c4, .slice A5 a5.length c5] 35)).alloc (.cells #[.int .i64 a0, .int .i64 a1, .int .i64 a2, .string a3, .slice B4 a4.length d4, .slice B5 a5.length d5] 35)) = w1 at *
   replace ra4 := Aside0.mk (Kd.C_below ra4 hb0)
   replace ra5 := Aside0.mk (Kd.C_below ra5 hb0)
   replace rb4 := Aside0.mk (Kd.C_below rb4 hb0)
   replace rb5 := Aside0.mk (Kd.C_below rb5 hb0)
   have X := Aside0.mk (And.intro xa4 (And.intro xa5 (And.intro xb4 xb5)))
   have HB0 := Aside0.mk hb0
   clear xa4 xa5 xb4 xb5 hb0
   go_loopw [5] (fun i wr => ∃ k : Nat, k ≤ a4.length ∧ i = .int .i64 k ∧ Aside0 (Below w1.heap.size w1 wr) ∧ Aside0 (∀ j, j < k → a4.getD j z35 = b4.getD j z35)) (fun i _ => a4.length - (intOf i).toNat)
   case atStart => exact ⟨0, Nat.zero_le _, rfl, ⟨Below.refl _ _⟩, ⟨fun j hj => by omega⟩⟩
   case round =>
    obtain ⟨k, hk, rfl, HB, HE⟩ := hrel
    have ya4 := past_cell X.out.1 ⟨wr, HB.out⟩
    have yb4 := past_cell X.out.2.2.1 ⟨wr, HB.out⟩
    by_cases hlt : k < a4.length
    · obtain ⟨ad, P4, p4, P5, p5, rfl, x0, x1, x2, x3, x4, x5, lp4, gp4, lp5, gp5⟩ := at35 (Kd.C_below ra4.out HB.out) k hlt
      obtain ⟨bd, Q4, q4, Q5, q5, rfl, y0, y1, y2, y3, y4, y5, lq4, gq4, lq5, gq5⟩ := at35 (Kd.C_below rb4.out HB.out) k hlt
      have za4 := past_cell ya4
      have zb4 := past_cell yb4
      have hmem : a4.getD k z35 ∈ a4 := by rw [List.getD_eq_getElem?_getD, List.getElem?_eq_getElem hlt]; exact List.getElem_mem hlt
      have Nx := Aside0.mk (Eq.refl (a4.getD k z35))
      have Ny := Aside0.mk (Eq.refl (b4.getD k z35))
      generalize hx : a4.getD k z35 = x at *
      generalize hy : b4.getD k z35 = y at *
      have NX := Aside0.mk (And.intro hx hy)
      have hcall := fun p : Past wr => past_of (p := p) (ih4 x hmem y P4 p4 P5 p5 Q4 q4 Q5 q5 p.w' lp4 (Kd.C_below gp4 p.h) lp5 (Kd.C_below gp5 p.h) lq4 (Kd.C_below gq4 p.h) lq5 (Kd.C_below gq5 p.h))
      have HCALL := Aside0.mk hcall
      clear hcall gp4 gp5 gq4 gq5 hx hy hmem Nx Ny
      go_wp2_with fail
      refine wp_region_past (by kernel_rfl) (by kernel_rfl) ?_
      repeat (quiet_step ((go_at_call 58; with_reducible exact HCALL.out _)))
      refine wpQuiet_nil ?_
      intro _ hw'
      obtain ⟨p, hw''⟩ := hw'
      subst hw''
      have HBp := Aside0.mk ((HB0.out).trans ((HB.out.trans (p.h.mono HB.out.size)).mono HB0.out.size))
      have HBq := Aside0.mk (HB.out.trans (p.h.mono HB.out.size))
      obtain ⟨wp, hwp⟩ : ∃ w', w' = p.w' := ⟨_, rfl⟩
      rw [← hwp] at HBp HBq ⊢
      clear hwp x0 x1 x2 x3 x4 x5 y0 y1 y2 y3 y4 y5 ya4 yb4 za4 zb4
      by_cases hxy : x = y
      · have hv : (!eqB x y) = false := by rw [eqB_true hxy]; rfl
        rw [hv]
        clear hv
        have NXY := Aside0.mk hxy
        clear hxy
        go_wp2
        refine ⟨⟨k + 1, by omega, by go_num, HBq, ⟨fun j hj => ?_⟩⟩, by simp [intOf]; omega⟩
        rcases Nat.lt_or_ge j k with h | h
        · exact HE.out j h
        · have : j = k := by omega
          subst this
          rw [NX.out.1, NX.out.2, NXY.out]
      · have hv : (!eqB x y) = true := by rw [eqB_false hxy]; rfl
        rw [hv]
        clear hv
        have hf := Aside0.mk (eqB_false (a := (⟨a0, a1, a2, a3, a4, a5⟩ : S35)) (b := ⟨a0, a1, a2, a3, b4, b5⟩) (fun h => hxy (by have h4 := congrArg S35.f4 h; simp only [] at h4; rw [← NX.out.1, ← NX.out.2, h4])))
        clear hxy
        go_wp2
        go_ret
        exact ⟨ret_b hf.out.symm, HBp.out⟩
    · have E4 := Aside0.mk (ext_getD z35 EL.out (fun j hj => HE.out j (by omega)))
      have HB1 := Aside0.mk ((HB0.out).trans (HB.out.mono HB0.out.size))
      go_wp2
      clear ya4 yb4
      have hmz : Aside0 (Below wr.heap.size wr wr) := ⟨Below.refl _ _⟩
      go_loopw [6] (fun i wq => ∃ k : Nat, k ≤ a5.length ∧ i = .int .i64 k ∧ Aside0 (Below w1.heap.size w1 wq) ∧ Aside0 (∀ j, j < k → a5.getD j z89 = b5.getD j z89)) (fun i _ => a5.length - (intOf i).toNat)
      case atStart => exact ⟨0, Nat.zero_le _, rfl, HB, ⟨fun j hj => by omega⟩⟩
      case round =>
       clear HB HB1 hmz HE
       obtain ⟨k, hk, rfl, HB, HE⟩ := hrel
       have ya4 := past_cell X.out.2.1 ⟨wr, HB.out⟩
       have yb4 := past_cell X.out.2.2.2 ⟨wr, HB.out⟩
       by_cases hlt : k < a5.length
       · obtain ⟨ad, P4, p4, P5, p5, rfl, x0, x1, x2, x3, x4, x5, x6, lp4, gp4, lp5, gp5⟩ := at89 (Kd.C_below ra5.out HB.out) k hlt
         obtain ⟨bd, Q4, q4, Q5, q5, rfl, y0, y1, y2, y3, y4, y5, y6, lq4, gq4, lq5, gq5⟩ := at89 (Kd.C_below rb5.out HB.out) k hlt
         have za4 := past_cell ya4
         have zb4 := past_cell yb4
         have hmem : a5.getD k z89 ∈ a5 := getD_mem _ _ hlt _
         generalize hx : a5.getD k z89 = x at *
         generalize hy : b5.getD k z89 = y at *
         have NX := Aside0.mk (And.intro hx hy)
         obtain ⟨xk, x⟩ := x
         obtain ⟨yk, y⟩ := y
         simp only [] at *
         have HCALL := Aside0.mk (fun p : Past wr => past_of (p := p) (ih5 ⟨xk, x⟩ hmem y P4 p4 P5 p5 Q4 q4 Q5 q5 p.w' lp4 (Kd.C_below gp4 p.h) lp5 (Kd.C_below gp5 p.h) lq4 (Kd.C_below gq4 p.h) lq5 (Kd.C_below gq5 p.h)))
         clear gp4 gp5 gq4 gq5 hx hy hmem
         by_cases hks : xk = yk
         · subst hks
           go_wp2_with fail
           refine wp_region_past (by kernel_rfl) (by kernel_rfl) ?_
           repeat (quiet_step ((go_at_call 58; with_reducible exact HCALL.out _)))
           refine wpQuiet_nil ?_
           intro _ hw'
           obtain ⟨p, hw''⟩ := hw'
           subst hw''
           have HBp := Aside0.mk ((HB0.out).trans ((HB.out.trans (p.h.mono HB.out.size)).mono HB0.out.size))
           have HBq := Aside0.mk (HB.out.trans (p.h.mono HB.out.size))
           obtain ⟨wp, hwp⟩ : ∃ w', w' = p.w' := ⟨_, rfl⟩
           rw [← hwp] at HBp HBq ⊢
           clear hwp x0 x1 x2 x3 x4 x5 x6 y0 y1 y2 y3 y4 y5 y6 ya4 yb4 za4 zb4
           by_cases hxy : x = y
           · have hv : (!eqB x y) = false := by rw [eqB_true hxy]; rfl
             rw [hv]
             clear hv
             have NXY := Aside0.mk hxy
             clear hxy
             go_wp2
             refine ⟨⟨k + 1, by omega, by go_num, HBq, ⟨fun j hj => ?_⟩⟩, by simp [intOf]; omega⟩
             rcases Nat.lt_or_ge j k with h | h
             · exact HE.out j h
             · have : j = k := by omega
               subst this
               rw [NX.out.1, NX.out.2, NXY.out]
           · have hv : (!eqB x y) = true := by rw [eqB_false hxy]; rfl
             rw [hv]
             clear hv
             have hf := Aside0.mk (eqB_false (a := (⟨a0, a1, a2, a3, a4, a5⟩ : S35)) (b := ⟨a0, a1, a2, a3, b4, b5⟩) (fun h => hxy (by have h4 := congrArg S35.f5 h; simp only [] at h4; have h5 := (NX.out.1.symm.trans (by rw [h4])).trans NX.out.2; injection h5)))
             clear hxy
             go_wp2
             go_ret
             exact ⟨ret_b hf.out.symm, HBp.out⟩
         · have hks' : ¬ xk.toList = yk.toList := fun h => hks (ba_inj h)
           have hf := Aside0.mk (eqB_false (a := (⟨a0, a1, a2, a3, a4, a5⟩ : S35)) (b := ⟨a0, a1, a2, a3, b4, b5⟩) (fun h => hks (by have h4 := congrArg S35.f5 h; simp only [] at h4; have h5 := (NX.out.1.symm.trans (by rw [h4])).trans NX.out.2; injection h5)))
           clear hks
           go_wp2_with fail
           refine wp_region_past (by kernel_rfl) (by kernel_rfl) ?_
           repeat (quiet_step ((go_at_call 58; with_reducible exact HCALL.out _)))
           refine wpQuiet_nil ?_
           intro _ hw'
           obtain ⟨p, hw''⟩ := hw'
           subst hw''
           have HBp := Aside0.mk ((HB0.out).trans ((HB.out.trans (p.h.mono HB.out.size)).mono HB0.out.size))
           go_wp2
           go_ret
           exact ⟨ret_b hf.out.symm, HBp.out⟩
       · go_wp2
         go_ret
         exact ⟨ret_b (eqB_true (by rw [E4.out, ext_getD z89 ED.out (fun j hj => HE.out j (by omega))])).symm, (HB0.out).trans (HB.out.mono HB0.out.size)⟩
 all_goals
  go_enter Try.func58, Try.ntmps58
  go_wp2
  go_ret
  exact ⟨ret_b HR.out.symm, ((Below.refl _ _).alloc (Nat.le_refl _) _).alloc (by simp) _⟩
def foreignB (N G : Int) (S : ByteArray) (L D : Nat) (n g s l d : Bool) : Bool :=
 (!n && decide (N ≠ 0)) || (!g && decide (G ≠ 0)) || (!s && !(S.toList.isEmpty)) || (!l && decide (0 < L)) || (!d && decide (0 < D))
set_option maxHeartbeats 8000000 in
set_option maxRecDepth 100000 in
theorem foreign_calls (f0 f1 f2 : Int) (f3 : ByteArray) (L D : Nat) (A4 : Option Addr) (c4 : Nat) (A5 : Option Addr) (c5 : Nat) (n g s l d : Bool) (w : World) : Calls Try.prog 171 #[.agg #[.int .i64 f0, .int .i64 f1, .int .i64 f2, .string f3, .slice A4 L c4, .slice A5 D c5], .agg #[.bool n, .bool g, .bool s, .bool l, .bool d]] w fun e w' => e = .returned (.bool (foreignB f1 f2 f3 L D n g s l d)) ∧ Below w.heap.size w w' := by
 have hu35 := Try.underlying35
 have HB := fun x y => Aside0.mk (((Below.refl w.heap.size w).alloc (Nat.le_refl _) x).alloc (by simp) y)
 go_enter Try.func171, Try.ntmps171
 go_wp2
 all_goals
  go_ret
  refine ⟨ret_b ?_, (HB _ _).out⟩
  clear HB
  simp_all [foreignB]
  all_goals first | omega | exact Or.inl (by omega)
def extraB (k N G : Int) (S : ByteArray) (L D : Nat) : Bool :=
 (decide (N ≠ 0) && decide (k ≠ 1) && decide (k ≠ 2) && decide (k ≠ 7)) || (decide (G ≠ 0) && decide (k ≠ 7)) || (!(S.toList.isEmpty) && decide (k ≠ 3) && decide (k ≠ 4) && decide (k ≠ 8)) || (decide (0 < L) && decide (k ≠ 5)) || (decide (0 < D) && decide (k ≠ 6) && decide (k ≠ 8))
end Go.Proofs.Ytogpnkkoablmiaa.V
end
