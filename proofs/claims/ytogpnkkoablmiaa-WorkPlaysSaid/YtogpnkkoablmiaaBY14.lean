/- Parts of the proof: what the theorem reaches, put together by a program of this session. -/
import Derived.Maps.OwnOps
import Derived.Maps.Views
import Derived.Test.YtogpnkkoablmiaaBY13
section
namespace Go.Proofs.Ytogpnkkoablmiaa.V
open Go.RowKit Go.Proofs.Ytogpnkkoablmiaa.Q Go.Proofs.YtogpnkkoablmiaaW.PrintWords Go.Proofs.YtogpnkkoablmiaaW.PrintLast Go.Proofs.YtogpnkkoablmiaaW.PrintMore
set_option linter.unusedVariables false
set_option linter.unusedSimpArgs false
theorem at35w {w : World} {A : Option Addr} {n : Nat} {xs : List S35} (h : Kd.C k35 w A n xs) (i : Nat) (h1 : i < n) : ∃ ad A4 c4 A5 c5, A = some ad ∧
 w.cell? (ad.add (i * 6)) = some (.int .i64 (xs.getD i z35).f0) ∧ w.cell? ⟨(ad.add (i * 6)).block, (ad.add (i * 6)).off + 1, none⟩ = some (.int .i64 (xs.getD i z35).f1) ∧
 w.cell? ⟨(ad.add (i * 6)).block, (ad.add (i * 6)).off + 2, none⟩ = some (.int .i64 (xs.getD i z35).f2) ∧ w.cell? ⟨(ad.add (i * 6)).block, (ad.add (i * 6)).off + 3, none⟩ = some (.string (xs.getD i z35).f3) ∧
 w.cell? ⟨(ad.add (i * 6)).block, (ad.add (i * 6)).off + 4, none⟩ = some (.slice A4 (xs.getD i z35).f4.length c4) ∧ w.cell? ⟨(ad.add (i * 6)).block, (ad.add (i * 6)).off + 5, none⟩ = some (.slice A5 (xs.getD i z35).f5.length c5) ∧
 (xs.getD i z35).f4.length ≤ c4 ∧ k35.C w A4 (xs.getD i z35).f4.length (xs.getD i z35).f4 ∧ (xs.getD i z35).f5.length ≤ c5 ∧ k89.C w A5 (xs.getD i z35).f5.length (xs.getD i z35).f5 := by
 obtain ⟨ad, A4, c4, A5, c5, e, h0, h1, h2, h3, h4, h5, l4, g4, l5, g5⟩ := at_T35 h (i : Int) (by omega) (by omega)
 simp only [rd_T35, Int.toNat_natCast] at *
 exact ⟨ad, A4, c4, A5, c5, e, h0, h1, h2, h3, h4, h5, l4, g4, l5, g5⟩
theorem at89w {w : World} {A : Option Addr} {n : Nat} {xs : List S89} (h : Kd.C k89 w A n xs) (i : Nat) (h1 : i < n) : ∃ ad A4 c4 A5 c5, A = some ad ∧
 w.cell? (ad.add (i * 7)) = some (.string (xs.getD i z89).f0) ∧ w.cell? ⟨(ad.add (i * 7)).block, (ad.add (i * 7)).off + 1, none⟩ = some (.int .i64 (xs.getD i z89).f1.f0) ∧ w.cell? ⟨(ad.add (i * 7)).block, (ad.add (i * 7)).off + 2, none⟩ = some (.int .i64 (xs.getD i z89).f1.f1) ∧
 w.cell? ⟨(ad.add (i * 7)).block, (ad.add (i * 7)).off + 3, none⟩ = some (.int .i64 (xs.getD i z89).f1.f2) ∧ w.cell? ⟨(ad.add (i * 7)).block, (ad.add (i * 7)).off + 4, none⟩ = some (.string (xs.getD i z89).f1.f3) ∧
 w.cell? ⟨(ad.add (i * 7)).block, (ad.add (i * 7)).off + 5, none⟩ = some (.slice A4 (xs.getD i z89).f1.f4.length c4) ∧ w.cell? ⟨(ad.add (i * 7)).block, (ad.add (i * 7)).off + 6, none⟩ = some (.slice A5 (xs.getD i z89).f1.f5.length c5) ∧
 (xs.getD i z89).f1.f4.length ≤ c4 ∧ k35.C w A4 (xs.getD i z89).f1.f4.length (xs.getD i z89).f1.f4 ∧ (xs.getD i z89).f1.f5.length ≤ c5 ∧ k89.C w A5 (xs.getD i z89).f1.f5.length (xs.getD i z89).f1.f5 := by
 obtain ⟨ad, A4, c4, A5, c5, e, h0, h1, h2, h3, h4, h5, h6, l4, g4, l5, g5⟩ := at_T89 h (i : Int) (by omega) (by omega)
 simp only [rd_T89, Int.toNat_natCast] at *
 exact ⟨ad, A4, c4, A5, c5, e, h0, h1, h2, h3, h4, h5, h6, l4, g4, l5, g5⟩
open Go.Maps Go.WideMaps
theorem kstr : Keyed Try.prog 9 := string_keyed Try.underlying9
def memK (s : ByteArray) (ks : List ByteArray) : Bool := ks.any (fun t => decide (t.data = s.data))
theorem memK_iff (s : ByteArray) (ks : List ByteArray) : memK s ks = true ↔ s ∈ ks := by
 unfold memK
 rw [List.any_eq_true]
 constructor
 · rintro ⟨t, ht, h⟩
   have : t = s := ByteArray.ext (of_decide_eq_true h)
   rwa [← this]
 · intro h
   exact ⟨s, h, decide_eq_true rfl⟩
theorem zero3 (w : World) : (zeroValue 3).run Try.prog w = .ok (.int .i64 0) w := by kernel_rfl
def Seen (w : World) (b : Nat) (ks : List ByteArray) : Prop :=
 ∃ D : DataW Unit, w.ownsMap Try.prog 9 (plainElem Try.prog 3) b ks.length D ∧ IsMap D ∧ ∀ s : ByteArray, D.atKey (.string s.data.toList) (.lit (.int .i64 0)) = .lit (.int .i64 (if memK s ks = true then 1 else 0))
theorem Seen.start (w : World) : Seen (w.alloc (.map #[] 0)) w.heap.size [] := ⟨.map [], World.ownsMap_made _ _ _ _, isMap_empty, fun s => rfl⟩
theorem Seen.lt {w : World} {b : Nat} {ks : List ByteArray} (h : Seen w b ks) : b < w.heap.size := by obtain ⟨D, h, _⟩ := h; exact h.lt
theorem Seen.below {w w1 : World} {b : Nat} {ks : List ByteArray} (h : Seen w b ks) (hb : Below w.heap.size w w1) : Seen w1 b ks := by
 have hl := h.lt
 obtain ⟨D, ⟨es, clock, hh, F, hs, hD⟩, h2⟩ := h
 exact ⟨D, ⟨es, clock, (hb.block b hl).trans hh, F, hs, hD⟩, h2⟩
theorem Seen.look {w : World} {b : Nat} {ks : List ByteArray} (h : Seen w b ks) (s : ByteArray) (hs : s.size ≤ 9223372036854775807) : (Instr.lookup 187 (.map (some b)) (.string s) false).run Try.prog w = .ok (.int .i64 (if memK s ks = true then 1 else 0)) w := by
 obtain ⟨D, h1, _, h3⟩ := h
 obtain ⟨c, hrun, hat, _⟩ := h1.lookup_int kstr Try.underlying187 Try.underlying3 (zero3 _) (keyOf_string_mk (s := s) Try.underlying9 (by unfold maxLen; omega))
 have e : c = (if memK s ks = true then 1 else 0) := by
  have := hat.symm.trans (h3 s)
  exact (Lit.int.inj (DataW.lit.inj this)).2
 rw [← e]
 exact hrun
theorem Seen.put {w1 : World} {b : Nat} {ks : List ByteArray} {D : DataW Unit} (s : ByteArray) (hD : IsMap D) (h3 : ∀ s : ByteArray, D.atKey (.string s.data.toList) (.lit (.int .i64 0)) = .lit (.int .i64 (if memK s ks = true then 1 else 0)))
 (h : w1.ownsMap Try.prog 9 (plainElem Try.prog 3) b (ks.length + 1) (D.put (.string s.data.toList) (.lit (.int .i64 1)))) : Seen w1 b (ks ++ [s]) := by
 refine ⟨_, by simpa using h, hD.put _ _, fun t => ?_⟩
 by_cases e : t = s
 · subst e
   rw [atKey_put_same hD (by trivial)]
   rw [if_pos ((memK_iff _ _).2 (by simp))]
 · rw [atKey_put_other (by intro h; apply e; injection h with h; exact ByteArray.ext (Array.toList_inj.1 h)), h3]
   have : memK t (ks ++ [s]) = memK t ks := by
    rw [Bool.eq_iff_iff, memK_iff, memK_iff]
    simp [e]
   rw [this]
theorem box7 {w : World} {b T : Nat} {c0 c1 c2 c3 c4 c5 c6 : Value} (h : w.heap[b]? = some (.cells #[c0, c1, c2, c3, c4, c5, c6] T (0, 0))) : w.cell? ⟨b, 0, none⟩ = some c0 ∧ w.cell? ⟨b, 1, none⟩ = some c1 ∧ w.cell? ⟨b, 2, none⟩ = some c2 ∧ w.cell? ⟨b, 3, none⟩ = some c3 ∧ w.cell? ⟨b, 4, none⟩ = some c4 ∧ w.cell? ⟨b, 5, none⟩ = some c5 ∧ w.cell? ⟨b, 6, none⟩ = some c6 := by
 refine ⟨?_, ?_, ?_, ?_, ?_, ?_, ?_⟩ <;> (rw [cell_of_row w b _ _ _ _ h]; rfl)
mutual
/-- P16.2: what is wrong with a value that stands within so many others. -/
def chkV : S35 → Bool → Int → Int
 | ⟨k, n, g, s, l, d⟩, stream, within =>
   if ownE k n g s l.length d.length stream within ≠ 0 then ownE k n g s l.length d.length stream within else if chkL l (within + 1) ≠ 0 then chkL l (within + 1) else chkD [] d (within + 1)
def chkL : List S35 → Int → Int
 | [], _ => 0
 | x :: r, wi => if chkV x false wi ≠ 0 then chkV x false wi else chkL r wi
def chkD : List ByteArray → List (P89 S35) → Int → Int
 | _, [], _ => 0
 | ks, p :: r, wi => if chkP ks p wi ≠ 0 then chkP ks p wi else chkD (ks ++ [p.f0]) r wi
def chkP : List ByteArray → P89 S35 → Int → Int
 | ks, ⟨key, v⟩, wi => if 127 < key.size ∨ hasZero key = true ∨ memK key ks = true then 11 else chkV v false wi
end
theorem chkV_eq (v : S35) (stream : Bool) (within : Int) : chkV v stream within = if ownE v.f0 v.f1 v.f2 v.f3 v.f4.length v.f5.length stream within ≠ 0 then ownE v.f0 v.f1 v.f2 v.f3 v.f4.length v.f5.length stream within else if chkL v.f4 (within + 1) ≠ 0 then chkL v.f4 (within + 1) else chkD [] v.f5 (within + 1) := by
 cases v; rw [chkV]
theorem drop_at {α : Type} (z : α) (xs : List α) (i : Nat) (h : i < xs.length) : xs.drop i = xs.getD i z :: xs.drop (i + 1) := by
 rw [List.drop_eq_getElem_cons h, List.getD_eq_getElem?_getD, List.getElem?_eq_getElem h]; rfl
theorem chkL_at (l : List S35) (wi : Int) (i : Nat) (h : i < l.length) : chkL (l.drop i) wi = if chkV (l.getD i z35) false wi ≠ 0 then chkV (l.getD i z35) false wi else chkL (l.drop (i + 1)) wi := by
 rw [drop_at z35 l i h, chkL]
theorem chkD_at (ks : List ByteArray) (l : List S89) (wi : Int) (i : Nat) (h : i < l.length) : chkD ks (l.drop i) wi = if chkP ks (l.getD i z89) wi ≠ 0 then chkP ks (l.getD i z89) wi else chkD (ks ++ [(l.getD i z89).f0]) (l.drop (i + 1)) wi := by
 rw [drop_at z89 l i h, chkD]
theorem chkP_eq (ks : List ByteArray) (p : S89) (wi : Int) : chkP ks p wi = if 127 < p.f0.size ∨ hasZero p.f0 = true ∨ memK p.f0 ks = true then 11 else chkV p.f1 false wi := by
 cases p; rw [chkP]
theorem own_within {k n g : Int} {s : ByteArray} {L D : Nat} {stream : Bool} {within : Int} (h : ownE k n g s L D stream within = 0) (hld : 0 < L ∨ 0 < D) : within < 64 := by
 unfold ownE at h
 by_cases h1 : k < 0 ∨ 8 < k ∨ (k = 8 ∧ stream = false)
 · rw [if_pos h1] at h; omega
 rw [if_neg h1] at h
 by_cases h2 : extraB k n g s L D = true ∨ (k = 3 ∧ hasZero s = true)
 · rw [if_pos h2] at h; omega
 rw [if_neg h2] at h
 split at h
 · omega
 split at h
 · omega
 split at h
 · omega
 split at h
 · omega
 · rename_i h3
   have h4 : extraB k n g s L D = false := by cases hb : extraB k n g s L D with | false => rfl | true => exact absurd (.inl hb) h2
   unfold extraB at h4
   simp only [Bool.or_eq_false_iff, Bool.and_eq_false_iff, decide_eq_false_iff_not, Decidable.not_not] at h4
   omega
def ChkSaid (v : S35) : Prop := ∀ (A4 : Option Addr) (c4 : Nat) (A5 : Option Addr) (c5 : Nat) (stream : Bool) (within : Int) (w : World), 0 ≤ within → within ≤ 64 → v.f4.length ≤ c4 → k35.C w A4 v.f4.length v.f4 → v.f5.length ≤ c5 → k89.C w A5 v.f5.length v.f5 →
 Calls Try.prog 116 #[.agg #[.int .i64 v.f0, .int .i64 v.f1, .int .i64 v.f2, .string v.f3, .slice A4 v.f4.length c4, .slice A5 v.f5.length c5], .bool stream, .int .i64 within] w fun e w' => e = .returned (.int .i64 (chkV v stream within)) ∧ Below w.heap.size w w'
set_option maxHeartbeats 8000000 in
set_option maxRecDepth 100000 in
theorem check_all : ∀ v, ChkSaid v := by
 refine S35.ind ?_
 intro v ih4 ih5 A4 c4 A5 c5 stream within w hw0 hw1 la4 ra4 la5 ra5
 have hu35 := Try.underlying35
 have hu89 := Try.underlying89
 have HV := Aside0.mk (chkV_eq v stream within)
 have HO := fun w => Aside0.mk (own_calls v.f0 v.f1 v.f2 v.f3 v.f4.length v.f5.length A4 c4 A5 c5 stream within w)
 have HWI := Aside0.mk (own_within (k := v.f0) (n := v.f1) (g := v.f2) (s := v.f3) (L := v.f4.length) (D := v.f5.length) (stream := stream) (within := within))
 generalize ownE v.f0 v.f1 v.f2 v.f3 v.f4.length v.f5.length stream within = e0 at HV HO HWI
 generalize chkV v stream within = res at HV ⊢
 obtain ⟨f0, f1, f2, f3, l4, l5⟩ := v
 simp only [] at *
 replace ra4 := Aside0.mk ra4
 replace ra5 := Aside0.mk ra5
 go_enter Try.func116, Try.ntmps116
 go_wp2_with fail
 go_at_call 149
 refine ((HO _).out).mono ?_
 rintro e w1 ⟨rfl, hb⟩
 have hb1 := Aside0.mk (below_step (below_alloc (Below.refl w.heap.size w) _) hb)
 have bk := Aside0.mk (blk_below (blk_new w _) hb)
 have hlt1 : w.heap.size < w1.heap.size := Nat.lt_of_lt_of_le (by simp) hb.size
 obtain ⟨x0, x1, x2, x3, x4, x5⟩ := box35 bk.out
 clear hb HO
 by_cases he : e0 = 0
 · subst he
   have hm4 := Kd.C_max ra4.out
   have hm5 := Kd.C_max ra5.out
   go_wp2
   go_loopw [25] (fun i wr => ∃ k : Nat, k ≤ l4.length ∧ i = .int .i64 k ∧ Aside0 (Below w1.heap.size w1 wr) ∧ Aside0 (chkL l4 (within + 1) = chkL (l4.drop k) (within + 1))) (fun i _ => l4.length - (intOf i).toNat)
   case atStart => exact ⟨0, Nat.zero_le _, rfl, ⟨Below.refl _ _⟩, ⟨rfl⟩⟩
   case round =>
    obtain ⟨k, hk, rfl, HB, HC⟩ := hrel
    by_cases hlt : k < l4.length
    · obtain ⟨ad, P4, p4, P5, p5, rfl, y0, y1, y2, y3, y4, y5, lp4, gp4, lp5, gp5⟩ := at35w (Kd.C_below ra4.out (below_step hb1.out HB.out)) k hlt
      have hmem : l4.getD k z35 ∈ l4 := getD_mem _ _ hlt _
      have hat := chkL_at l4 (within + 1) k hlt
      generalize hx : l4.getD k z35 = x at *
      have HX := Aside0.mk hx
      have HM := Aside0.mk hmem
      have HAT := Aside0.mk hat
      have HW := Aside0.mk (HWI.out (by first | rfl | trivial) (.inl (by omega)))
      have G := Aside0.mk (And.intro lp4 (And.intro gp4 (And.intro lp5 gp5)))
      have hwt : within + 1 ≤ 64 := by have := HW.out; omega
      clear hx hmem hat lp4 gp4 lp5 gp5
      go_wp2_with fail
      go_at_call 116
      refine (ih4 x HM.out P4 p4 P5 p5 false (within + 1) _ (by omega) hwt G.out.1 (Kd.C_alloc G.out.2.1 _) G.out.2.2.1 (Kd.C_alloc G.out.2.2.2 _)).mono ?_
      rintro e w2 ⟨rfl, hb⟩
      have HB2 := Aside0.mk (below_step (below_alloc HB.out _) hb)
      clear hb
      by_cases hv : chkV x false (within + 1) = 0
      · rw [hv]
        have HAT2 := Aside0.mk (HAT.out.trans (by rw [hv]))
        clear hv y0 y1 y2 y3 y4 y5 x0 x1 x2 x3 x4 x5
        go_wp2
        refine ⟨⟨k + 1, by omega, by go_num, HB2, ⟨HC.out.trans HAT2.out⟩⟩, by simp [intOf]; omega⟩
      · have hres := Aside0.mk (show res = chkV x false (within + 1) by
         have h := HV.out
         have h2 : chkL l4 (within + 1) = chkV x false (within + 1) := by rw [HC.out, HAT.out, if_pos hv]
         rw [if_neg (by omega), h2, if_pos hv] at h
         exact h)
        generalize chkV x false (within + 1) = ev at *
        clear y0 y1 y2 y3 y4 y5 x0 x1 x2 x3 x4 x5
        go_wp2
        go_ret
        exact ⟨ret_i hres.out.symm, below_step hb1.out HB2.out⟩
    · have hL : chkL l4 (within + 1) = 0 := by rw [HC.out, List.drop_of_length_le (by omega), chkL]
      have hR := Aside0.mk (show res = chkD [] l5 (within + 1) by
       have h := HV.out
       rw [if_neg (by omega), if_neg (by omega)] at h
       exact h)
      have HL := Aside0.mk hL
      have bk1 := Aside0.mk (blk_below bk.out HB.out)
      have hb2 := Aside0.mk (below_step hb1.out HB.out)
      clear hL HV HC HB x0 x1 x2 x3 x4 x5
      have bk2 := Aside0.mk (blk_alloc bk1.out (.map #[] 0))
      obtain ⟨x0, x1, x2, x3, x4, x5⟩ := box35 bk2.out
      have hmm := @run_makeMap Try.prog
      go_wp2
      have hS := Aside0.mk (Seen.start wr)
      have hb3 := Aside0.mk (below_alloc hb2.out (.map #[] 0))
      have hbl : w.heap.size ≤ wr.heap.size := hb2.out.size
      generalize wr.alloc (.map #[] 0) = w3 at *
      generalize wr.heap.size = b at *
      clear x0 x1 x2 x3 x4 x5 bk1 bk2 hb2 hmm
      go_loopw [41] (fun i wr => ∃ k : Nat, k ≤ l5.length ∧ i = .int .i64 k ∧ Aside0 (Below w.heap.size w wr) ∧ Aside0 (Seen wr b ((l5.take k).map (fun p => p.f0))) ∧ Aside0 (chkD [] l5 (within + 1) = chkD ((l5.take k).map (fun p => p.f0)) (l5.drop k) (within + 1))) (fun i _ => l5.length - (intOf i).toNat)
      case atStart => exact ⟨0, Nat.zero_le _, rfl, hb3, hS, ⟨rfl⟩⟩
      case round =>
       clear hb3 hS
       obtain ⟨k, hk, rfl, HB, HS, HC⟩ := hrel
       by_cases hlt : k < l5.length
       · obtain ⟨ad, P4, p4, P5, p5, rfl, y0, y1, y2, y3, y4, y5, y6, lp4, gp4, lp5, gp5⟩ := at89 ra5.out k hlt
         have y0 : wr.cell? _ = some _ := y0 ⟨wr, HB.out⟩
         have y1 : wr.cell? _ = some _ := y1 ⟨wr, HB.out⟩
         have y2 : wr.cell? _ = some _ := y2 ⟨wr, HB.out⟩
         have y3 : wr.cell? _ = some _ := y3 ⟨wr, HB.out⟩
         have y4 : wr.cell? _ = some _ := y4 ⟨wr, HB.out⟩
         have y5 : wr.cell? _ = some _ := y5 ⟨wr, HB.out⟩
         have y6 : wr.cell? _ = some _ := y6 ⟨wr, HB.out⟩
         have HM := Aside0.mk (getD_mem l5 k hlt z89)
         have HAT := Aside0.mk (chkD_at ((l5.take k).map (fun p => p.f0)) l5 (within + 1) k hlt)
         have HKS := Aside0.mk (show (l5.take (k + 1)).map (fun p => p.f0) = (l5.take k).map (fun p => p.f0) ++ [(l5.getD k z89).f0] by
          rw [List.take_succ_eq_append_getElem hlt, List.map_append, List.getD_eq_getElem?_getD, List.getElem?_eq_getElem hlt]; rfl)
         have HCP := Aside0.mk (chkP_eq ((l5.take k).map (fun p => p.f0)) (l5.getD k z89) (within + 1))
         have HKL := Aside0.mk (show ((l5.take k).map (fun p => p.f0)).length = k by simp; omega)
         generalize (l5.take k).map (fun p => p.f0) = ks at HS HC HAT HKS HCP HKL
         generalize l5.getD k z89 = x at *
         obtain ⟨xk, xv⟩ := x
         simp only [] at *
         have HW := Aside0.mk (HWI.out (by first | rfl | trivial) (.inr (by omega)))
         have G := Aside0.mk (And.intro lp4 (And.intro gp4 (And.intro lp5 gp5)))
         have hwt : within + 1 ≤ 64 := by have := HW.out; omega
         clear lp4 gp4 lp5 gp5
         have hres : ∀ c : Int, chkP ks ⟨xk, xv⟩ (within + 1) = c → c ≠ 0 → res = c := fun c h h0 => by rw [hR.out, HC.out, HAT.out, h, if_pos h0]
         have HRES := Aside0.mk hres
         clear hres
         by_cases h127 : 127 < xk.size
         · have h11 := Aside0.mk (HRES.out 11 (by rw [HCP.out, if_pos (.inl h127)]) (by omega))
           have hd : decide ((127 : Int) < (xk.size : Int)) = true := decide_eq_true (by omega)
           have hd2 : ¬ (xk.size : Int) ≤ 127 := by omega
           go_wp2
           go_ret
           exact ⟨ret_i h11.out.symm, below_alloc HB.out _⟩
         · have hd : decide ((127 : Int) < (xk.size : Int)) = false := decide_eq_false (by omega)
           have hd2 : (xk.size : Int) ≤ 127 := by omega
           cases hz : hasZero xk with
           | true =>
             have h11 := Aside0.mk (HRES.out 11 (by rw [HCP.out, if_pos (.inr (.inl hz))]) (by omega))
             have HZ := fun w => Aside0.mk (nul_to xk true hz w)
             clear hz
             go_wp2_with (go_at_call 150; refine ((HZ _).out).mono ?_; rintro e w' ⟨rfl, rfl⟩)
             go_ret
             exact ⟨ret_i h11.out.symm, below_alloc HB.out _⟩
           | false =>
             have HZ := fun w => Aside0.mk (nul_to xk false hz w)
             have NZ := Aside0.mk hz
             clear hz
             have hlook := (HS.out.below (below_alloc (Below.refl _ _) (.cells #[.string xk, .int .i64 xv.f0, .int .i64 xv.f1, .int .i64 xv.f2, .string xv.f3, .slice P4 xv.f4.length p4, .slice P5 xv.f5.length p5] 89))).look xk (by omega)
             cases hin : memK xk ks with
             | true =>
               have h11 := Aside0.mk (HRES.out 11 (by rw [HCP.out, if_pos (.inr (.inr hin))]) (by omega))
               rw [hin] at hlook
               simp only [if_true] at hlook
               clear hin
               go_wp2_with (go_at_call 150; refine ((HZ _).out).mono ?_; rintro e w' ⟨rfl, rfl⟩)
               go_ret
               exact ⟨ret_i h11.out.symm, below_alloc HB.out _⟩
             | false =>
               have NI := Aside0.mk hin
               rw [hin] at hlook
               simp only [Bool.false_eq_true, if_false] at hlook
               clear hin
               obtain ⟨D, hown, hD, h3⟩ := HS.out.below (below_alloc (Below.refl _ _) (.cells #[.string xk, .int .i64 xv.f0, .int .i64 xv.f1, .int .i64 xv.f2, .string xv.f3, .slice P4 xv.f4.length p4, .slice P5 xv.f5.length p5] 89))
               have HD := Aside0.mk (And.intro hD h3)
               have HOWN := Aside0.mk hown
               clear hD h3 hown
               have hsz := Aside0.mk HS.out.lt
               go_wp2_with (first
                | (go_at_call 150; refine ((HZ _).out).mono ?_; rintro e w' ⟨rfl, rfl⟩)
                | (at_mapUpdate; refine wpList_mapUpdate_own _ rfl _ _ _ 187 rfl 9 3 kstr Try.underlying187 _ b ks.length _ rfl HOWN.out (by unfold maxLen; have := HKL.out; omega) _ _ _ rfl rfl (keyOf_string_mk (s := xk) Try.underlying9 (by unfold maxLen; omega)) _ [] (plainElem_int Try.underlying3 (by decide)) ?_))
               intro w5 hown5 hgrow5
               have hsz' := hsz.out
               have bx := Aside0.mk ((hgrow5.block wr.heap.size (by simp) (by intro e; injection e with e; omega)).trans (blk_new wr _))
               have hs5 := Aside0.mk (Seen.put xk HD.out.1 HD.out.2 hown5)
               have hb5 := Aside0.mk ((below_alloc HB.out _).grown hgrow5 (below_alloc HB.out _).size (by intro j hj; injection hj with hj; omega))
               clear hown5 hgrow5 y0 y1 y2 y3 y4 y5 y6
               obtain ⟨z0, z1, z2, z3, z4, z5, z6⟩ := box7 bx.out
               go_wp2_with fail
               go_at_call 116
               refine (ih5 ⟨xk, xv⟩ HM.out P4 p4 P5 p5 false (within + 1) _ (by omega) hwt G.out.1 (Kd.C_below G.out.2.1 hb5.out) G.out.2.2.1 (Kd.C_below G.out.2.2.2 hb5.out)).mono ?_
               rintro e w6 ⟨rfl, hb⟩
               have hb6 := Aside0.mk (below_step hb5.out hb)
               have hs6 := Aside0.mk (hs5.out.below hb)
               have hcp := Aside0.mk (show chkP ks ⟨xk, xv⟩ (within + 1) = chkV xv false (within + 1) by
                rw [HCP.out, if_neg]
                rintro (h | h | h)
                · omega
                · rw [NZ.out] at h; cases h
                · rw [NI.out] at h; cases h)
               clear hb z0 z1 z2 z3 z4 z5 z6 hlook
               by_cases hv : chkV xv false (within + 1) = 0
               · have hc2 := Aside0.mk (show chkD [] l5 (within + 1) = chkD (ks ++ [xk]) (l5.drop (k + 1)) (within + 1) by rw [HC.out, HAT.out, hcp.out, hv, if_neg (by omega)])
                 rw [hv]
                 clear hv
                 go_wp2
                 refine ⟨⟨k + 1, by omega, by go_num, hb6, ⟨by rw [HKS.out]; exact hs6.out⟩, ⟨by rw [HKS.out]; exact hc2.out⟩⟩, by simp [intOf]; omega⟩
               · have hr6 := Aside0.mk (HRES.out _ hcp.out hv)
                 generalize chkV xv false (within + 1) = ev at *
                 go_wp2
                 go_ret
                 exact ⟨ret_i hr6.out.symm, hb6.out⟩
       · have h0 := Aside0.mk (show res = 0 by rw [hR.out, HC.out, List.drop_of_length_le (by omega), chkD])
         go_wp2
         go_ret
         exact ⟨ret_i h0.out.symm, HB.out⟩
 · go_wp2
   go_ret
   have h := HV.out
   rw [if_pos he] at h
   exact ⟨ret_i h.symm, hb1.out⟩
end Go.Proofs.Ytogpnkkoablmiaa.V
end
section
namespace Go.Proofs.Ytogpnkkoablmiaa.V
open Go.RowKit Go.Proofs.Ytogpnkkoablmiaa.Q Go.Proofs.YtogpnkkoablmiaaW.PrintWords Go.Proofs.YtogpnkkoablmiaaW.PrintLast Go.Proofs.YtogpnkkoablmiaaW.PrintMore
set_option linter.unusedVariables false
set_option linter.unusedSimpArgs false
open Go.Maps Go.WideMaps
def keyE (ks : List ByteArray) (key : ByteArray) : Int := if 127 < key.size ∨ hasZero key = true ∨ memK key ks = true then 11 else 0
theorem memK_false {s : ByteArray} {ks : List ByteArray} (h : ∀ j, j < ks.length → ks.getD j ⟨#[]⟩ ≠ s) : memK s ks = false := by
 cases hb : memK s ks with
 | false => rfl
 | true =>
   obtain ⟨j, hj, he⟩ := List.getElem_of_mem ((memK_iff _ _).1 hb)
   exact absurd (by rw [List.getD_eq_getElem?_getD, List.getElem?_eq_getElem hj]; exact he) (h j hj)
set_option maxHeartbeats 4000000 in
set_option maxRecDepth 100000 in
theorem key_calls (d : List S89) (A : Option Addr) (c : Nat) (i : Nat) (w : World) (hi : i < d.length) (hr : k89.C w A d.length d) : Calls Try.prog 152 #[.slice A d.length c, .int .i64 i] w fun e w' => e = .returned (.int .i64 (keyE ((d.take i).map (fun p => p.f0)) (d.getD i z89).f0)) ∧ w' = w := by
 have hm := Kd.C_max hr
 have HK := Aside0.mk (show ∀ j, j < i → ((d.take i).map (fun p => p.f0)).getD j ⟨#[]⟩ = (d.getD j z89).f0 by
  intro j hj
  simp [List.getD_eq_getElem?_getD, List.getElem?_take, hj, List.getElem?_eq_getElem (show j < d.length by omega)])
 have HL := Aside0.mk (show ((d.take i).map (fun p => p.f0)).length = i by simp; omega)
 have HE := Aside0.mk (show ∀ ks key, keyE ks key = if 127 < key.size ∨ hasZero key = true ∨ memK key ks = true then 11 else 0 from fun _ _ => rfl)
 generalize (d.take i).map (fun p => p.f0) = ks at *
 obtain ⟨ad, P4, p4, P5, p5, rfl, y0, _⟩ := at89w hr i hi
 have HR := Aside0.mk hr
 have HX := Aside0.mk (Eq.refl (d.getD i z89).f0)
 generalize hx : (d.getD i z89).f0 = key at *
 have NX := Aside0.mk hx
 clear hx hr HX
 by_cases h127 : 127 < key.size
 · have hres := Aside0.mk (show keyE ks key = 11 by rw [HE.out, if_pos (.inl h127)])
   have hd : decide ((127 : Int) < (key.size : Int)) = true := decide_eq_true (by omega)
   have hd2 : ¬ (key.size : Int) ≤ 127 := by omega
   go_enter Try.func152, Try.ntmps152
   go_wp2
   go_ret
   exact ⟨ret_i hres.out.symm, rfl⟩
 have hd : decide ((127 : Int) < (key.size : Int)) = false := decide_eq_false (by omega)
 have hd2 : (key.size : Int) ≤ 127 := by omega
 cases hz : hasZero key with
 | true =>
   have hres := Aside0.mk (show keyE ks key = 11 by rw [HE.out, if_pos (.inr (.inl hz))])
   have HZ := fun w => Aside0.mk (zero_to key true hz w (by omega))
   clear hz
   go_enter Try.func152, Try.ntmps152
   go_wp2_with (go_at_call 175; refine ((HZ _).out).mono ?_; rintro e w' ⟨rfl, rfl⟩)
   go_ret
   exact ⟨ret_i hres.out.symm, rfl⟩
 | false =>
   have HZ := fun w => Aside0.mk (zero_to key false hz w (by omega))
   have NZ := Aside0.mk hz
   clear hz
   go_enter Try.func152, Try.ntmps152
   go_wp2_with (go_at_call 175; refine ((HZ _).out).mono ?_; rintro e w' ⟨rfl, rfl⟩)
   go_loop [6] (fun v => ∃ j : Nat, j ≤ i ∧ v = .int .i64 j ∧ Aside0 (∀ m, m < j → (d.getD m z89).f0 ≠ key)) (fun v => i - (intOf v).toNat)
   case atStart => exact ⟨0, Nat.zero_le _, rfl, ⟨fun m hm => by omega⟩⟩
   case round =>
    obtain ⟨j, hj, rfl, HJ⟩ := hrel
    by_cases hlt : j < i
    · obtain ⟨ad', Q4, q4, Q5, q5, e', z0, _⟩ := at89w HR.out j (by omega)
      injection e' with e'
      subst e'
      have HKJ := Aside0.mk (HK.out j hlt)
      have hjd : j < d.length := by omega
      generalize hk : (d.getD j z89).f0 = kj at *
      have NK := Aside0.mk hk
      clear hk
      by_cases he : kj = key
      · subst he
        have hmem : memK kj ks = true := by
         rw [memK_iff, ← HKJ.out, List.getD_eq_getElem?_getD, List.getElem?_eq_getElem (by rw [HL.out]; exact hlt)]
         exact List.getElem_mem _
        have hres := Aside0.mk (show keyE ks kj = 11 by rw [HE.out, if_pos (.inr (.inr hmem))])
        clear hmem
        go_wp2
        go_ret
        exact ⟨ret_i hres.out.symm, rfl⟩
      · have he' : ¬ kj.toList = key.toList := fun h => he (ba_inj h)
        have he2 : (kj.toList == key.toList) = false := by rw [Bool.eq_false_iff]; intro h; exact he' (eq_of_beq h)
        have HNE := Aside0.mk he
        clear he
        go_wp2
        go_round
        case rel => exact ⟨j + 1, by omega, by go_num, ⟨fun m hm => by
         rcases Nat.lt_or_ge m j with h | h
         · exact HJ.out m h
         · have : m = j := by omega
           subst this
           rw [NK.out]; exact HNE.out⟩⟩
        case measure => simp [intOf]; omega
    · have hres := Aside0.mk (show keyE ks key = 0 by
       rw [HE.out, if_neg]
       rintro (h | h | h)
       · omega
       · rw [NZ.out] at h; cases h
       · rw [memK_false (fun m hm => by rw [HL.out] at hm; rw [HK.out m hm]; exact HJ.out m (by omega))] at h; cases h)
      go_wp2
      go_ret
      exact ⟨ret_i hres.out.symm, rfl⟩
mutual
/-- All texts of a value are texts that may be. -/
def szV : S35 → Prop
 | ⟨_, _, _, s, l, d⟩ => s.size ≤ 9223372036854775807 ∧ szL l ∧ szD d
def szL : List S35 → Prop
 | [] => True
 | x :: r => szV x ∧ szL r
def szD : List (P89 S35) → Prop
 | [] => True
 | p :: r => szP p ∧ szD r
def szP : P89 S35 → Prop
 | ⟨k, v⟩ => k.size ≤ 9223372036854775807 ∧ szV v
end
theorem szL_mem : ∀ {l : List S35}, szL l → ∀ x ∈ l, szV x := by
 intro l
 induction l with
 | nil => intro _ x hx; simp at hx
 | cons y l ih => intro h x hx; rw [szL] at h; rcases List.mem_cons.1 hx with rfl | hx; exact h.1; exact ih h.2 x hx
theorem szD_mem : ∀ {l : List (P89 S35)}, szD l → ∀ p ∈ l, p.f0.size ≤ 9223372036854775807 ∧ szV p.f1 := by
 intro l
 induction l with
 | nil => intro _ x hx; simp at hx
 | cons y l ih => intro h x hx; rw [szD] at h; rcases List.mem_cons.1 hx with rfl | hx; (cases x; rw [szP] at h; exact h.1); exact ih h.2 x hx
theorem szV_at {v : S35} (h : szV v) : v.f3.size ≤ 9223372036854775807 ∧ (∀ x ∈ v.f4, szV x) ∧ (∀ p ∈ v.f5, p.f0.size ≤ 9223372036854775807 ∧ szV p.f1) := by
 cases v; rw [szV] at h; exact ⟨h.1, szL_mem h.2.1, szD_mem h.2.2⟩
theorem chkP_key (ks : List ByteArray) (p : S89) (wi : Int) : chkP ks p wi = if keyE ks p.f0 ≠ 0 then keyE ks p.f0 else chkV p.f1 false wi := by
 rw [chkP_eq]
 unfold keyE
 by_cases h : 127 < p.f0.size ∨ hasZero p.f0 = true ∨ memK p.f0 ks = true
 · rw [if_pos h, if_pos h, if_pos (by omega)]
 · rw [if_neg h, if_neg h, if_neg (by omega)]
def RChkSaid (v : S35) : Prop := ∀ (A4 : Option Addr) (c4 : Nat) (A5 : Option Addr) (c5 : Nat) (stream : Bool) (within : Int) (w : World), szV v → 0 ≤ within → within ≤ 64 → v.f4.length ≤ c4 → k35.C w A4 v.f4.length v.f4 → v.f5.length ≤ c5 → k89.C w A5 v.f5.length v.f5 →
 Calls Try.prog 117 #[.agg #[.int .i64 v.f0, .int .i64 v.f1, .int .i64 v.f2, .string v.f3, .slice A4 v.f4.length c4, .slice A5 v.f5.length c5], .bool stream, .int .i64 within] w fun e w' => e = .returned (.int .i64 (chkV v stream within)) ∧ Below w.heap.size w w'
set_option maxHeartbeats 8000000 in
set_option maxRecDepth 100000 in
theorem rcheck_all : ∀ v, RChkSaid v := by
 refine S35.ind ?_
 intro v ih4 ih5 A4 c4 A5 c5 stream within w hsz hw0 hw1 la4 ra4 la5 ra5
 have hu35 := Try.underlying35
 have hu89 := Try.underlying89
 have HV := Aside0.mk (chkV_eq v stream within)
 have HSZ := Aside0.mk (szV_at hsz)
 clear hsz
 have HO := fun w => Aside0.mk (one_calls v.f0 v.f1 v.f2 v.f3 v.f4.length v.f5.length A4 c4 A5 c5 stream within w HSZ.out.1)
 have HWI := Aside0.mk (own_within (k := v.f0) (n := v.f1) (g := v.f2) (s := v.f3) (L := v.f4.length) (D := v.f5.length) (stream := stream) (within := within))
 generalize ownE v.f0 v.f1 v.f2 v.f3 v.f4.length v.f5.length stream within = e0 at HV HO HWI
 generalize chkV v stream within = res at HV ⊢
 obtain ⟨f0, f1, f2, f3, l4, l5⟩ := v
 simp only [] at *
 replace ra4 := Aside0.mk ra4
 replace ra5 := Aside0.mk ra5
 go_enter Try.func117, Try.ntmps117
 go_wp2_with fail
 go_at_call 151
 refine ((HO _).out).mono ?_
 rintro e w1 ⟨rfl, hb⟩
 have hb1 := Aside0.mk (below_step (below_alloc (Below.refl w.heap.size w) _) hb)
 have bk := Aside0.mk (blk_below (blk_new w _) hb)
 have hlt1 : w.heap.size < w1.heap.size := Nat.lt_of_lt_of_le (by simp) hb.size
 obtain ⟨x0, x1, x2, x3, x4, x5⟩ := box35 bk.out
 clear hb HO
 by_cases he : e0 = 0
 · subst he
   have hm4 := Kd.C_max ra4.out
   have hm5 := Kd.C_max ra5.out
   go_wp2
   go_loopw [8] (fun i wr => ∃ k : Nat, k ≤ l4.length ∧ i = .int .i64 k ∧ Aside0 (Below w1.heap.size w1 wr) ∧ Aside0 (chkL l4 (within + 1) = chkL (l4.drop k) (within + 1))) (fun i _ => l4.length - (intOf i).toNat)
   case atStart => exact ⟨0, Nat.zero_le _, rfl, ⟨Below.refl _ _⟩, ⟨rfl⟩⟩
   case round =>
    obtain ⟨k, hk, rfl, HB, HC⟩ := hrel
    have bk1 := Aside0.mk (blk_below bk.out HB.out)
    clear x0 x1 x2 x3 x4 x5
    obtain ⟨x0, x1, x2, x3, x4, x5⟩ := box35 bk1.out
    by_cases hlt : k < l4.length
    · obtain ⟨ad, P4, p4, P5, p5, rfl, y0, y1, y2, y3, y4, y5, lp4, gp4, lp5, gp5⟩ := at35w (Kd.C_below ra4.out (below_step hb1.out HB.out)) k hlt
      have hmem : l4.getD k z35 ∈ l4 := getD_mem _ _ hlt _
      have hat := chkL_at l4 (within + 1) k hlt
      generalize hx : l4.getD k z35 = x at *
      have HM := Aside0.mk hmem
      have HAT := Aside0.mk hat
      have HW := Aside0.mk (HWI.out (by first | rfl | trivial) (.inl (by omega)))
      have G := Aside0.mk (And.intro lp4 (And.intro gp4 (And.intro lp5 gp5)))
      have hwt : within + 1 ≤ 64 := by have := HW.out; omega
      clear hx hmem hat lp4 gp4 lp5 gp5
      go_wp2_with fail
      go_at_call 117
      refine (ih4 x HM.out P4 p4 P5 p5 false (within + 1) _ (HSZ.out.2.1 x HM.out) (by omega) hwt G.out.1 G.out.2.1 G.out.2.2.1 G.out.2.2.2).mono ?_
      rintro e w2 ⟨rfl, hb⟩
      have HB2 := Aside0.mk (below_step HB.out hb)
      clear hb
      by_cases hv : chkV x false (within + 1) = 0
      · rw [hv]
        have HAT2 := Aside0.mk (HAT.out.trans (by rw [hv]))
        clear hv y0 y1 y2 y3 y4 y5 x0 x1 x2 x3 x4 x5
        go_wp2
        refine ⟨⟨k + 1, by omega, by go_num, HB2, ⟨HC.out.trans HAT2.out⟩⟩, by simp [intOf]; omega⟩
      · have hres := Aside0.mk (show res = chkV x false (within + 1) by
         have h := HV.out
         have h2 : chkL l4 (within + 1) = chkV x false (within + 1) := by rw [HC.out, HAT.out, if_pos hv]
         rw [if_neg (by omega), h2, if_pos hv] at h
         exact h)
        generalize chkV x false (within + 1) = ev at *
        clear y0 y1 y2 y3 y4 y5 x0 x1 x2 x3 x4 x5
        go_wp2
        go_ret
        exact ⟨ret_i hres.out.symm, below_step hb1.out HB2.out⟩
    · have hL : chkL l4 (within + 1) = 0 := by rw [HC.out, List.drop_of_length_le (by omega), chkL]
      have hR := Aside0.mk (show res = chkD [] l5 (within + 1) by
       have h := HV.out
       rw [if_neg (by omega), if_neg (by omega)] at h
       exact h)
      have hb2 := Aside0.mk (below_step hb1.out HB.out)
      have hbl := hb2.out.size
      have hblt : w.heap.size < wr.heap.size := Nat.lt_of_lt_of_le hlt1 HB.out.size
      go_wp2
      clear hL HV HC HB x0 x1 x2 x3 x4 x5
      obtain ⟨wo, rfl⟩ : ∃ wo : World, wo = wr := ⟨_, rfl⟩
      go_loopw [10] (fun i wq => ∃ k : Nat, k ≤ l5.length ∧ i = .int .i64 k ∧ Aside0 (Below wo.heap.size wo wq) ∧ Aside0 (chkD [] l5 (within + 1) = chkD ((l5.take k).map (fun p => p.f0)) (l5.drop k) (within + 1))) (fun i _ => l5.length - (intOf i).toNat)
      case atStart => exact ⟨0, Nat.zero_le _, rfl, ⟨Below.refl _ _⟩, ⟨rfl⟩⟩
      case round =>
       obtain ⟨k, hk, rfl, HB, HC⟩ := hrel
       have bk2 := Aside0.mk (blk_below bk1.out HB.out)
       obtain ⟨x0, x1, x2, x3, x4, x5⟩ := box35 bk2.out
       have hbw := Aside0.mk (below_step hb2.out HB.out)
       by_cases hlt : k < l5.length
       · have HK := fun W (h : k89.C W A5 l5.length l5) => Aside0.mk (key_calls l5 A5 c5 k W hlt h)
         obtain ⟨ad, P4, p4, P5, p5, rfl, y0, y1, y2, y3, y4, y5, y6, lp4, gp4, lp5, gp5⟩ := at89 (Kd.C_below ra5.out hbw.out) k hlt
         have HM := Aside0.mk (getD_mem l5 k hlt z89)
         have HAT := Aside0.mk (chkD_at ((l5.take k).map (fun p => p.f0)) l5 (within + 1) k hlt)
         have HKS := Aside0.mk (show (l5.take (k + 1)).map (fun p => p.f0) = (l5.take k).map (fun p => p.f0) ++ [(l5.getD k z89).f0] by
          rw [List.take_succ_eq_append_getElem hlt, List.map_append, List.getD_eq_getElem?_getD, List.getElem?_eq_getElem hlt]; rfl)
         have HCP := Aside0.mk (chkP_key ((l5.take k).map (fun p => p.f0)) (l5.getD k z89) (within + 1))
         generalize (l5.take k).map (fun p => p.f0) = ks at HC HAT HKS HCP HK
         generalize l5.getD k z89 = x at *
         obtain ⟨xk, xv⟩ := x
         simp only [] at *
         have HW := Aside0.mk (HWI.out (by first | rfl | trivial) (.inr (by omega)))
         have G := Aside0.mk (And.intro lp4 (And.intro gp4 (And.intro lp5 gp5)))
         have hwt : within + 1 ≤ 64 := by have := HW.out; omega
         have Y := Aside0.mk (And.intro y0 (And.intro y1 (And.intro y2 (And.intro y3 (And.intro y4 (And.intro y5 y6))))))
         clear lp4 gp4 lp5 gp5 y0 y1 y2 y3 y4 y5 y6
         have HRES := Aside0.mk (show ∀ c : Int, chkP ks ⟨xk, xv⟩ (within + 1) = c → c ≠ 0 → res = c from fun c h h0 => by rw [hR.out, HC.out, HAT.out, h, if_pos h0])
         generalize keyE ks xk = ke at HK HCP
         go_wp2_with fail
         go_at_call 152
         refine ((HK _ (Kd.C_below ra5.out hbw.out)).out).mono ?_
         rintro e w' ⟨rfl, rfl⟩
         by_cases hke : ke = 0
         · subst hke
           have hcp := Aside0.mk (show chkP ks ⟨xk, xv⟩ (within + 1) = chkV xv false (within + 1) by rw [HCP.out, if_neg (by omega)])
           have y0 : w'.cell? _ = some _ := Y.out.1 ⟨w', Below.refl _ _⟩
           have y1 : w'.cell? _ = some _ := Y.out.2.1 ⟨w', Below.refl _ _⟩
           have y2 : w'.cell? _ = some _ := Y.out.2.2.1 ⟨w', Below.refl _ _⟩
           have y3 : w'.cell? _ = some _ := Y.out.2.2.2.1 ⟨w', Below.refl _ _⟩
           have y4 : w'.cell? _ = some _ := Y.out.2.2.2.2.1 ⟨w', Below.refl _ _⟩
           have y5 : w'.cell? _ = some _ := Y.out.2.2.2.2.2.1 ⟨w', Below.refl _ _⟩
           have y6 : w'.cell? _ = some _ := Y.out.2.2.2.2.2.2 ⟨w', Below.refl _ _⟩
           go_wp2_with fail
           go_at_call 117
           refine (ih5 ⟨xk, xv⟩ HM.out P4 p4 P5 p5 false (within + 1) _ (HSZ.out.2.2 ⟨xk, xv⟩ HM.out).2 (by omega) hwt G.out.1 G.out.2.1 G.out.2.2.1 G.out.2.2.2).mono ?_
           rintro e w6 ⟨rfl, hb⟩
           have hb6 := Aside0.mk (below_step HB.out hb)
           clear hb y0 y1 y2 y3 y4 y5 y6 x0 x1 x2 x3 x4 x5
           by_cases hv : chkV xv false (within + 1) = 0
           · have hc2 := Aside0.mk (show chkD [] l5 (within + 1) = chkD (ks ++ [xk]) (l5.drop (k + 1)) (within + 1) by rw [HC.out, HAT.out, hcp.out, hv, if_neg (by omega)])
             rw [hv]
             clear hv
             go_wp2
             refine ⟨⟨k + 1, by omega, by go_num, hb6, ⟨by rw [HKS.out]; exact hc2.out⟩⟩, by simp [intOf]; omega⟩
           · have hr6 := Aside0.mk (HRES.out _ hcp.out hv)
             generalize chkV xv false (within + 1) = ev at *
             go_wp2
             go_ret
             exact ⟨ret_i hr6.out.symm, below_step hb2.out hb6.out⟩
         · have hr6 := Aside0.mk (HRES.out ke (by rw [HCP.out, if_pos hke]) hke)
           clear x0 x1 x2 x3 x4 x5
           go_wp2
           go_ret
           exact ⟨ret_i hr6.out.symm, hbw.out⟩
       · have h0 := Aside0.mk (show res = 0 by rw [hR.out, HC.out, List.drop_of_length_le (by omega), chkD])
         go_wp2
         go_ret
         exact ⟨ret_i h0.out.symm, hbw.out⟩
 · go_wp2
   go_ret
   have h := HV.out
   rw [if_pos he] at h
   exact ⟨ret_i h.symm, hb1.out⟩
end Go.Proofs.Ytogpnkkoablmiaa.V
end
section
namespace Go.Proofs.Ytogpnkkoablmiaa.V
open Go.RowKit Go.Proofs.Ytogpnkkoablmiaa.Q Go.Proofs.YtogpnkkoablmiaaW.PrintWords Go.Proofs.YtogpnkkoablmiaaW.PrintLast Go.Proofs.YtogpnkkoablmiaaW.PrintMore
set_option linter.unusedVariables false
set_option linter.unusedSimpArgs false
theorem box7p {w : World} {b T : Nat} {c0 c1 c2 c3 c4 c5 c6 : Value} (h : w.heap[b]? = some (.cells #[c0, c1, c2, c3, c4, c5, c6] T (0, 0))) : w.cell? ⟨b, 0, none⟩ = some c0 ∧ w.cell? ⟨b, 1, none⟩ = some c1 ∧ w.cell? ⟨b, 2, none⟩ = some c2 ∧ w.cell? ⟨b, 3, none⟩ = some c3 ∧ w.cell? ⟨b, 4, none⟩ = some c4 ∧ w.cell? ⟨b, 5, none⟩ = some c5 ∧ w.cell? ⟨b, 6, none⟩ = some c6 := by
 refine ⟨?_, ?_, ?_, ?_, ?_, ?_, ?_⟩ <;> (rw [cell_of_row w b _ _ _ _ h]; rfl)
def ltK (a b : ByteArray) : Bool := Op.bytesLess a.toList b.toList
def insB : List S89 → S89 → List S89
 | [], p => [p]
 | x :: r, p => if ltK p.f0 x.f0 = true then p :: x :: r else x :: insB r p
def anyLt (xs : List S89) (p : S89) : Bool := xs.any (fun x => ltK p.f0 x.f0)
def anyEq (xs : List S89) (p : S89) : Bool := xs.any (fun x => decide (x.f0.data = p.f0.data))
def rput (d : List S89) (p : S89) : List S89 := if anyEq d p = true then d else insB d p
theorem anyLt_cons (y : S89) (r : List S89) (p : S89) : anyLt (y :: r) p = (ltK p.f0 y.f0 || anyLt r p) := by simp [anyLt]
theorem insB_snoc (p x : S89) : ∀ xs : List S89, insB (xs ++ [x]) p = if anyLt xs p = true then insB xs p ++ [x] else if ltK p.f0 x.f0 = true then xs ++ [p, x] else xs ++ [x, p]
 | [] => by simp [insB, anyLt]
 | y :: r => by
   have ih := insB_snoc p x r
   rw [List.cons_append, insB, anyLt_cons, insB]
   cases h : ltK p.f0 y.f0 with
   | true => simp
   | false =>
     simp only [Bool.false_or, Bool.false_eq_true, if_false]
     rw [ih]
     cases h1 : anyLt r p <;> cases h2 : ltK p.f0 x.f0 <;> simp
theorem insB_end (p : S89) : ∀ xs : List S89, anyLt xs p = false → insB xs p = xs ++ [p]
 | [], _ => rfl
 | y :: r, h => by
   simp only [anyLt, List.any_cons, Bool.or_eq_false_iff] at h
   rw [insB, if_neg (by rw [h.1]; decide), insB_end p r h.2]
   rfl
theorem anyLt_snoc (xs : List S89) (x p : S89) : anyLt (xs ++ [x]) p = (anyLt xs p || ltK p.f0 x.f0) := by simp [anyLt]
def outAt (d : List S89) (p : S89) (k : Nat) : List S89 := if anyLt (d.take k) p = true then insB (d.take k) p else d.take k
theorem outAt_len (d : List S89) (p : S89) (k : Nat) : (outAt d p k).length ≤ d.length + 1 := by
 unfold outAt
 have h1 : ∀ xs : List S89, (insB xs p).length = xs.length + 1 := by
  intro xs
  induction xs with
  | nil => rfl
  | cons y r ih => simp only [insB]; split <;> simp [ih]
 split
 · rw [h1]; simp; omega
 · simp; omega
theorem insB_len (p : S89) : ∀ xs : List S89, (insB xs p).length = xs.length + 1
 | [] => rfl
 | y :: r => by simp only [insB]; split <;> simp [insB_len p r]
theorem take_snocD (d : List S89) (k : Nat) (h : k < d.length) : d.take (k + 1) = d.take k ++ [d.getD k z89] := by
 rw [List.take_succ_eq_append_getElem h, List.getD_eq_getElem?_getD, List.getElem?_eq_getElem h]; rfl
theorem outAt_succ (d : List S89) (p : S89) (k : Nat) (h : k < d.length) : outAt d p (k + 1) = if (!(anyLt (d.take k) p) && ltK p.f0 (d.getD k z89).f0) = true then (outAt d p k ++ [p]) ++ [d.getD k z89] else outAt d p k ++ [d.getD k z89] := by
 unfold outAt
 rw [take_snocD d k h, anyLt_snoc, insB_snoc]
 cases h1 : anyLt (d.take k) p <;> cases h2 : ltK p.f0 (d.getD k z89).f0 <;> simp
theorem M_old {α : Type} {d : Kd α} {W wr : World} {b0 : Nat} {x : α} {cs : List Value} {vo : Value} (h : d.M W b0 (fun _ => True) x cs) (hb : Below W.heap.size W wr) (hv : ∀ k, vo.ownBlock = some k → W.heap.size ≤ k) : d.M wr b0 (fun k => some k ≠ vo.ownBlock) x cs :=
 d.M_mono (fun k hk e => by have := hv k e.symm; omega) (d.M_move (fun k hk => hb.block k hk.2.2.1) (d.M_bound h))
theorem elem89 {W : World} {base g n cap : Nat} {ok : Nat → Prop} {xs : List S89} (HO : k89.R 89 W base ok (.slice (some ⟨g, 0, none⟩) n cap) xs) (i : Nat) (hi : i < n) : ∃ v4 v5,
 k89.M W base (fun k => ok k ∧ k ≠ g) (xs.getD i z89) [.string (xs.getD i z89).f0, .int .i64 (xs.getD i z89).f1.f0, .int .i64 (xs.getD i z89).f1.f1, .int .i64 (xs.getD i z89).f1.f2, .string (xs.getD i z89).f1.f3, v4, v5] ∧
 W.cell? ⟨g, i * 7, none⟩ = some (.string (xs.getD i z89).f0) ∧ W.cell? ⟨g, i * 7 + 1, none⟩ = some (.int .i64 (xs.getD i z89).f1.f0) ∧ W.cell? ⟨g, i * 7 + 2, none⟩ = some (.int .i64 (xs.getD i z89).f1.f1) ∧ W.cell? ⟨g, i * 7 + 3, none⟩ = some (.int .i64 (xs.getD i z89).f1.f2) ∧
 W.cell? ⟨g, i * 7 + 4, none⟩ = some (.string (xs.getD i z89).f1.f3) ∧ W.cell? ⟨g, i * 7 + 5, none⟩ = some v4 ∧ W.cell? ⟨g, i * 7 + 6, none⟩ = some v5 := by
 obtain ⟨c, hcl, hM, hc, hf⟩ := Kd.R_elem HO z89 (i : Int) (by omega) (by omega)
 simp only [Int.toNat_natCast] at *
 have hM' := hM
 obtain ⟨v4, v5, rfl, _⟩ := k89_openM hM
 have hc' : ∀ j u, _ → W.cell? ⟨g, i * 7 + j, none⟩ = some u := hc
 exact ⟨v4, v5, hM', hc' 0 _ rfl, hc' 1 _ rfl, hc' 2 _ rfl, hc' 3 _ rfl, hc' 4 _ rfl, hc' 5 _ rfl, hc' 6 _ rfl⟩
theorem app_state {w wq w1 : World} {vo v1 : Value} {o : Obj} (HBq : Below w.heap.size w wq) (HVO : ∀ j, vo.ownBlock = some j → w.heap.size < j) (hg : wq.grownBy w1 vo.ownBlock)
 (hat : v1.ownBlock = vo.ownBlock ∨ ∃ b, v1.ownBlock = some b ∧ wq.heap.size ≤ b) (BK : wq.heap[w.heap.size]? = some o) :
 Below w.heap.size w w1 ∧ (∀ j, v1.ownBlock = some j → w.heap.size < j) ∧ w1.heap[w.heap.size]? = some o := by
 have hl := blk_lt BK
 refine ⟨HBq.grown hg HBq.size (fun k hk => Nat.le_of_lt (HVO k hk)), fun j hj => ?_, (hg.block _ hl (fun e => Nat.lt_irrefl _ (HVO _ e.symm))).trans BK⟩
 rcases hat with h | ⟨b, h, hle⟩
 · exact HVO j (by rw [← h]; exact hj)
 · rw [h] at hj
   injection hj with hj
   omega
theorem cells7 {w wq : World} {g o : Nat} {c0 c1 c2 c3 c4 c5 c6 : Value} (h : w.cell? ⟨g, o, none⟩ = some c0 ∧ w.cell? ⟨g, o + 1, none⟩ = some c1 ∧ w.cell? ⟨g, o + 2, none⟩ = some c2 ∧ w.cell? ⟨g, o + 3, none⟩ = some c3 ∧ w.cell? ⟨g, o + 4, none⟩ = some c4 ∧ w.cell? ⟨g, o + 5, none⟩ = some c5 ∧ w.cell? ⟨g, o + 6, none⟩ = some c6) (hb : Below w.heap.size w wq) :
 wq.cell? ⟨g, o, none⟩ = some c0 ∧ wq.cell? ⟨g, o + 1, none⟩ = some c1 ∧ wq.cell? ⟨g, o + 2, none⟩ = some c2 ∧ wq.cell? ⟨g, o + 3, none⟩ = some c3 ∧ wq.cell? ⟨g, o + 4, none⟩ = some c4 ∧ wq.cell? ⟨g, o + 5, none⟩ = some c5 ∧ wq.cell? ⟨g, o + 6, none⟩ = some c6 := by
 obtain ⟨h0, h1, h2, h3, h4, h5, h6⟩ := h
 exact ⟨past_cell h0 ⟨wq, hb⟩, past_cell h1 ⟨wq, hb⟩, past_cell h2 ⟨wq, hb⟩, past_cell h3 ⟨wq, hb⟩, past_cell h4 ⟨wq, hb⟩, past_cell h5 ⟨wq, hb⟩, past_cell h6 ⟨wq, hb⟩⟩
set_option maxHeartbeats 8000000 in
set_option maxRecDepth 100000 in
theorem put_calls (b0 : Nat) (d : List S89) (A : Option Addr) (c : Nat) (p : S89) (v4 v5 : Value) (w : World) (hbw : b0 ≤ w.heap.size) (hd : k89.R 89 w b0 (fun _ => True) (.slice A d.length c) d) (hlen : d.length ≤ 100000) (h4 : k35.R 35 w b0 (fun _ => True) v4 p.f1.f4) (h5 : k89.R 89 w b0 (fun _ => True) v5 p.f1.f5) :
 Calls Try.prog 159 #[.slice A d.length c, .agg #[.string p.f0, .int .i64 p.f1.f0, .int .i64 p.f1.f1, .int .i64 p.f1.f2, .string p.f1.f3, v4, v5]] w fun e w' => ∃ v, e = .returned v ∧ k89.R 89 w' b0 (fun _ => True) v (rput d p) ∧ Below w.heap.size w w' := by
 have hu89 := Try.underlying89
 have hu35 := Try.underlying35
 have hu33 := Try.underlying33
 have HP := Aside0.mk (k89_mkM w b0 (fun _ => True) p h4 h5)
 have HD := Aside0.mk hd
 have HC := Aside0.mk (Kd.R_reads' hd).2.2
 clear h4 h5 hd
 go_enter Try.func159, Try.ntmps159
 have hbx := Aside0.mk (below_alloc (Below.refl w.heap.size w) (.cells #[.string p.f0, .int .i64 p.f1.f0, .int .i64 p.f1.f1, .int .i64 p.f1.f2, .string p.f1.f3, v4, v5] 89))
 have bk := Aside0.mk (blk_new w (.cells #[.string p.f0, .int .i64 p.f1.f0, .int .i64 p.f1.f1, .int .i64 p.f1.f2, .string p.f1.f3, v4, v5] 89))
 go_wp2_with (first | ((with_reducible refine gate_dst (N := 8) rfl ?_); refine Kd.R_lit k89 b0 89 ?hg (N := 8) ?hd (w0 := w) (xs := ([] : List S89)) (inner := []) (ok := fun _ => True) (okp := fun _ => True) ?hr (Reps.none _ _) (fun _ hk => hk) trivial (hbx.out.mono hbw) (Nat.le_trans hbw hbx.out.size) (by simp) ?_; (case hd => rfl); (case hg => rfl); (case hr => first | (go_simp; done) | (go_simp; rfl))))
 intro vo w2 HO HB2 hg2 b hob hle
 have hb2 := Aside0.mk (hbx.out.trans ((Below.refl _ _).grown hg2 (Nat.le_refl _) (fun k hk => by cases hk) |>.mono hbx.out.size))
 have bk2 := Aside0.mk ((hg2.block _ (blk_lt bk.out) (by simp)).trans bk.out)
 have hvo : ∀ k, vo.ownBlock = some k → w.heap.size < k := by
  intro k hk
  rw [hob] at hk
  injection hk with hk
  have : w.heap.size < (w.alloc (.cells #[.string p.f0, .int .i64 p.f1.f0, .int .i64 p.f1.f1, .int .i64 p.f1.f2, .string p.f1.f3, v4, v5] 89)).heap.size := by simp
  omega
 have HVO := Aside0.mk hvo
 have HO2 := Aside0.mk HO
 clear hle hob hg2 HB2 hvo HO hbx bk
 go_wp2
 have hmd := Kd.C_max HC.out
 go_loopw [5, 6, 7] (fun o dn i wr => ∃ k : Nat, k ≤ d.length ∧ i = .int .i64 k ∧ dn = .bool (anyLt (d.take k) p) ∧ Aside0 (k89.R 89 wr b0 (fun _ => True) o (outAt d p k)) ∧ Aside0 (∀ j, o.ownBlock = some j → w.heap.size < j) ∧ Aside0 (Below w.heap.size w wr) ∧
  Aside0 (wr.heap[w.heap.size]? = some (.cells #[.string p.f0, .int .i64 p.f1.f0, .int .i64 p.f1.f1, .int .i64 p.f1.f2, .string p.f1.f3, v4, v5] 89 (0, 0))) ∧ Aside0 (anyEq (d.take k) p = false)) (fun _ _ i _ => d.length - (intOf i).toNat)
 case atStart => exact ⟨0, Nat.zero_le _, rfl, rfl, HO2, HVO, hb2, bk2, ⟨rfl⟩⟩
 case round =>
  clear HO2 HVO hb2 bk2
  obtain ⟨k, hk, rfl, rfl, HO, HVO, HB, BK, HE⟩ := hrel
  obtain ⟨x0, x1, x2, x3, x4, x5, x6⟩ := box7p BK.out
  by_cases hlt : k < d.length
  · obtain ⟨g, cap, hv, _⟩ := Kd.R_form HD.out (by omega)
    injection hv with hA _ hcap
    subst hA
    subst hcap
    obtain ⟨e4, e5, hM, y0, y1, y2, y3, y4, y5, y6⟩ := elem89 HD.out k hlt
    have HS := Aside0.mk (outAt_succ d p k hlt)
    have HT := Aside0.mk (take_snocD d k hlt)
    have HM := Aside0.mk hM
    have HLO := Aside0.mk (outAt_len d p k)
    clear hM
    have HMEM := Aside0.mk (getD_mem d k hlt z89)
    generalize d.getD k z89 = x at *
    generalize outAt d p k = ok at *
    generalize hdn : anyLt (d.take k) p = dn at *
    have HDN := Aside0.mk hdn
    clear hdn
    have YW := Aside0.mk (And.intro y0 (And.intro y1 (And.intro y2 (And.intro y3 (And.intro y4 (And.intro y5 y6))))))
    replace y0 := past_cell (cells7 YW.out HB.out).1
    clear y1 y2 y3 y4 y5 y6
    have z0 := past_cell x0
    by_cases hke : x.f0 = p.f0
    · go_wp2_with fail
      refine wp_region_past (by kernel_rfl) (by kernel_rfl) ?_
      repeat (quiet_step (fail))
      refine wpQuiet_nil ?_
      intro _ hw'
      obtain ⟨q, hw''⟩ := hw'
      subst hw''
      have HBq := Aside0.mk (below_step HB.out q.h)
      have hany := Aside0.mk (show anyEq d p = true by
       unfold anyEq
       rw [List.any_eq_true]
       exact ⟨x, HMEM.out, by simp [hke]⟩)
      clear hke y0 z0 x0 x1 x2 x3 x4 x5 x6
      go_wp2
      go_ret
      exact ⟨_, rfl, by rw [show rput d p = d from if_pos hany.out]; exact Kd.R_below HD.out HBq.out, HBq.out⟩
    · have hke' : ¬ x.f0.toList = p.f0.toList := fun h => hke (ba_inj h)
      have hke2 : (x.f0.toList == p.f0.toList) = false := by rw [Bool.eq_false_iff]; intro h; exact hke' (eq_of_beq h)
      have HNE := Aside0.mk hke
      clear hke
      have hE1 : Aside0 (anyEq (d.take (k + 1)) p = false) := ⟨by
       rw [HT.out]
       unfold anyEq
       rw [List.any_append, show (d.take k).any (fun x => decide (x.f0.data = p.f0.data)) = false from HE.out]
       simp only [List.any_cons, List.any_nil, Bool.or_false, Bool.false_or, decide_eq_false_iff_not]
       exact fun h => HNE.out (ByteArray.ext h)⟩
      go_wp2_with fail
      refine wp_region_past (by kernel_rfl) (by kernel_rfl) ?_
      repeat (quiet_step (fail))
      refine wpQuiet_nil ?_
      intro _ hw'
      obtain ⟨q, hw''⟩ := hw'
      subst hw''
      have HBq := Aside0.mk (below_step HB.out q.h)
      have HOq := Aside0.mk (Kd.R_below HO.out q.h)
      have BKq := Aside0.mk (blk_below BK.out q.h)
      obtain ⟨wq, hwq⟩ : ∃ w', w' = q.w' := ⟨_, rfl⟩
      rw [← hwq] at HBq HOq BKq ⊢
      clear hwq y0 z0 x0 x1 x2 x3 x4 x5 x6 HB HO BK
      have HP' := Aside0.mk (M_old HP.out HBq.out (fun j hj => Nat.le_of_lt (HVO.out j hj)))
      have HM' := Aside0.mk (M_old (k89.M_mono (fun _ _ => trivial) HM.out) HBq.out (fun j hj => Nat.le_of_lt (HVO.out j hj)))
      obtain ⟨x0, x1, x2, x3, x4, x5, x6⟩ := box7p BKq.out
      have HBr := Aside0.mk (below_drew HBq.out)
      have HOr := Aside0.mk (Kd.R_drew HOq.out)
      have BKr := Aside0.mk (blk_drew BKq.out)
      have HMr := Aside0.mk (M_old (k89.M_mono (fun _ _ => trivial) HM.out) HBr.out (fun j hj => Nat.le_of_lt (HVO.out j hj)))
      obtain ⟨y0, y1, y2, y3, y4, y5, y6⟩ := cells7 YW.out HBq.out
      cases dn with
      | true =>
        have hs := Aside0.mk (show outAt d p (k + 1) = ok ++ [x] by rw [HS.out]; simp)
        have hd1 := Aside0.mk (show anyLt (d.take (k + 1)) p = true by rw [HT.out, anyLt_snoc, HDN.out]; rfl)
        go_wp2_with fail
        go_region
        obtain ⟨wr2, hwr⟩ : ∃ w', w' = wq.drew := ⟨_, rfl⟩
        rw [← hwr] at HBr HOr BKr HMr ⊢
        clear hwr x0 x1 x2 x3 x4 x5 x6 y0 y1 y2 y3 y4 y5 y6 HOq BKq HBq
        obtain ⟨y0, y1, y2, y3, y4, y5, y6⟩ := cells7 YW.out HBr.out
        go_wp2_with (first | ((with_reducible refine gate_dst (N := 46) rfl ?_); refine Kd.R_append k89 (w0 := w) b0 rfl (.tmp 40) (.tmp 45) 33 89 (.agg #[(.string ⟨#[]⟩), (.int .i64 0), (.int .i64 0), (.int .i64 0), (.string ⟨#[]⟩), (.slice none 0 0), (.slice none 0 0)]) 104 rfl Try.underlying33 info89 rfl (by decide) (by omega) u5 ok x [.string x.f0, .int .i64 x.f1.f0, .int .i64 x.f1.f1, .int .i64 x.f1.f2, .string x.f1.f3, e4, e5] (fun _ => True) (fun k_ => some k_ ≠ (u5 : Value).ownBlock) rfl rfl ?aP (fun _ hk => ⟨trivial, hk⟩) ?aF ?aO ?aB ?aS ?aL ?_; (case aP => exact HMr.out); (case aF => exact (fun _ _ => trivial)); (case aO => exact HOr.out); (case aB => exact HBr.out.mono hbw); (case aS => exact Nat.le_trans hbw HBr.out.size); (case aL => have := HLO.out; omega)))
        intro v1 w1 HO1 HB1 hg1 hat1
        have hst := app_state HBr.out HVO.out hg1 hat1 BKr.out
        have A1 := Aside0.mk hst.1
        have A2 := Aside0.mk hst.2.1
        have A3 := Aside0.mk hst.2.2
        have A4 := Aside0.mk HO1
        clear hst HO1 HB1 hg1 hat1 y0 y1 y2 y3 y4 y5 y6
        go_wp2
        exact ⟨⟨k + 1, by omega, by go_num, by rw [hd1.out], ⟨by rw [hs.out]; exact A4.out⟩, A2, A1, A3, hE1⟩, by simp [intOf]; omega⟩
      | false =>
        cases hl : ltK p.f0 x.f0 with
        | false =>
          have hs := Aside0.mk (show outAt d p (k + 1) = ok ++ [x] by rw [HS.out, hl]; simp)
          have hd1 := Aside0.mk (show anyLt (d.take (k + 1)) p = false by rw [HT.out, anyLt_snoc, HDN.out, hl]; rfl)
          have hl2 : Op.bytesLess p.f0.toList x.f0.toList = false := hl
          clear hl
          go_wp2_with fail
          go_region
          obtain ⟨wr2, hwr⟩ : ∃ w', w' = wq.drew := ⟨_, rfl⟩
          rw [← hwr] at HBr HOr BKr HMr ⊢
          clear hwr x0 x1 x2 x3 x4 x5 x6 y0 y1 y2 y3 y4 y5 y6 HOq BKq HBq
          obtain ⟨y0, y1, y2, y3, y4, y5, y6⟩ := cells7 YW.out HBr.out
          go_wp2_with (first | ((with_reducible refine gate_dst (N := 46) rfl ?_); refine Kd.R_append k89 (w0 := w) b0 rfl (.tmp 40) (.tmp 45) 33 89 (.agg #[(.string ⟨#[]⟩), (.int .i64 0), (.int .i64 0), (.int .i64 0), (.string ⟨#[]⟩), (.slice none 0 0), (.slice none 0 0)]) 104 rfl Try.underlying33 info89 rfl (by decide) (by omega) u5 ok x [.string x.f0, .int .i64 x.f1.f0, .int .i64 x.f1.f1, .int .i64 x.f1.f2, .string x.f1.f3, e4, e5] (fun _ => True) (fun k_ => some k_ ≠ (u5 : Value).ownBlock) rfl rfl ?aP (fun _ hk => ⟨trivial, hk⟩) ?aF ?aO ?aB ?aS ?aL ?_; (case aP => exact HMr.out); (case aF => exact (fun _ _ => trivial)); (case aO => exact HOr.out); (case aB => exact HBr.out.mono hbw); (case aS => exact Nat.le_trans hbw HBr.out.size); (case aL => have := HLO.out; omega)))
          intro v1 w1 HO1 HB1 hg1 hat1
          have hst := app_state HBr.out HVO.out hg1 hat1 BKr.out
          have A1 := Aside0.mk hst.1
          have A2 := Aside0.mk hst.2.1
          have A3 := Aside0.mk hst.2.2
          have A4 := Aside0.mk HO1
          clear hst HO1 HB1 hg1 hat1 y0 y1 y2 y3 y4 y5 y6
          go_wp2
          exact ⟨⟨k + 1, by omega, by go_num, by rw [hd1.out], ⟨by rw [hs.out]; exact A4.out⟩, A2, A1, A3, hE1⟩, by simp [intOf]; omega⟩
        | true =>
          have hs := Aside0.mk (show outAt d p (k + 1) = (ok ++ [p]) ++ [x] by rw [HS.out, hl]; simp)
          have hd1 := Aside0.mk (show anyLt (d.take (k + 1)) p = true by rw [HT.out, anyLt_snoc, hl]; simp)
          have hl2 : Op.bytesLess p.f0.toList x.f0.toList = true := hl
          clear hl
          have HPr := Aside0.mk (M_old HP.out HBr.out (fun j hj => Nat.le_of_lt (HVO.out j hj)))
          go_wp2_with fail
          go_region
          obtain ⟨wr2, hwr⟩ : ∃ w', w' = wq.drew := ⟨_, rfl⟩
          rw [← hwr] at HBr HOr BKr HMr HPr ⊢
          clear hwr x0 x1 x2 x3 x4 x5 x6 y0 y1 y2 y3 y4 y5 y6 HOq BKq HBq
          obtain ⟨y0, y1, y2, y3, y4, y5, y6⟩ := cells7 YW.out HBr.out
          clear y0 y1 y2 y3 y4 y5 y6
          obtain ⟨x0, x1, x2, x3, x4, x5, x6⟩ := box7 BKr.out
          go_wp2_with (first | ((with_reducible refine gate_dst (N := 39) rfl ?_); refine Kd.R_append k89 (w0 := w) b0 rfl (.tmp 36) (.tmp 38) 33 89 (.agg #[(.string ⟨#[]⟩), (.int .i64 0), (.int .i64 0), (.int .i64 0), (.string ⟨#[]⟩), (.slice none 0 0), (.slice none 0 0)]) 104 rfl Try.underlying33 info89 rfl (by decide) (by omega) u5 ok p [.string p.f0, .int .i64 p.f1.f0, .int .i64 p.f1.f1, .int .i64 p.f1.f2, .string p.f1.f3, v4, v5] (fun _ => True) (fun k_ => some k_ ≠ (u5 : Value).ownBlock) rfl rfl ?aP (fun _ hk => ⟨trivial, hk⟩) ?aF ?aO ?aB ?aS ?aL ?_; (case aP => exact HPr.out); (case aF => exact (fun _ _ => trivial)); (case aO => exact HOr.out); (case aB => exact HBr.out.mono hbw); (case aS => exact Nat.le_trans hbw HBr.out.size); (case aL => have := HLO.out; omega)))
          intro v1 w1 HO1 HB1 hg1 hat1
          have hst := app_state HBr.out HVO.out hg1 hat1 BKr.out
          have A1 := Aside0.mk hst.1
          have A2 := Aside0.mk hst.2.1
          have A3 := Aside0.mk hst.2.2
          have A4 := Aside0.mk HO1
          have HM1 := Aside0.mk (M_old (k89.M_mono (fun _ _ => trivial) HM.out) A1.out (fun j hj => Nat.le_of_lt (A2.out j hj)))
          clear hst HO1 HB1 hg1 hat1 x0 x1 x2 x3 x4 x5 x6
          obtain ⟨y0, y1, y2, y3, y4, y5, y6⟩ := cells7 YW.out A1.out
          go_wp2_with (first | ((with_reducible refine gate_dst (N := 46) rfl ?_); refine Kd.R_append k89 (w0 := w) b0 rfl (.tmp 40) (.tmp 45) 33 89 (.agg #[(.string ⟨#[]⟩), (.int .i64 0), (.int .i64 0), (.int .i64 0), (.string ⟨#[]⟩), (.slice none 0 0), (.slice none 0 0)]) 104 rfl Try.underlying33 info89 rfl (by decide) (by omega) v1 (ok ++ [p]) x [.string x.f0, .int .i64 x.f1.f0, .int .i64 x.f1.f1, .int .i64 x.f1.f2, .string x.f1.f3, e4, e5] (fun _ => True) (fun k_ => some k_ ≠ (v1 : Value).ownBlock) rfl rfl ?aP (fun _ hk => ⟨trivial, hk⟩) ?aF ?aO ?aB ?aS ?aL ?_; (case aP => exact HM1.out); (case aF => exact (fun _ _ => trivial)); (case aO => exact A4.out); (case aB => exact A1.out.mono hbw); (case aS => exact Nat.le_trans hbw A1.out.size); (case aL => have := HLO.out; simp; omega)))
          intro v2 w3 HO2 HB2 hg2 hat2
          have hst := app_state A1.out A2.out hg2 hat2 A3.out
          have B1 := Aside0.mk hst.1
          have B2 := Aside0.mk hst.2.1
          have B3 := Aside0.mk hst.2.2
          have B4 := Aside0.mk HO2
          clear hst HO2 HB2 hg2 hat2 y0 y1 y2 y3 y4 y5 y6
          go_wp2
          exact ⟨⟨k + 1, by omega, by go_num, by rw [hd1.out], ⟨by rw [hs.out]; first | exact B4.out | (rw [List.append_assoc]; exact B4.out)⟩, B2, B1, B3, hE1⟩, by simp [intOf]; omega⟩
  · have hk' : k = d.length := by omega
    have hr0 := Aside0.mk (show rput d p = insB d p by
     unfold rput
     rw [if_neg]
     have := HE.out
     rw [hk', List.take_length] at this
     rw [this]
     decide)
    have HLO := Aside0.mk (outAt_len d p k)
    have hoa := Aside0.mk (show outAt d p k = if anyLt (d.take k) p = true then insB d p else d by unfold outAt; rw [hk', List.take_length])
    have hie := Aside0.mk (show anyLt (d.take k) p = false → insB d p = d ++ [p] by rw [hk', List.take_length]; exact insB_end p d)
    generalize outAt d p k = ok at *
    generalize anyLt (d.take k) p = dn at *
    cases dn with
    | true =>
      have hok := Aside0.mk (show ok = insB d p by rw [hoa.out]; simp)
      go_wp2
      go_ret
      exact ⟨_, rfl, by rw [hr0.out, ← hok.out]; exact HO.out, HB.out⟩
    | false =>
      have hok := Aside0.mk (show ok ++ [p] = rput d p by rw [hr0.out, hie.out rfl, hoa.out]; simp)
      have HPr := Aside0.mk (M_old HP.out HB.out (fun j hj => Nat.le_of_lt (HVO.out j hj)))
      go_wp2_with (first | ((with_reducible refine gate_dst (N := 52) rfl ?_); refine Kd.R_append k89 (w0 := w) b0 rfl (.tmp 49) (.tmp 51) 33 89 (.agg #[(.string ⟨#[]⟩), (.int .i64 0), (.int .i64 0), (.int .i64 0), (.string ⟨#[]⟩), (.slice none 0 0), (.slice none 0 0)]) 104 rfl Try.underlying33 info89 rfl (by decide) (by omega) u5 ok p [.string p.f0, .int .i64 p.f1.f0, .int .i64 p.f1.f1, .int .i64 p.f1.f2, .string p.f1.f3, v4, v5] (fun _ => True) (fun k_ => some k_ ≠ (u5 : Value).ownBlock) rfl rfl ?aP (fun _ hk => ⟨trivial, hk⟩) ?aF ?aO ?aB ?aS ?aL ?_; (case aP => exact HPr.out); (case aF => exact (fun _ _ => trivial)); (case aO => exact HO.out); (case aB => exact HB.out.mono hbw); (case aS => exact Nat.le_trans hbw HB.out.size); (case aL => have := HLO.out; omega)))
      intro v1 w1 HO1 HB1 hg1 hat1
      have hst := app_state HB.out HVO.out hg1 hat1 BK.out
      have A1 := Aside0.mk hst.1
      have A4 := Aside0.mk HO1
      clear hst HO1 HB1 hg1 hat1 x0 x1 x2 x3 x4 x5 x6
      go_wp2
      go_ret
      exact ⟨_, rfl, by rw [← hok.out]; exact A4.out, A1.out⟩
mutual
/-- P16.3: a value in the one form that all alike ones have. -/
def plain : S35 → S35
 | ⟨k, n, g, s, l, d⟩ =>
   if k = 1 ∨ k = 2 then ⟨k, n, 0, ⟨#[]⟩, [], []⟩ else if k = 3 ∨ k = 4 then ⟨k, 0, 0, s, [], []⟩ else if k = 5 then ⟨k, 0, 0, ⟨#[]⟩, plainL l, []⟩ else
   if k = 6 then ⟨k, 0, 0, ⟨#[]⟩, [], ((plainD d).foldl rput []).filter (fun p => decide (p.f1.f0 ≠ 0))⟩ else if k = 7 then ⟨k, n, g, ⟨#[]⟩, [], []⟩ else
   if k = 8 then ⟨k, 0, 0, s, [], ((plainD d).foldl rput []).filter (fun p => decide (p.f1.f0 ≠ 0))⟩ else z35
def plainL : List S35 → List S35
 | [] => []
 | x :: r => plain x :: plainL r
def plainD : List (P89 S35) → List (P89 S35)
 | [] => []
 | p :: r => plainP p :: plainD r
def plainP : P89 S35 → P89 S35
 | ⟨key, v⟩ => ⟨key, plain v⟩
end
theorem plainL_map : ∀ l, plainL l = l.map plain
 | [] => by rw [plainL]; rfl
 | x :: r => by rw [plainL, plainL_map r]; rfl
theorem plainP_eq (p : S89) : plainP p = ⟨p.f0, plain p.f1⟩ := by cases p; rw [plainP]
theorem plainD_map : ∀ d, plainD d = d.map (fun p => (⟨p.f0, plain p.f1⟩ : S89))
 | [] => by rw [plainD]; rfl
 | x :: r => by rw [plainD, plainD_map r, plainP_eq]; rfl
def pairsP (d : List S89) : List S89 := ((d.map (fun p => (⟨p.f0, plain p.f1⟩ : S89))).foldl rput []).filter (fun p => decide (p.f1.f0 ≠ 0))
theorem plain_eq (v : S35) : plain v = if v.f0 = 1 ∨ v.f0 = 2 then ⟨v.f0, v.f1, 0, ⟨#[]⟩, [], []⟩ else if v.f0 = 3 ∨ v.f0 = 4 then ⟨v.f0, 0, 0, v.f3, [], []⟩ else if v.f0 = 5 then ⟨v.f0, 0, 0, ⟨#[]⟩, v.f4.map plain, []⟩ else
 if v.f0 = 6 then ⟨v.f0, 0, 0, ⟨#[]⟩, [], pairsP v.f5⟩ else if v.f0 = 7 then ⟨v.f0, v.f1, v.f2, ⟨#[]⟩, [], []⟩ else if v.f0 = 8 then ⟨v.f0, 0, 0, v.f3, [], pairsP v.f5⟩ else z35 := by
 cases v; rw [plain, plainL_map, plainD_map]; rfl
mutual
/-- No list of a value is longer than that. -/
def fewV : S35 → Prop
 | ⟨_, _, _, _, l, d⟩ => l.length ≤ 90000 ∧ d.length ≤ 90000 ∧ fewL l ∧ fewD d
def fewL : List S35 → Prop
 | [] => True
 | x :: r => fewV x ∧ fewL r
def fewD : List (P89 S35) → Prop
 | [] => True
 | p :: r => fewP p ∧ fewD r
def fewP : P89 S35 → Prop
 | ⟨_, v⟩ => fewV v
end
theorem fewL_mem : ∀ {l : List S35}, fewL l → ∀ x ∈ l, fewV x := by
 intro l
 induction l with
 | nil => intro _ x hx; simp at hx
 | cons y l ih => intro h x hx; rw [fewL] at h; rcases List.mem_cons.1 hx with rfl | hx; exact h.1; exact ih h.2 x hx
theorem fewD_mem : ∀ {l : List (P89 S35)}, fewD l → ∀ p ∈ l, fewV p.f1 := by
 intro l
 induction l with
 | nil => intro _ x hx; simp at hx
 | cons y l ih => intro h x hx; rw [fewD] at h; rcases List.mem_cons.1 hx with rfl | hx; (cases x; rw [fewP] at h; exact h.1); exact ih h.2 x hx
theorem fewV_at {v : S35} (h : fewV v) : v.f4.length ≤ 90000 ∧ v.f5.length ≤ 90000 ∧ (∀ x ∈ v.f4, fewV x) ∧ (∀ p ∈ v.f5, fewV p.f1) := by
 cases v; rw [fewV] at h; exact ⟨h.1, h.2.1, fewL_mem h.2.2.1, fewD_mem h.2.2.2⟩
def PlainAt (f : Nat) (v : S35) : Prop := ∀ (A4 : Option Addr) (c4 : Nat) (A5 : Option Addr) (c5 : Nat) (w : World), fewV v → v.f4.length ≤ c4 → k35.C w A4 v.f4.length v.f4 → v.f5.length ≤ c5 → k89.C w A5 v.f5.length v.f5 →
 Calls Try.prog f #[.agg #[.int .i64 v.f0, .int .i64 v.f1, .int .i64 v.f2, .string v.f3, .slice A4 v.f4.length c4, .slice A5 v.f5.length c5]] w fun e w' => ∃ v4 v5, e = .returned (.agg #[.int .i64 (plain v).f0, .int .i64 (plain v).f1, .int .i64 (plain v).f2, .string (plain v).f3, v4, v5]) ∧
  k35.R 35 w' w.heap.size (fun _ => True) v4 (plain v).f4 ∧ k89.R 89 w' w.heap.size (fun _ => True) v5 (plain v).f5 ∧ Below w.heap.size w w'
theorem rput_len (d : List S89) (p : S89) : (rput d p).length ≤ d.length + 1 := by
 unfold rput
 split
 · omega
 · rw [insB_len]; omega
theorem pairs_len (d : List S89) : ∀ (k : Nat), ((d.take k).foldl rput []).length ≤ k := by
 intro k
 induction k with
 | zero => simp
 | succ k ih =>
   by_cases h : k < d.length
   · rw [List.take_succ_eq_append_getElem h, List.foldl_append]
     have := rput_len ((d.take k).foldl rput []) d[k]
     simp only [List.foldl_cons, List.foldl_nil]
     omega
   · rw [List.take_of_length_le (by omega)]
     rw [List.take_of_length_le (by omega)] at ih
     omega
set_option maxHeartbeats 8000000 in
set_option maxRecDepth 100000 in
theorem pairs_calls (d : List S89) (A : Option Addr) (c : Nat) (w : World) (hlen : d.length ≤ 90000) (hr : k89.C w A d.length d) (hf : ∀ p ∈ d, fewV p.f1) (ih : ∀ p ∈ d, PlainAt 60 p.f1) :
 Calls Try.prog 122 #[.slice A d.length c] w fun e w' => ∃ v, e = .returned v ∧ k89.R 89 w' w.heap.size (fun _ => True) v (pairsP d) ∧ Below w.heap.size w w' := by
 have hu89 := Try.underlying89
 have hu35 := Try.underlying35
 have hu33 := Try.underlying33
 have HR := Aside0.mk hr
 have HF := Aside0.mk hf
 clear hr hf
 go_enter Try.func122, Try.ntmps122
 go_wp2_with (first | ((with_reducible refine gate_dst (N := 7) rfl ?_); refine Kd.R_lit k89 w.heap.size 89 ?hg (N := 7) ?hd (w0 := w) (xs := ([] : List S89)) (inner := []) (ok := fun _ => True) (okp := fun _ => True) ?hr (Reps.none _ _) (fun _ hk => hk) trivial (Below.refl _ _) (Nat.le_refl _) (by simp) ?_; (case hd => rfl); (case hg => rfl); (case hr => first | (go_simp; done) | (go_simp; rfl))))
 intro va w2 HO HB hg2 b hob hle
 have HO2 := Aside0.mk HO
 have HB2 := Aside0.mk HB
 clear HO HB hg2 hob hle
 go_wp2
 go_loopw [3, 4] (fun o i wr => ∃ k : Nat, k ≤ d.length ∧ i = .int .i64 k ∧ Aside0 (k89.R 89 wr w.heap.size (fun _ => True) o (((d.map (fun p => (⟨p.f0, plain p.f1⟩ : S89))).take k).foldl rput [])) ∧ Aside0 (Below w.heap.size w wr)) (fun _ i _ => d.length - (intOf i).toNat)
 case atStart => exact ⟨0, Nat.zero_le _, rfl, HO2, HB2⟩
 case round =>
  clear HO2 HB2
  obtain ⟨k, hk, rfl, HO, HB⟩ := hrel
  by_cases hlt : k < d.length
  · obtain ⟨ad, P4, p4, P5, p5, rfl, y0, y1, y2, y3, y4, y5, y6, lp4, gp4, lp5, gp5⟩ := at89 (Kd.C_below HR.out HB.out) k hlt
    obtain ⟨A', c', ho, hlc, _⟩ := Kd.R_reads HO.out
    subst ho
    have HM := getD_mem d k hlt z89
    have IH := Aside0.mk (ih _ HM)
    have FX := Aside0.mk (HF.out _ HM)
    have HK := Aside0.mk (show (d.map (fun p => (⟨p.f0, plain p.f1⟩ : S89))).take (k + 1) = (d.map (fun p => (⟨p.f0, plain p.f1⟩ : S89))).take k ++ [⟨(d.getD k z89).f0, plain (d.getD k z89).f1⟩] by
     rw [List.take_succ_eq_append_getElem (by simpa using hlt), List.getElem_map, List.getD_eq_getElem?_getD, List.getElem?_eq_getElem hlt]; rfl)
    have HL := Aside0.mk (pairs_len (d.map (fun p => (⟨p.f0, plain p.f1⟩ : S89))) k)
    generalize ((d.map (fun p => (⟨p.f0, plain p.f1⟩ : S89))).take k) = dk at HO HK HL
    generalize hal : dk.foldl rput [] = al at *
    have HAL := Aside0.mk hal
    generalize d.getD k z89 = x at *
    have G := Aside0.mk (And.intro lp4 (And.intro gp4 (And.intro lp5 gp5)))
    replace y0 := y0 ⟨wr, Below.refl _ _⟩
    replace y1 := y1 ⟨wr, Below.refl _ _⟩
    replace y2 := y2 ⟨wr, Below.refl _ _⟩
    replace y3 := y3 ⟨wr, Below.refl _ _⟩
    replace y4 := y4 ⟨wr, Below.refl _ _⟩
    replace y5 := y5 ⟨wr, Below.refl _ _⟩
    replace y6 := y6 ⟨wr, Below.refl _ _⟩
    simp only [] at y0 y1 y2 y3 y4 y5 y6
    clear hal HM lp4 gp4 lp5 gp5 hlc
    go_wp2_with fail
    go_region_held3 (fun w' => w'.cell? (ad.add (k * 7)) = some (.string x.f0) ∧ w'.cell? ⟨(ad.add (k * 7)).block, (ad.add (k * 7)).off + 1, none⟩ = some (.int .i64 x.f1.f0) ∧ w'.cell? ⟨(ad.add (k * 7)).block, (ad.add (k * 7)).off + 2, none⟩ = some (.int .i64 x.f1.f1) ∧
     w'.cell? ⟨(ad.add (k * 7)).block, (ad.add (k * 7)).off + 3, none⟩ = some (.int .i64 x.f1.f2) ∧ w'.cell? ⟨(ad.add (k * 7)).block, (ad.add (k * 7)).off + 4, none⟩ = some (.string x.f1.f3) ∧ w'.cell? ⟨(ad.add (k * 7)).block, (ad.add (k * 7)).off + 5, none⟩ = some (.slice P4 x.f1.f4.length p4) ∧ w'.cell? ⟨(ad.add (k * 7)).block, (ad.add (k * 7)).off + 6, none⟩ = some (.slice P5 x.f1.f5.length p5))
     (first
      | go_keep
      | (go_split_ands
         refine ⟨?_, ?_, ?_, ?_, ?_, ?_, ?_⟩ <;> exact (hb_.cell (World.block_lt_of_cell? _ _ (by assumption))).trans (by assumption)))
     ((first
       | (go_at_call 60; refine (IH.out P4 p4 P5 p5 _ FX.out G.out.1 (by (with_reducible repeat (first | apply Kd.C_alloc | apply Kd.C_drewN | apply Kd.C_drew)); exact G.out.2.1) G.out.2.2.1 (by (with_reducible repeat (first | apply Kd.C_alloc | apply Kd.C_drewN | apply Kd.C_drew)); exact G.out.2.2.2)).mono ?_; rintro e w6 ⟨q4, q5, rfl, h4, h5, hb_⟩; have HO6 := Aside0.mk (Kd.R_below (show k89.R 89 _ w.heap.size (fun _ => True) (.slice A' al.length c') al by (with_reducible repeat (first | apply Kd.R_alloc | apply Kd.R_drewN | apply Kd.R_drew)); exact HO.out) hb_); have HB6 := Aside0.mk (below_step (show Below w.heap.size w _ by repeat (first | (with_reducible first | exact HB.out | apply below_alloc | apply pw_below_drewN | apply below_drew1) | exact HB.out)) hb_); have h46 := Aside0.mk (And.intro h4 h5); clear h4 h5)
       | (go_at_call 159; refine (put_calls w.heap.size al A' c' ⟨x.f0, plain x.f1⟩ q4 q5 _ ?z1 ?z2 ?z3 ?z4 ?z5).mono ?_; (case z1 => exact HB6.out.size); (case z2 => exact HO6.out); (case z3 => have := HL.out; omega); (case z4 => exact Kd.R_lower h46.out.1 HB.out.size); (case z5 => exact Kd.R_lower h46.out.2 HB.out.size); rintro e w7 ⟨v, rfl, hR7, hb_⟩)))
    all_goals
     have HR7 := Aside0.mk (show k89.R 89 w7 w.heap.size (fun _ => True) v (((dk ++ [(⟨x.f0, plain x.f1⟩ : S89)])).foldl rput []) by rw [List.foldl_append, HAL.out]; exact hR7)
     have HB7 := Aside0.mk (below_step HB6.out hb_)
     clear hR7 hb_ y0 y1 y2 y3 y4 y5 y6
     go_wp2
     exact ⟨⟨k + 1, by omega, by go_num, ⟨by rw [HK.out]; exact HR7.out⟩, HB7⟩, by simp [intOf]; omega⟩
  · have hk' : k = d.length := by omega
    have HL := Aside0.mk (pairs_len (d.map (fun p => (⟨p.f0, plain p.f1⟩ : S89))) k)
    have HP := Aside0.mk (show pairsP d = (((d.map (fun p => (⟨p.f0, plain p.f1⟩ : S89))).take k).foldl rput []).filter (fun p => decide (p.f1.f0 ≠ 0)) by
     rw [List.take_of_length_le (by simp; omega)]; rfl)
    generalize ((d.map (fun p => (⟨p.f0, plain p.f1⟩ : S89))).take k).foldl rput [] = al at HO HL HP
    obtain ⟨A', c', ho, hlc, _⟩ := Kd.R_reads HO.out
    subst ho
    go_wp2_with (first | ((with_reducible refine gate_dst (N := 28) rfl ?_); refine Kd.R_lit k89 w.heap.size 89 ?hg (N := 28) ?hd (w0 := w) (xs := ([] : List S89)) (inner := []) (ok := fun _ => True) (okp := fun _ => True) ?hr (Reps.none _ _) (fun _ hk => hk) trivial HB.out HB.out.size (by simp) ?_; (case hd => rfl); (case hg => rfl); (case hr => first | (go_simp; done) | (go_simp; rfl))))
    intro vo w3 HO3 HB3 hg3 b3 hob3 hle3
    have HV3 := Aside0.mk (show ∀ j, vo.ownBlock = some j → wr.heap.size ≤ j from fun j hj => by rw [hob3] at hj; injection hj with hj; omega)
    have HO4 := Aside0.mk HO3
    have HB4 := Aside0.mk (show Below wr.heap.size wr w3 from (Below.refl _ _).grown hg3 (Nat.le_refl _) (fun k hk => by cases hk))
    clear HO3 HB3 hg3 hob3 hle3
    go_wp2
    obtain ⟨wo, rfl⟩ : ∃ wo : World, wo = wr := ⟨_, rfl⟩
    have hma := Kd.C_max (Kd.R_reads' HO.out).2.2
    go_loopw [5, 6] (fun o i wr => ∃ k : Nat, k ≤ al.length ∧ i = .int .i64 k ∧ Aside0 (k89.R 89 wr w.heap.size (fun _ => True) o ((al.take k).filter (fun p => decide (p.f1.f0 ≠ 0)))) ∧ Aside0 (∀ j, o.ownBlock = some j → wo.heap.size ≤ j) ∧ Aside0 (Below wo.heap.size wo wr)) (fun _ i _ => al.length - (intOf i).toNat)
    case atStart => exact ⟨0, Nat.zero_le _, rfl, HO4, HV3, HB4⟩
    case round =>
     clear HO4 HV3 HB4
     obtain ⟨k, hk, rfl, HO5, HV5, HB5⟩ := hrel
     have HBw := Aside0.mk (below_step HB.out HB5.out)
     by_cases hlt : k < al.length
     · obtain ⟨g, cap, hv, _⟩ := Kd.R_form HO.out (by omega)
       injection hv with hA _ hcap
       subst hA
       subst hcap
       obtain ⟨e4, e5, hM, yw⟩ := elem89 HO.out k hlt
       have HM := Aside0.mk hM
       have HT := Aside0.mk (show al.take (k + 1) = al.take k ++ [al.getD k z89] from take_snocD al k hlt)
       obtain ⟨y0, y1, y2, y3, y4, y5, y6⟩ := cells7 yw HB5.out
       have HFL := Aside0.mk (List.length_filter_le (fun p : S89 => decide (p.f1.f0 ≠ 0)) (al.take k))
       have HTL := Aside0.mk (List.length_take_le k al)
       generalize al.getD k z89 = x at *
       generalize hfk : (al.take k).filter (fun p => decide (p.f1.f0 ≠ 0)) = fk at *
       have HFK := Aside0.mk hfk
       clear hfk yw hM
       by_cases hx : x.f1.f0 = 0
       · have hs := Aside0.mk (show (al.take (k + 1)).filter (fun p => decide (p.f1.f0 ≠ 0)) = fk by rw [HT.out, List.filter_append, HFK.out]; simp [hx])
         have hx2 : (x.f1.f0 != 0) = false := by simp [hx]
         go_wp2
         exact ⟨⟨k + 1, by omega, by go_num, ⟨by rw [hs.out]; exact HO5.out⟩, HV5, HB5⟩, by simp [intOf]; omega⟩
       · have hs := Aside0.mk (show (al.take (k + 1)).filter (fun p => decide (p.f1.f0 ≠ 0)) = fk ++ [x] by rw [HT.out, List.filter_append, HFK.out]; simp [hx])
         have HMr := Aside0.mk (M_old (k89.M_mono (fun _ _ => trivial) HM.out) HB5.out (fun j hj => HV5.out j hj))
         go_wp2_with (first | ((with_reducible refine gate_dst (N := 48) rfl ?_); refine Kd.R_append k89 (w0 := w) w.heap.size rfl (.tmp 42) (.tmp 47) 33 89 (.agg #[(.string ⟨#[]⟩), (.int .i64 0), (.int .i64 0), (.int .i64 0), (.string ⟨#[]⟩), (.slice none 0 0), (.slice none 0 0)]) 104 rfl Try.underlying33 info89 rfl (by decide) (by omega) u5 fk x [.string x.f0, .int .i64 x.f1.f0, .int .i64 x.f1.f1, .int .i64 x.f1.f2, .string x.f1.f3, e4, e5] (fun _ => True) (fun k_ => some k_ ≠ (u5 : Value).ownBlock) rfl rfl ?aP (fun _ hk => ⟨trivial, hk⟩) ?aF ?aO ?aB ?aS ?aL ?_; (case aP => exact HMr.out); (case aF => exact (fun _ _ => trivial)); (case aO => exact HO5.out); (case aB => exact HBw.out); (case aS => exact HBw.out.size); (case aL => have := HFL.out; have := HTL.out; have := HL.out; omega)))
         intro v1 w4 HO6 HB6 hg6 hat6
         have A1 := Aside0.mk (show ∀ j, v1.ownBlock = some j → wo.heap.size ≤ j by
          intro j hj
          rcases hat6 with h | ⟨b, h, hle⟩
          · exact HV5.out j (by rw [← h]; exact hj)
          · rw [h] at hj; injection hj with hj; have := HB5.out.size; omega)
         have A2 := Aside0.mk (show Below wo.heap.size wo w4 from HB5.out.grown hg6 HB5.out.size (fun j hj => HV5.out j hj))
         have A3 := Aside0.mk HO6
         clear HO6 HB6 hg6 hat6 y0 y1 y2 y3 y4 y5 y6
         go_wp2
         exact ⟨⟨k + 1, by omega, by go_num, ⟨by rw [hs.out]; exact A3.out⟩, A1, A2⟩, by simp [intOf]; omega⟩
     · have hs := Aside0.mk (show pairsP d = (al.take k).filter (fun p => decide (p.f1.f0 ≠ 0)) by rw [List.take_of_length_le (by omega)]; exact HP.out)
       go_wp2
       go_ret
       exact ⟨_, rfl, by rw [hs.out]; exact HO5.out, HBw.out⟩
end Go.Proofs.Ytogpnkkoablmiaa.V
end
