/- Parts of the proof: what the theorem reaches, put together by a program of this session. -/
import Derived.ArgAppend
import Derived.Below
import Derived.BigGuardPart
import Derived.BigQuiet
import Derived.Deep.AppendLies
import Derived.Deep.CutBlock
import Derived.Deep.DeepCutAuto
import Derived.Deep.Draws
import Derived.Deep.LoopGhost
import Derived.Deep.OwnRows
import Derived.Deep.QuietTactic
import Derived.Deep.RegionHeld3
import Derived.KernelRfl
import Derived.Laws.BitsLemmas
import Derived.Laws.BytesArg
import Derived.Laws.IdiomCopy
import Derived.Laws.MakeOwn
import Derived.Laws.OwnMore
import Derived.Laws.Rows
import Derived.Laws.Slices
import Derived.Laws.StructEq
import Derived.Lib.AppendStr
import Derived.Lib.Bytealg
import Derived.Lib.ConvBytes
import Derived.Maps.AppendAt
import Derived.Maps.OwnOps
import Derived.Maps.Views
import Derived.OrdersHeld
import Derived.OwnWalk
import Derived.RowKit
import Derived.RowKit3
import Derived.Tactics
import Derived.Test.YtogpnkkoablmiaaProg
import Derived.WalkKit
import Derived.WideLaws
import Derived.Test.YtogpnkkoablmiaaBM1
import Derived.Test.YtogpnkkoablmiaaBM2
import Derived.Test.YtogpnkkoablmiaaBM3
import Derived.Test.YtogpnkkoablmiaaBM4
import Derived.Test.YtogpnkkoablmiaaBM5
import Derived.Test.YtogpnkkoablmiaaBM6
import Derived.Test.YtogpnkkoablmiaaBM7
import Derived.Test.YtogpnkkoablmiaaBM11
import Derived.Test.YtogpnkkoablmiaaBM12
section
namespace Go.Proofs.Ytogpnkkoablmiaa.V
open Go.RowKit Go.Proofs.Ytogpnkkoablmiaa.Q Go.Proofs.YtogpnkkoablmiaaW.PrintWords Go.Proofs.YtogpnkkoablmiaaW.PrintLast Go.Proofs.YtogpnkkoablmiaaW.PrintMore
set_option linter.unusedVariables false
set_option linter.unusedSimpArgs false
theorem at35w {w : World} {A : Option Addr} {n : Nat} {xs : List S35} (h : Kd.C k35 w A n xs) (i : Nat) (h1 : i < n) : ∃ ad A4 c4 A5 c5, A = some ad ∧
    w.cell? (ad.add (i * 6)) = some (.int .i64 (xs.getD i z35).f0) ∧ w.cell? ⟨(ad.add (i * 6)).block, (ad.add (i * 6)).off + 1, none⟩ = some (.int .i64 (xs.getD i z35).f1) ∧
    w.cell? ⟨(ad.add (i * 6)).block, (ad.add (i * 6)).off + 2, none⟩ = some (.int .i64 (xs.getD i z35).f2) ∧ w.cell? ⟨(ad.add (i * 6)).block, (ad.add (i * 6)).off + 3, none⟩ = some (.string (xs.getD i z35).f3) ∧
    w.cell? ⟨(ad.add (i * 6)).block, (ad.add (i * 6)).off + 4, none⟩ = some (.slice A4 (xs.getD i z35).f4.length c4) ∧ w.cell? ⟨(ad.add (i * 6)).block, (ad.add (i * 6)).off + 5, none⟩ = some (.slice A5 (xs.getD i z35).f5.length c5) ∧
    (xs.getD i z35).f4.length ≤ c4 ∧ k35.C w A4 (xs.getD i z35).f4.length (xs.getD i z35).f4 ∧ (xs.getD i z35).f5.length ≤ c5 ∧ k89.C w A5 (xs.getD i z35).f5.length (xs.getD i z35).f5 := by
  obtain ⟨ad, A4, c4, A5, c5, e, h0, h1, h2, h3, h4, h5, l4, g4, l5, g5⟩ := at_T35 h (i : Int) (by omega) (by omega)
  simp only [rd_T35, Int.toNat_natCast] at *
  exact ⟨ad, A4, c4, A5, c5, e, h0, h1, h2, h3, h4, h5, l4, g4, l5, g5⟩
open Go.Maps Go.WideMaps
theorem kstr : Keyed Try.prog 9 := string_keyed Try.underlying9
def memK (s : ByteArray) (ks : List ByteArray) : Bool := ks.any (fun t => decide (t.data = s.data))
theorem memK_iff (s : ByteArray) (ks : List ByteArray) : memK s ks = true ↔ s ∈ ks := by
  unfold memK
  rw [List.any_eq_true]
  constructor
  · rintro ⟨t, ht, h⟩
    have : t = s := ByteArray.ext (of_decide_eq_true h)
    rwa [← this]
  · intro h
    exact ⟨s, h, decide_eq_true rfl⟩
theorem zero3 (w : World) : (zeroValue 3).run Try.prog w = .ok (.int .i64 0) w := by kernel_rfl
def Seen (w : World) (b : Nat) (ks : List ByteArray) : Prop :=
  ∃ D : DataW Unit, w.ownsMap Try.prog 9 (plainElem Try.prog 3) b ks.length D ∧ IsMap D ∧ ∀ s : ByteArray, D.atKey (.string s.data.toList) (.lit (.int .i64 0)) = .lit (.int .i64 (if memK s ks = true then 1 else 0))
theorem Seen.start (w : World) : Seen (w.alloc (.map #[] 0)) w.heap.size [] := ⟨.map [], World.ownsMap_made _ _ _ _, isMap_empty, fun s => rfl⟩
theorem Seen.lt {w : World} {b : Nat} {ks : List ByteArray} (h : Seen w b ks) : b < w.heap.size := by obtain ⟨D, h, _⟩ := h; exact h.lt
theorem Seen.below {w w1 : World} {b : Nat} {ks : List ByteArray} (h : Seen w b ks) (hb : Below w.heap.size w w1) : Seen w1 b ks := by
  have hl := h.lt
  obtain ⟨D, ⟨es, clock, hh, F, hs, hD⟩, h2⟩ := h
  exact ⟨D, ⟨es, clock, (hb.block b hl).trans hh, F, hs, hD⟩, h2⟩
theorem Seen.look {w : World} {b : Nat} {ks : List ByteArray} (h : Seen w b ks) (s : ByteArray) (hs : s.size ≤ 9223372036854775807) : (Instr.lookup 187 (.map (some b)) (.string s) false).run Try.prog w = .ok (.int .i64 (if memK s ks = true then 1 else 0)) w := by
  obtain ⟨D, h1, _, h3⟩ := h
  obtain ⟨c, hrun, hat, _⟩ := h1.lookup_int kstr Try.underlying187 Try.underlying3 (zero3 _) (keyOf_string_mk (s := s) Try.underlying9 (by unfold maxLen; omega))
  have e : c = (if memK s ks = true then 1 else 0) := by
    have := hat.symm.trans (h3 s)
    exact (Lit.int.inj (DataW.lit.inj this)).2
  rw [← e]
  exact hrun
theorem Seen.put {w1 : World} {b : Nat} {ks : List ByteArray} {D : DataW Unit} (s : ByteArray) (hD : IsMap D) (h3 : ∀ s : ByteArray, D.atKey (.string s.data.toList) (.lit (.int .i64 0)) = .lit (.int .i64 (if memK s ks = true then 1 else 0)))
    (h : w1.ownsMap Try.prog 9 (plainElem Try.prog 3) b (ks.length + 1) (D.put (.string s.data.toList) (.lit (.int .i64 1)))) : Seen w1 b (ks ++ [s]) := by
  refine ⟨_, by simpa using h, hD.put _ _, fun t => ?_⟩
  by_cases e : t = s
  · subst e
    rw [atKey_put_same hD (by trivial)]
    rw [if_pos ((memK_iff _ _).2 (by simp))]
  · rw [atKey_put_other (by intro h; apply e; injection h with h; exact ByteArray.ext (Array.toList_inj.1 h)), h3]
    have : memK t (ks ++ [s]) = memK t ks := by
      rw [Bool.eq_iff_iff, memK_iff, memK_iff]
      simp [e]
    rw [this]
theorem box7 {w : World} {b T : Nat} {c0 c1 c2 c3 c4 c5 c6 : Value} (h : w.heap[b]? = some (.cells #[c0, c1, c2, c3, c4, c5, c6] T (0, 0))) : w.cell? ⟨b, 0, none⟩ = some c0 ∧ w.cell? ⟨b, 1, none⟩ = some c1 ∧ w.cell? ⟨b, 2, none⟩ = some c2 ∧ w.cell? ⟨b, 3, none⟩ = some c3 ∧ w.cell? ⟨b, 4, none⟩ = some c4 ∧ w.cell? ⟨b, 5, none⟩ = some c5 ∧ w.cell? ⟨b, 6, none⟩ = some c6 := by
  refine ⟨?_, ?_, ?_, ?_, ?_, ?_, ?_⟩ <;> (rw [cell_of_row w b _ _ _ _ h]; rfl)
mutual
/-- P16.2: what is wrong with a value that stands within so many others. -/
def chkV : S35 → Bool → Int → Int
  | ⟨k, n, g, s, l, d⟩, stream, within =>
    if ownE k n g s l.length d.length stream within ≠ 0 then ownE k n g s l.length d.length stream within else if chkL l (within + 1) ≠ 0 then chkL l (within + 1) else chkD [] d (within + 1)
def chkL : List S35 → Int → Int
  | [], _ => 0
  | x :: r, wi => if chkV x false wi ≠ 0 then chkV x false wi else chkL r wi
def chkD : List ByteArray → List (P89 S35) → Int → Int
  | _, [], _ => 0
  | ks, p :: r, wi => if chkP ks p wi ≠ 0 then chkP ks p wi else chkD (ks ++ [p.f0]) r wi
def chkP : List ByteArray → P89 S35 → Int → Int
  | ks, ⟨key, v⟩, wi => if 127 < key.size ∨ hasZero key = true ∨ memK key ks = true then 11 else chkV v false wi
end
theorem chkV_eq (v : S35) (stream : Bool) (within : Int) : chkV v stream within = if ownE v.f0 v.f1 v.f2 v.f3 v.f4.length v.f5.length stream within ≠ 0 then ownE v.f0 v.f1 v.f2 v.f3 v.f4.length v.f5.length stream within else if chkL v.f4 (within + 1) ≠ 0 then chkL v.f4 (within + 1) else chkD [] v.f5 (within + 1) := by
  cases v; rw [chkV]
theorem drop_at {α : Type} (z : α) (xs : List α) (i : Nat) (h : i < xs.length) : xs.drop i = xs.getD i z :: xs.drop (i + 1) := by
  rw [List.drop_eq_getElem_cons h, List.getD_eq_getElem?_getD, List.getElem?_eq_getElem h]; rfl
theorem chkL_at (l : List S35) (wi : Int) (i : Nat) (h : i < l.length) : chkL (l.drop i) wi = if chkV (l.getD i z35) false wi ≠ 0 then chkV (l.getD i z35) false wi else chkL (l.drop (i + 1)) wi := by
  rw [drop_at z35 l i h, chkL]
theorem chkD_at (ks : List ByteArray) (l : List S89) (wi : Int) (i : Nat) (h : i < l.length) : chkD ks (l.drop i) wi = if chkP ks (l.getD i z89) wi ≠ 0 then chkP ks (l.getD i z89) wi else chkD (ks ++ [(l.getD i z89).f0]) (l.drop (i + 1)) wi := by
  rw [drop_at z89 l i h, chkD]
theorem chkP_eq (ks : List ByteArray) (p : S89) (wi : Int) : chkP ks p wi = if 127 < p.f0.size ∨ hasZero p.f0 = true ∨ memK p.f0 ks = true then 11 else chkV p.f1 false wi := by
  cases p; rw [chkP]
theorem own_within {k n g : Int} {s : ByteArray} {L D : Nat} {stream : Bool} {within : Int} (h : ownE k n g s L D stream within = 0) (hld : 0 < L ∨ 0 < D) : within < 64 := by
  unfold ownE at h
  by_cases h1 : k < 0 ∨ 8 < k ∨ (k = 8 ∧ stream = false)
  · rw [if_pos h1] at h; omega
  rw [if_neg h1] at h
  by_cases h2 : extraB k n g s L D = true ∨ (k = 3 ∧ hasZero s = true)
  · rw [if_pos h2] at h; omega
  rw [if_neg h2] at h
  split at h
  · omega
  split at h
  · omega
  split at h
  · omega
  split at h
  · omega
  · rename_i h3
    have h4 : extraB k n g s L D = false := by cases hb : extraB k n g s L D with | false => rfl | true => exact absurd (.inl hb) h2
    unfold extraB at h4
    simp only [Bool.or_eq_false_iff, Bool.and_eq_false_iff, decide_eq_false_iff_not, Decidable.not_not] at h4
    omega
def ChkSaid (v : S35) : Prop := ∀ (A4 : Option Addr) (c4 : Nat) (A5 : Option Addr) (c5 : Nat) (stream : Bool) (within : Int) (w : World), 0 ≤ within → within ≤ 64 → v.f4.length ≤ c4 → k35.C w A4 v.f4.length v.f4 → v.f5.length ≤ c5 → k89.C w A5 v.f5.length v.f5 →
  Calls Try.prog 116 #[.agg #[.int .i64 v.f0, .int .i64 v.f1, .int .i64 v.f2, .string v.f3, .slice A4 v.f4.length c4, .slice A5 v.f5.length c5], .bool stream, .int .i64 within] w fun e w' => e = .returned (.int .i64 (chkV v stream within)) ∧ Below w.heap.size w w'
set_option maxHeartbeats 8000000 in
set_option maxRecDepth 100000 in
theorem check_all : ∀ v, ChkSaid v := by
  refine S35.ind ?_
  intro v ih4 ih5 A4 c4 A5 c5 stream within w hw0 hw1 la4 ra4 la5 ra5
  have hu35 := Try.underlying35
  have hu89 := Try.underlying89
  have HV := Aside0.mk (chkV_eq v stream within)
  have HO := fun w => Aside0.mk (own_calls v.f0 v.f1 v.f2 v.f3 v.f4.length v.f5.length A4 c4 A5 c5 stream within w)
  have HWI := Aside0.mk (own_within (k := v.f0) (n := v.f1) (g := v.f2) (s := v.f3) (L := v.f4.length) (D := v.f5.length) (stream := stream) (within := within))
  generalize ownE v.f0 v.f1 v.f2 v.f3 v.f4.length v.f5.length stream within = e0 at HV HO HWI
  generalize chkV v stream within = res at HV ⊢
  obtain ⟨f0, f1, f2, f3, l4, l5⟩ := v
  simp only [] at *
  replace ra4 := Aside0.mk ra4
  replace ra5 := Aside0.mk ra5
  go_enter Try.func116, Try.ntmps116
  go_wp2_with fail
  go_at_call 149
  refine ((HO _).out).mono ?_
  rintro e w1 ⟨rfl, hb⟩
  have hb1 := Aside0.mk (below_step (below_alloc (Below.refl w.heap.size w) _) hb)
  have bk := Aside0.mk (blk_below (blk_new w _) hb)
  have hlt1 : w.heap.size < w1.heap.size := Nat.lt_of_lt_of_le (by simp) hb.size
  obtain ⟨x0, x1, x2, x3, x4, x5⟩ := box35 bk.out
  clear hb HO
  by_cases he : e0 = 0
  · subst he
    have hm4 := Kd.C_max ra4.out
    have hm5 := Kd.C_max ra5.out
    go_wp2
    go_loopw [25] (fun i wr => ∃ k : Nat, k ≤ l4.length ∧ i = .int .i64 k ∧ Aside0 (Below w1.heap.size w1 wr) ∧ Aside0 (chkL l4 (within + 1) = chkL (l4.drop k) (within + 1))) (fun i _ => l4.length - (intOf i).toNat)
    case atStart => exact ⟨0, Nat.zero_le _, rfl, ⟨Below.refl _ _⟩, ⟨rfl⟩⟩
    case round =>
      obtain ⟨k, hk, rfl, HB, HC⟩ := hrel
      by_cases hlt : k < l4.length
      · obtain ⟨ad, P4, p4, P5, p5, rfl, y0, y1, y2, y3, y4, y5, lp4, gp4, lp5, gp5⟩ := at35w (Kd.C_below ra4.out (below_step hb1.out HB.out)) k hlt
        have hmem : l4.getD k z35 ∈ l4 := getD_mem _ _ hlt _
        have hat := chkL_at l4 (within + 1) k hlt
        generalize hx : l4.getD k z35 = x at *
        have HX := Aside0.mk hx
        have HM := Aside0.mk hmem
        have HAT := Aside0.mk hat
        have HW := Aside0.mk (HWI.out (by first | rfl | trivial) (.inl (by omega)))
        have G := Aside0.mk (And.intro lp4 (And.intro gp4 (And.intro lp5 gp5)))
        have hwt : within + 1 ≤ 64 := by have := HW.out; omega
        clear hx hmem hat lp4 gp4 lp5 gp5
        go_wp2_with fail
        go_at_call 116
        refine (ih4 x HM.out P4 p4 P5 p5 false (within + 1) _ (by omega) hwt G.out.1 (Kd.C_alloc G.out.2.1 _) G.out.2.2.1 (Kd.C_alloc G.out.2.2.2 _)).mono ?_
        rintro e w2 ⟨rfl, hb⟩
        have HB2 := Aside0.mk (below_step (below_alloc HB.out _) hb)
        clear hb
        by_cases hv : chkV x false (within + 1) = 0
        · rw [hv]
          have HAT2 := Aside0.mk (HAT.out.trans (by rw [hv]))
          clear hv y0 y1 y2 y3 y4 y5 x0 x1 x2 x3 x4 x5
          go_wp2
          refine ⟨⟨k + 1, by omega, by go_num, HB2, ⟨HC.out.trans HAT2.out⟩⟩, by simp [intOf]; omega⟩
        · have hres := Aside0.mk (show res = chkV x false (within + 1) by
            have h := HV.out
            have h2 : chkL l4 (within + 1) = chkV x false (within + 1) := by rw [HC.out, HAT.out, if_pos hv]
            rw [if_neg (by omega), h2, if_pos hv] at h
            exact h)
          generalize chkV x false (within + 1) = ev at *
          clear y0 y1 y2 y3 y4 y5 x0 x1 x2 x3 x4 x5
          go_wp2
          go_ret
          exact ⟨ret_i hres.out.symm, below_step hb1.out HB2.out⟩
      · have hL : chkL l4 (within + 1) = 0 := by rw [HC.out, List.drop_of_length_le (by omega), chkL]
        have hR := Aside0.mk (show res = chkD [] l5 (within + 1) by
          have h := HV.out
          rw [if_neg (by omega), if_neg (by omega)] at h
          exact h)
        have HL := Aside0.mk hL
        have bk1 := Aside0.mk (blk_below bk.out HB.out)
        have hb2 := Aside0.mk (below_step hb1.out HB.out)
        clear hL HV HC HB x0 x1 x2 x3 x4 x5
        have bk2 := Aside0.mk (blk_alloc bk1.out (.map #[] 0))
        obtain ⟨x0, x1, x2, x3, x4, x5⟩ := box35 bk2.out
        have hmm := @run_makeMap Try.prog
        go_wp2
        have hS := Aside0.mk (Seen.start wr)
        have hb3 := Aside0.mk (below_alloc hb2.out (.map #[] 0))
        have hbl : w.heap.size ≤ wr.heap.size := hb2.out.size
        generalize wr.alloc (.map #[] 0) = w3 at *
        generalize wr.heap.size = b at *
        clear x0 x1 x2 x3 x4 x5 bk1 bk2 hb2 hmm
        go_loopw [41] (fun i wr => ∃ k : Nat, k ≤ l5.length ∧ i = .int .i64 k ∧ Aside0 (Below w.heap.size w wr) ∧ Aside0 (Seen wr b ((l5.take k).map (fun p => p.f0))) ∧ Aside0 (chkD [] l5 (within + 1) = chkD ((l5.take k).map (fun p => p.f0)) (l5.drop k) (within + 1))) (fun i _ => l5.length - (intOf i).toNat)
        case atStart => exact ⟨0, Nat.zero_le _, rfl, hb3, hS, ⟨rfl⟩⟩
        case round =>
          clear hb3 hS
          obtain ⟨k, hk, rfl, HB, HS, HC⟩ := hrel
          by_cases hlt : k < l5.length
          · obtain ⟨ad, P4, p4, P5, p5, rfl, y0, y1, y2, y3, y4, y5, y6, lp4, gp4, lp5, gp5⟩ := at89 ra5.out k hlt
            have y0 : wr.cell? _ = some _ := y0 ⟨wr, HB.out⟩
            have y1 : wr.cell? _ = some _ := y1 ⟨wr, HB.out⟩
            have y2 : wr.cell? _ = some _ := y2 ⟨wr, HB.out⟩
            have y3 : wr.cell? _ = some _ := y3 ⟨wr, HB.out⟩
            have y4 : wr.cell? _ = some _ := y4 ⟨wr, HB.out⟩
            have y5 : wr.cell? _ = some _ := y5 ⟨wr, HB.out⟩
            have y6 : wr.cell? _ = some _ := y6 ⟨wr, HB.out⟩
            have HM := Aside0.mk (getD_mem l5 k hlt z89)
            have HAT := Aside0.mk (chkD_at ((l5.take k).map (fun p => p.f0)) l5 (within + 1) k hlt)
            have HKS := Aside0.mk (show (l5.take (k + 1)).map (fun p => p.f0) = (l5.take k).map (fun p => p.f0) ++ [(l5.getD k z89).f0] by
              rw [List.take_succ_eq_append_getElem hlt, List.map_append, List.getD_eq_getElem?_getD, List.getElem?_eq_getElem hlt]; rfl)
            have HCP := Aside0.mk (chkP_eq ((l5.take k).map (fun p => p.f0)) (l5.getD k z89) (within + 1))
            have HKL := Aside0.mk (show ((l5.take k).map (fun p => p.f0)).length = k by simp; omega)
            generalize (l5.take k).map (fun p => p.f0) = ks at HS HC HAT HKS HCP HKL
            generalize l5.getD k z89 = x at *
            obtain ⟨xk, xv⟩ := x
            simp only [] at *
            have HW := Aside0.mk (HWI.out (by first | rfl | trivial) (.inr (by omega)))
            have G := Aside0.mk (And.intro lp4 (And.intro gp4 (And.intro lp5 gp5)))
            have hwt : within + 1 ≤ 64 := by have := HW.out; omega
            clear lp4 gp4 lp5 gp5
            have hres : ∀ c : Int, chkP ks ⟨xk, xv⟩ (within + 1) = c → c ≠ 0 → res = c := fun c h h0 => by rw [hR.out, HC.out, HAT.out, h, if_pos h0]
            have HRES := Aside0.mk hres
            clear hres
            by_cases h127 : 127 < xk.size
            · have h11 := Aside0.mk (HRES.out 11 (by rw [HCP.out, if_pos (.inl h127)]) (by omega))
              have hd : decide ((127 : Int) < (xk.size : Int)) = true := decide_eq_true (by omega)
              have hd2 : ¬ (xk.size : Int) ≤ 127 := by omega
              go_wp2
              go_ret
              exact ⟨ret_i h11.out.symm, below_alloc HB.out _⟩
            · have hd : decide ((127 : Int) < (xk.size : Int)) = false := decide_eq_false (by omega)
              have hd2 : (xk.size : Int) ≤ 127 := by omega
              cases hz : hasZero xk with
              | true =>
                have h11 := Aside0.mk (HRES.out 11 (by rw [HCP.out, if_pos (.inr (.inl hz))]) (by omega))
                have HZ := fun w => Aside0.mk (nul_to xk true hz w)
                clear hz
                go_wp2_with (go_at_call 150; refine ((HZ _).out).mono ?_; rintro e w' ⟨rfl, rfl⟩)
                go_ret
                exact ⟨ret_i h11.out.symm, below_alloc HB.out _⟩
              | false =>
                have HZ := fun w => Aside0.mk (nul_to xk false hz w)
                have NZ := Aside0.mk hz
                clear hz
                have hlook := (HS.out.below (below_alloc (Below.refl _ _) (.cells #[.string xk, .int .i64 xv.f0, .int .i64 xv.f1, .int .i64 xv.f2, .string xv.f3, .slice P4 xv.f4.length p4, .slice P5 xv.f5.length p5] 89))).look xk (by omega)
                cases hin : memK xk ks with
                | true =>
                  have h11 := Aside0.mk (HRES.out 11 (by rw [HCP.out, if_pos (.inr (.inr hin))]) (by omega))
                  rw [hin] at hlook
                  simp only [if_true] at hlook
                  clear hin
                  go_wp2_with (go_at_call 150; refine ((HZ _).out).mono ?_; rintro e w' ⟨rfl, rfl⟩)
                  go_ret
                  exact ⟨ret_i h11.out.symm, below_alloc HB.out _⟩
                | false =>
                  have NI := Aside0.mk hin
                  rw [hin] at hlook
                  simp only [Bool.false_eq_true, if_false] at hlook
                  clear hin
                  obtain ⟨D, hown, hD, h3⟩ := HS.out.below (below_alloc (Below.refl _ _) (.cells #[.string xk, .int .i64 xv.f0, .int .i64 xv.f1, .int .i64 xv.f2, .string xv.f3, .slice P4 xv.f4.length p4, .slice P5 xv.f5.length p5] 89))
                  have HD := Aside0.mk (And.intro hD h3)
                  have HOWN := Aside0.mk hown
                  clear hD h3 hown
                  have hsz := Aside0.mk HS.out.lt
                  go_wp2_with (first
                    | (go_at_call 150; refine ((HZ _).out).mono ?_; rintro e w' ⟨rfl, rfl⟩)
                    | (at_mapUpdate; refine wpList_mapUpdate_own _ rfl _ _ _ 187 rfl 9 3 kstr Try.underlying187 _ b ks.length _ rfl HOWN.out (by unfold maxLen; have := HKL.out; omega) _ _ _ rfl rfl (keyOf_string_mk (s := xk) Try.underlying9 (by unfold maxLen; omega)) _ [] (plainElem_int Try.underlying3 (by decide)) ?_))
                  intro w5 hown5 hgrow5
                  have hsz' := hsz.out
                  have bx := Aside0.mk ((hgrow5.block wr.heap.size (by simp) (by intro e; injection e with e; omega)).trans (blk_new wr _))
                  have hs5 := Aside0.mk (Seen.put xk HD.out.1 HD.out.2 hown5)
                  have hb5 := Aside0.mk ((below_alloc HB.out _).grown hgrow5 (below_alloc HB.out _).size (by intro j hj; injection hj with hj; omega))
                  clear hown5 hgrow5 y0 y1 y2 y3 y4 y5 y6
                  obtain ⟨z0, z1, z2, z3, z4, z5, z6⟩ := box7 bx.out
                  go_wp2_with fail
                  go_at_call 116
                  refine (ih5 ⟨xk, xv⟩ HM.out P4 p4 P5 p5 false (within + 1) _ (by omega) hwt G.out.1 (Kd.C_below G.out.2.1 hb5.out) G.out.2.2.1 (Kd.C_below G.out.2.2.2 hb5.out)).mono ?_
                  rintro e w6 ⟨rfl, hb⟩
                  have hb6 := Aside0.mk (below_step hb5.out hb)
                  have hs6 := Aside0.mk (hs5.out.below hb)
                  have hcp := Aside0.mk (show chkP ks ⟨xk, xv⟩ (within + 1) = chkV xv false (within + 1) by
                    rw [HCP.out, if_neg]
                    rintro (h | h | h)
                    · omega
                    · rw [NZ.out] at h; cases h
                    · rw [NI.out] at h; cases h)
                  clear hb z0 z1 z2 z3 z4 z5 z6 hlook
                  by_cases hv : chkV xv false (within + 1) = 0
                  · have hc2 := Aside0.mk (show chkD [] l5 (within + 1) = chkD (ks ++ [xk]) (l5.drop (k + 1)) (within + 1) by rw [HC.out, HAT.out, hcp.out, hv, if_neg (by omega)])
                    rw [hv]
                    clear hv
                    go_wp2
                    refine ⟨⟨k + 1, by omega, by go_num, hb6, ⟨by rw [HKS.out]; exact hs6.out⟩, ⟨by rw [HKS.out]; exact hc2.out⟩⟩, by simp [intOf]; omega⟩
                  · have hr6 := Aside0.mk (HRES.out _ hcp.out hv)
                    generalize chkV xv false (within + 1) = ev at *
                    go_wp2
                    go_ret
                    exact ⟨ret_i hr6.out.symm, hb6.out⟩
          · have h0 := Aside0.mk (show res = 0 by rw [hR.out, HC.out, List.drop_of_length_le (by omega), chkD])
            go_wp2
            go_ret
            exact ⟨ret_i h0.out.symm, HB.out⟩
  · go_wp2
    go_ret
    have h := HV.out
    rw [if_pos he] at h
    exact ⟨ret_i h.symm, hb1.out⟩
end Go.Proofs.Ytogpnkkoablmiaa.V
end
section
namespace Go.Proofs.Ytogpnkkoablmiaa.V
open Go.RowKit Go.Proofs.Ytogpnkkoablmiaa.Q Go.Proofs.YtogpnkkoablmiaaW.PrintWords Go.Proofs.YtogpnkkoablmiaaW.PrintLast Go.Proofs.YtogpnkkoablmiaaW.PrintMore
set_option linter.unusedVariables false
set_option linter.unusedSimpArgs false
open Go.Maps Go.WideMaps
mutual
/-- All texts of a value are texts that may be. -/
def szV : S35 → Prop
  | ⟨_, _, _, s, l, d⟩ => s.size ≤ 9223372036854775807 ∧ szL l ∧ szD d
def szL : List S35 → Prop
  | [] => True
  | x :: r => szV x ∧ szL r
def szD : List (P89 S35) → Prop
  | [] => True
  | p :: r => szP p ∧ szD r
def szP : P89 S35 → Prop
  | ⟨k, v⟩ => k.size ≤ 9223372036854775807 ∧ szV v
end
end Go.Proofs.Ytogpnkkoablmiaa.V
end
section
namespace Go.Proofs.Ytogpnkkoablmiaa.V
open Go.RowKit Go.Proofs.Ytogpnkkoablmiaa.Q Go.Proofs.YtogpnkkoablmiaaW.PrintWords Go.Proofs.YtogpnkkoablmiaaW.PrintLast Go.Proofs.YtogpnkkoablmiaaW.PrintMore
set_option linter.unusedVariables false
set_option linter.unusedSimpArgs false
theorem box7p {w : World} {b T : Nat} {c0 c1 c2 c3 c4 c5 c6 : Value} (h : w.heap[b]? = some (.cells #[c0, c1, c2, c3, c4, c5, c6] T (0, 0))) : w.cell? ⟨b, 0, none⟩ = some c0 ∧ w.cell? ⟨b, 1, none⟩ = some c1 ∧ w.cell? ⟨b, 2, none⟩ = some c2 ∧ w.cell? ⟨b, 3, none⟩ = some c3 ∧ w.cell? ⟨b, 4, none⟩ = some c4 ∧ w.cell? ⟨b, 5, none⟩ = some c5 ∧ w.cell? ⟨b, 6, none⟩ = some c6 := by
  refine ⟨?_, ?_, ?_, ?_, ?_, ?_, ?_⟩ <;> (rw [cell_of_row w b _ _ _ _ h]; rfl)
def ltK (a b : ByteArray) : Bool := Op.bytesLess a.toList b.toList
def insB : List S89 → S89 → List S89
  | [], p => [p]
  | x :: r, p => if ltK p.f0 x.f0 = true then p :: x :: r else x :: insB r p
def anyLt (xs : List S89) (p : S89) : Bool := xs.any (fun x => ltK p.f0 x.f0)
def anyEq (xs : List S89) (p : S89) : Bool := xs.any (fun x => decide (x.f0.data = p.f0.data))
def rput (d : List S89) (p : S89) : List S89 := if anyEq d p = true then d else insB d p
theorem insB_end (p : S89) : ∀ xs : List S89, anyLt xs p = false → insB xs p = xs ++ [p]
  | [], _ => rfl
  | y :: r, h => by
    simp only [anyLt, List.any_cons, Bool.or_eq_false_iff] at h
    rw [insB, if_neg (by rw [h.1]; decide), insB_end p r h.2]
    rfl
theorem insB_len (p : S89) : ∀ xs : List S89, (insB xs p).length = xs.length + 1
  | [] => rfl
  | y :: r => by simp only [insB]; split <;> simp [insB_len p r]
theorem cells7 {w wq : World} {g o : Nat} {c0 c1 c2 c3 c4 c5 c6 : Value} (h : w.cell? ⟨g, o, none⟩ = some c0 ∧ w.cell? ⟨g, o + 1, none⟩ = some c1 ∧ w.cell? ⟨g, o + 2, none⟩ = some c2 ∧ w.cell? ⟨g, o + 3, none⟩ = some c3 ∧ w.cell? ⟨g, o + 4, none⟩ = some c4 ∧ w.cell? ⟨g, o + 5, none⟩ = some c5 ∧ w.cell? ⟨g, o + 6, none⟩ = some c6) (hb : Below w.heap.size w wq) :
    wq.cell? ⟨g, o, none⟩ = some c0 ∧ wq.cell? ⟨g, o + 1, none⟩ = some c1 ∧ wq.cell? ⟨g, o + 2, none⟩ = some c2 ∧ wq.cell? ⟨g, o + 3, none⟩ = some c3 ∧ wq.cell? ⟨g, o + 4, none⟩ = some c4 ∧ wq.cell? ⟨g, o + 5, none⟩ = some c5 ∧ wq.cell? ⟨g, o + 6, none⟩ = some c6 := by
  obtain ⟨h0, h1, h2, h3, h4, h5, h6⟩ := h
  exact ⟨past_cell h0 ⟨wq, hb⟩, past_cell h1 ⟨wq, hb⟩, past_cell h2 ⟨wq, hb⟩, past_cell h3 ⟨wq, hb⟩, past_cell h4 ⟨wq, hb⟩, past_cell h5 ⟨wq, hb⟩, past_cell h6 ⟨wq, hb⟩⟩
end Go.Proofs.Ytogpnkkoablmiaa.V
end
section
namespace Go.Proofs.Ytogpnkkoablmiaa.V
open Go.RowKit Go.Proofs.Ytogpnkkoablmiaa.Q Go.Proofs.YtogpnkkoablmiaaW.PrintWords Go.Proofs.YtogpnkkoablmiaaW.PrintLast Go.Proofs.YtogpnkkoablmiaaW.PrintMore
set_option linter.unusedVariables false
set_option linter.unusedSimpArgs false
mutual
/-- P16.3: a value in the one form that all alike ones have. -/
def plain : S35 → S35
  | ⟨k, n, g, s, l, d⟩ =>
    if k = 1 ∨ k = 2 then ⟨k, n, 0, ⟨#[]⟩, [], []⟩ else if k = 3 ∨ k = 4 then ⟨k, 0, 0, s, [], []⟩ else if k = 5 then ⟨k, 0, 0, ⟨#[]⟩, plainL l, []⟩ else
    if k = 6 then ⟨k, 0, 0, ⟨#[]⟩, [], ((plainD d).foldl rput []).filter (fun p => decide (p.f1.f0 ≠ 0))⟩ else if k = 7 then ⟨k, n, g, ⟨#[]⟩, [], []⟩ else
    if k = 8 then ⟨k, 0, 0, s, [], ((plainD d).foldl rput []).filter (fun p => decide (p.f1.f0 ≠ 0))⟩ else z35
def plainL : List S35 → List S35
  | [] => []
  | x :: r => plain x :: plainL r
def plainD : List (P89 S35) → List (P89 S35)
  | [] => []
  | p :: r => plainP p :: plainD r
def plainP : P89 S35 → P89 S35
  | ⟨key, v⟩ => ⟨key, plain v⟩
end
theorem plainL_map : ∀ l, plainL l = l.map plain
  | [] => by rw [plainL]; rfl
  | x :: r => by rw [plainL, plainL_map r]; rfl
theorem plainP_eq (p : S89) : plainP p = ⟨p.f0, plain p.f1⟩ := by cases p; rw [plainP]
theorem plainD_map : ∀ d, plainD d = d.map (fun p => (⟨p.f0, plain p.f1⟩ : S89))
  | [] => by rw [plainD]; rfl
  | x :: r => by rw [plainD, plainD_map r, plainP_eq]; rfl
def pairsP (d : List S89) : List S89 := ((d.map (fun p => (⟨p.f0, plain p.f1⟩ : S89))).foldl rput []).filter (fun p => decide (p.f1.f0 ≠ 0))
theorem plain_eq (v : S35) : plain v = if v.f0 = 1 ∨ v.f0 = 2 then ⟨v.f0, v.f1, 0, ⟨#[]⟩, [], []⟩ else if v.f0 = 3 ∨ v.f0 = 4 then ⟨v.f0, 0, 0, v.f3, [], []⟩ else if v.f0 = 5 then ⟨v.f0, 0, 0, ⟨#[]⟩, v.f4.map plain, []⟩ else
    if v.f0 = 6 then ⟨v.f0, 0, 0, ⟨#[]⟩, [], pairsP v.f5⟩ else if v.f0 = 7 then ⟨v.f0, v.f1, v.f2, ⟨#[]⟩, [], []⟩ else if v.f0 = 8 then ⟨v.f0, 0, 0, v.f3, [], pairsP v.f5⟩ else z35 := by
  cases v; rw [plain, plainL_map, plainD_map]; rfl
mutual
/-- No list of a value is longer than that. -/
def fewV : S35 → Prop
  | ⟨_, _, _, _, l, d⟩ => l.length ≤ 90000 ∧ d.length ≤ 90000 ∧ fewL l ∧ fewD d
def fewL : List S35 → Prop
  | [] => True
  | x :: r => fewV x ∧ fewL r
def fewD : List (P89 S35) → Prop
  | [] => True
  | p :: r => fewP p ∧ fewD r
def fewP : P89 S35 → Prop
  | ⟨_, v⟩ => fewV v
end
theorem fewL_mem : ∀ {l : List S35}, fewL l → ∀ x ∈ l, fewV x := by
  intro l
  induction l with
  | nil => intro _ x hx; simp at hx
  | cons y l ih => intro h x hx; rw [fewL] at h; rcases List.mem_cons.1 hx with rfl | hx; exact h.1; exact ih h.2 x hx
theorem fewD_mem : ∀ {l : List (P89 S35)}, fewD l → ∀ p ∈ l, fewV p.f1 := by
  intro l
  induction l with
  | nil => intro _ x hx; simp at hx
  | cons y l ih => intro h x hx; rw [fewD] at h; rcases List.mem_cons.1 hx with rfl | hx; (cases x; rw [fewP] at h; exact h.1); exact ih h.2 x hx
theorem fewV_at {v : S35} (h : fewV v) : v.f4.length ≤ 90000 ∧ v.f5.length ≤ 90000 ∧ (∀ x ∈ v.f4, fewV x) ∧ (∀ p ∈ v.f5, fewV p.f1) := by
  cases v; rw [fewV] at h; exact ⟨h.1, h.2.1, fewL_mem h.2.2.1, fewD_mem h.2.2.2⟩
def PlainAt (f : Nat) (v : S35) : Prop := ∀ (A4 : Option Addr) (c4 : Nat) (A5 : Option Addr) (c5 : Nat) (w : World), fewV v → v.f4.length ≤ c4 → k35.C w A4 v.f4.length v.f4 → v.f5.length ≤ c5 → k89.C w A5 v.f5.length v.f5 →
  Calls Try.prog f #[.agg #[.int .i64 v.f0, .int .i64 v.f1, .int .i64 v.f2, .string v.f3, .slice A4 v.f4.length c4, .slice A5 v.f5.length c5]] w fun e w' => ∃ v4 v5, e = .returned (.agg #[.int .i64 (plain v).f0, .int .i64 (plain v).f1, .int .i64 (plain v).f2, .string (plain v).f3, v4, v5]) ∧
    k35.R 35 w' w.heap.size (fun _ => True) v4 (plain v).f4 ∧ k89.R 89 w' w.heap.size (fun _ => True) v5 (plain v).f5 ∧ Below w.heap.size w w'
theorem rput_len (d : List S89) (p : S89) : (rput d p).length ≤ d.length + 1 := by
  unfold rput
  split
  · omega
  · rw [insB_len]; omega
theorem pairs_len (d : List S89) : ∀ (k : Nat), ((d.take k).foldl rput []).length ≤ k := by
  intro k
  induction k with
  | zero => simp
  | succ k ih =>
    by_cases h : k < d.length
    · rw [List.take_succ_eq_append_getElem h, List.foldl_append]
      have := rput_len ((d.take k).foldl rput []) d[k]
      simp only [List.foldl_cons, List.foldl_nil]
      omega
    · rw [List.take_of_length_le (by omega)]
      rw [List.take_of_length_le (by omega)] at ih
      omega
end Go.Proofs.Ytogpnkkoablmiaa.V
end
