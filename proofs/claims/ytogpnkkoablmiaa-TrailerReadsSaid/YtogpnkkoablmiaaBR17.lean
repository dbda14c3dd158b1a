/- Parts of the proof: what the theorem reaches, put together by a program of this session. -/
import Derived.ArgAppend
import Derived.Below
import Derived.BigGuardPart
import Derived.BigQuiet
import Derived.BigRegion
import Derived.Deep.AppendLies
import Derived.Deep.CutBlock
import Derived.Deep.DeepCutAuto
import Derived.Deep.Draws
import Derived.Deep.LoopGhost
import Derived.Deep.OwnRows
import Derived.Deep.QuietTactic
import Derived.Deep.RegionHeld3
import Derived.Deep.RegionLaw
import Derived.KernelRfl
import Derived.Laws.BitsLemmas
import Derived.Laws.BytesArg
import Derived.Laws.EntriesVeiled
import Derived.Laws.IdiomCopy
import Derived.Laws.MakeOwn
import Derived.Laws.OwnMore
import Derived.Laws.Rows
import Derived.Laws.Slices
import Derived.Laws.StructEq
import Derived.Lib.AppendIntMem
import Derived.Lib.AppendStr
import Derived.Lib.Bytealg
import Derived.Lib.ConvBytes
import Derived.Lib.Hide
import Derived.Lib.OwnBridge
import Derived.Lib.SliceRun
import Derived.Maps.AppendAt
import Derived.Maps.OwnOps
import Derived.Maps.Views
import Derived.OrdersHeld
import Derived.Outline
import Derived.OwnWalk
import Derived.RowKit
import Derived.RowKit3
import Derived.Shelf.SlSortCmp.KitK
import Derived.Shelf.Spec.SlicesInsertGrow
import Derived.Sort.LotA
import Derived.Sort.WalkB12
import Derived.Sort.WalkB2
import Derived.Tactics
import Derived.Test.YtogpnkkoablmiaaProg
import Derived.WalkKit
import Derived.WalkLawsBesides
import Derived.WideLaws
import Derived.Test.YtogpnkkoablmiaaBR1
import Derived.Test.YtogpnkkoablmiaaBR2
import Derived.Test.YtogpnkkoablmiaaBR3
import Derived.Test.YtogpnkkoablmiaaBR4
import Derived.Test.YtogpnkkoablmiaaBR5
import Derived.Test.YtogpnkkoablmiaaBR6
import Derived.Test.YtogpnkkoablmiaaBR7
import Derived.Test.YtogpnkkoablmiaaBR9
import Derived.Test.YtogpnkkoablmiaaBR10
import Derived.Test.YtogpnkkoablmiaaBR11
import Derived.Test.YtogpnkkoablmiaaBR12
import Derived.Test.YtogpnkkoablmiaaBR13
import Derived.Test.YtogpnkkoablmiaaBR14
import Derived.Test.YtogpnkkoablmiaaBR15
import Derived.Test.YtogpnkkoablmiaaBR16
section
namespace Go.Proofs.Ytogpnkkoablmiaa.V
open Go.Shelf Go.RowKit Go.Lib Go.Sort Go.Proofs.Ytogpnkkoablmiaa.Q Go.Proofs.YtogpnkkoablmiaaW.PrintWords Go.Proofs.YtogpnkkoablmiaaW.PrintLast Go.Proofs.YtogpnkkoablmiaaW.PrintMore
set_option linter.unusedVariables false
set_option linter.unusedSimpArgs false
def chkT (t0 t1 t2 t3 t4 t5 : Int) : Int :=
  if ((t2 = 0 ∧ t3 = 0) ∨ ((1 ≤ t2 ∧ t2 ≤ 8388607) ∧ 0 ≤ t3 ∧ t3 ≤ 65535)) ∧ (1 ≤ t0 ∧ t0 ≤ 8388608) ∧ (-1 ≤ t1 ∧ t1 ≤ 67108864) ∧ (0 ≤ t4 ∧ t4 ≤ 67108864) ∧ 0 ≤ t5 ∧ t5 ≤ 4294967295 then 0 else 3
theorem chk_j (b : Bool) (t0 t1 t2 t3 t4 t5 : Int) : trailer_Check.j0 1 b t0 t1 t2 t3 t4 t5 = some (if b = true ∧ (1 ≤ t0 ∧ t0 ≤ 8388608) ∧ (-1 ≤ t1 ∧ t1 ≤ 67108864) ∧ (0 ≤ t4 ∧ t4 ≤ 67108864) ∧ 0 ≤ t5 ∧ t5 ≤ 4294967295 then 0 else 3) := by
  unfold trailer_Check.j0 trailer_in.f
  cases b with
  | false => simp
  | true =>
    by_cases h0 : 1 ≤ t0 ∧ t0 ≤ 8388608
    · by_cases h1 : -1 ≤ t1 ∧ t1 ≤ 67108864
      · by_cases h2 : 0 ≤ t4 ∧ t4 ≤ 67108864
        · by_cases h3 : 0 ≤ t5 ∧ t5 ≤ 4294967295
          · simp [h0, h1, h2, h3]
          · rw [if_neg (fun h => h3 h.2.2.2.2)]
            simp [h0, h1, h2]
            by_cases h4 : 0 ≤ t5 <;> simp [h4]
            omega
        · rw [if_neg (fun h => h2 h.2.2.2.1)]
          simp [h0, h1]
          by_cases h4 : 0 ≤ t4 <;> simp [h4]
          have : ¬ t4 ≤ 67108864 := by omega
          simp [this]
      · rw [if_neg (fun h => h1 h.2.2.1)]
        simp [h0]
        by_cases h4 : -1 ≤ t1 <;> simp [h4]
        have : ¬ t1 ≤ 67108864 := by omega
        simp [this]
    · rw [if_neg (fun h => h0 h.2.1)]
      by_cases h4 : 1 ≤ t0 <;> simp [h4]
      have : ¬ t0 ≤ 8388608 := by omega
      simp [this]
theorem chk_f (t0 t1 t2 t3 t4 t5 : Int) : trailer_Check.f 1 t0 t1 t2 t3 t4 t5 = some (chkT t0 t1 t2 t3 t4 t5) := by
  unfold trailer_Check.f chkT trailer_in.f
  by_cases hz : t2 = 0 ∧ t3 = 0
  · obtain ⟨rfl, rfl⟩ := hz
    simp [chk_j]
  · have hz' : ¬ ((t2 == 0 && (t3 == 0)) = true) := by simpa using hz
    rw [if_neg hz']
    by_cases h1 : 1 ≤ t2 ∧ t2 ≤ 8388607
    · by_cases h2 : 0 ≤ t3
      · simp [h1, h2, chk_j]
        congr 1
        by_cases h3 : t3 ≤ 65535 <;> simp [h3, hz]
        all_goals (intro h4 h5; exact absurd ⟨h4, h5⟩ hz)
      · simp [h1, h2, chk_j]
        intro h4 h5
        exact absurd ⟨h4, h5⟩ hz
    · have hn : ¬ ((t2 = 0 ∧ t3 = 0) ∨ ((1 ≤ t2 ∧ t2 ≤ 8388607) ∧ 0 ≤ t3 ∧ t3 ≤ 65535)) := by rintro (h | h); exact hz h; exact h1 h.1
      by_cases h4 : 1 ≤ t2
      · have : ¬ t2 ≤ 8388607 := by omega
        simp [h4, this, chk_j, hz]
        all_goals (intro h5 h6; exact absurd ⟨h5, h6⟩ hz)
      · simp [h4, chk_j]
        intro h5 h6; exact absurd ⟨h5, h6⟩ hz
theorem rchk_j (b : Bool) (t0 t1 t2 t3 t4 t5 : Int) : binderyref24_Check.j0 1 b t0 t1 t2 t3 t4 t5 = some (if b = true ∧ (1 ≤ t0 ∧ t0 ≤ 8388608) ∧ (-1 ≤ t1 ∧ t1 ≤ 67108864) ∧ (0 ≤ t4 ∧ t4 ≤ 67108864) ∧ 0 ≤ t5 ∧ t5 ≤ 4294967295 then 0 else 3) := by
  unfold binderyref24_Check.j0 binderyref24_in.f
  cases b with
  | false => simp
  | true =>
    by_cases h0 : 1 ≤ t0 ∧ t0 ≤ 8388608
    · by_cases h1 : -1 ≤ t1 ∧ t1 ≤ 67108864
      · by_cases h2 : 0 ≤ t4 ∧ t4 ≤ 67108864
        · by_cases h3 : 0 ≤ t5 ∧ t5 ≤ 4294967295
          · simp [h0, h1, h2, h3]
          · rw [if_neg (fun h => h3 h.2.2.2.2)]
            simp [h0, h1, h2]
            by_cases h4 : 0 ≤ t5 <;> simp [h4]
            omega
        · rw [if_neg (fun h => h2 h.2.2.2.1)]
          simp [h0, h1]
          by_cases h4 : 0 ≤ t4 <;> simp [h4]
          have : ¬ t4 ≤ 67108864 := by omega
          simp [this]
      · rw [if_neg (fun h => h1 h.2.2.1)]
        simp [h0]
        by_cases h4 : -1 ≤ t1 <;> simp [h4]
        have : ¬ t1 ≤ 67108864 := by omega
        simp [this]
    · rw [if_neg (fun h => h0 h.2.1)]
      by_cases h4 : 1 ≤ t0 <;> simp [h4]
      have : ¬ t0 ≤ 8388608 := by omega
      simp [this]
theorem rchk_f (t0 t1 t2 t3 t4 t5 : Int) : binderyref24_Check.f 1 t0 t1 t2 t3 t4 t5 = some (chkT t0 t1 t2 t3 t4 t5) := by
  unfold binderyref24_Check.f chkT binderyref24_in.f
  by_cases h2 : t2 = 0
  · subst h2
    by_cases h3 : t3 = 0
    · subst h3
      simp [rchk_j]
    · simp [h3, rchk_j]
  · rw [if_neg h2]
    by_cases h1 : 1 ≤ t2 ∧ t2 ≤ 8388607
    · by_cases h4 : 0 ≤ t3
      · simp [h1, h4, rchk_j, h2]
      · simp [h1, h4, rchk_j, h2]
    · by_cases h4 : 1 ≤ t2
      · have : ¬ t2 ≤ 8388607 := by omega
        simp [h4, this, rchk_j, h2]
      · simp [h4, rchk_j, h2]
def erT (e : Int) : Int × Int × Int × Int × Int × Int × Int := (0, 0, 0, 0, 0, 0, e)
def ofB (x1 x2 x3 x4 x5 : S35) (b1 b2 b3 b4 b5 : Bool) : Int × Int × Int × Int × Int × Int × Int :=
  if b1 = false then erT 11 else if ¬ (x1.f0 = 4 ∧ x1.f3.size = 4) then erT 10 else
  if b2 = false then erT 11 else if x2.f0 ≠ 2 then erT 10 else
  if b3 = true ∧ x3.f0 ≠ 2 then erT 10 else if b4 = true ∧ x4.f0 ≠ 7 then erT 10 else
  if b5 = false then erT 11 else if x5.f0 ≠ 2 then erT 10 else
  if chkT x5.f1 (if b3 = true then x3.f1 else -1) x4.f1 x4.f2 x2.f1 (fl 0 (bytesOf x1.f3)) ≠ 0 then erT (chkT x5.f1 (if b3 = true then x3.f1 else -1) x4.f1 x4.f2 x2.f1 (fl 0 (bytesOf x1.f3))) else
  if b3 = true ∧ x3.f1 < 0 then erT 3 else (x5.f1, (if b3 = true then x3.f1 else -1), x4.f1, x4.f2, x2.f1, fl 0 (bytesOf x1.f3), 0)
def gk (d : List S89) (k : ByteArray) : S35 := getV ⟨6, 0, 0, ⟨#[]⟩, [], d⟩ k
def hk (d : List S89) (k : ByteArray) : Bool := hasK (plain ⟨6, 0, 0, ⟨#[]⟩, [], d⟩).f5 k
def ofS (d : List S89) : Int × Int × Int × Int × Int × Int × Int :=
  ofB (gk d ⟨#[67, 114, 99]⟩) (gk d ⟨#[76, 101, 110]⟩) (gk d ⟨#[80, 114, 101, 118]⟩) (gk d ⟨#[82, 111, 111, 116]⟩) (gk d ⟨#[83, 105, 122, 101]⟩)
    (hk d ⟨#[67, 114, 99]⟩) (hk d ⟨#[76, 101, 110]⟩) (hk d ⟨#[80, 114, 101, 118]⟩) (hk d ⟨#[82, 111, 111, 116]⟩) (hk d ⟨#[83, 105, 122, 101]⟩)
theorem box3 {w : World} {b T : Nat} {c0 c1 c2 : Value} (h : w.heap[b]? = some (.cells #[c0, c1, c2] T (0, 0))) : w.cell? ⟨b, 0, none⟩ = some c0 ∧ w.cell? ⟨b, 1, none⟩ = some c1 ∧ w.cell? ⟨b, 2, none⟩ = some c2 := by
  refine ⟨?_, ?_, ?_⟩ <;> (rw [cell_of_row w b _ _ _ _ h]; rfl)
theorem ext_all {s : ByteArray} (h : s.size = 4) : s.extract 0 (min s.size 4) = s := by
  rw [h]
  have := ByteArray.extract_zero_size (b := s)
  rw [h] at this
  exact this
theorem gk_none {d : List S89} {k : ByteArray} (h : hk d k = false) : gk d k = z35 := by
  unfold gk getV
  rw [find_none h]
theorem box15 {w : World} {b T : Nat} {c0 c1 c2 c3 c4 c5 c6 c7 c8 c9 c10 c11 c12 c13 c14 : Value} (h : w.heap[b]? = some (.cells #[c0, c1, c2, c3, c4, c5, c6, c7, c8, c9, c10, c11, c12, c13, c14] T (0, 0))) :
    (w.cell? ⟨b, 0, none⟩ = some c0 ∧ w.cell? ⟨b, 1, none⟩ = some c1 ∧ w.cell? ⟨b, 2, none⟩ = some c2) ∧ (w.cell? ⟨b, 3, none⟩ = some c3 ∧ w.cell? ⟨b, 4, none⟩ = some c4 ∧ w.cell? ⟨b, 5, none⟩ = some c5) ∧ (w.cell? ⟨b, 6, none⟩ = some c6 ∧ w.cell? ⟨b, 7, none⟩ = some c7 ∧ w.cell? ⟨b, 8, none⟩ = some c8) ∧ (w.cell? ⟨b, 9, none⟩ = some c9 ∧ w.cell? ⟨b, 10, none⟩ = some c10 ∧ w.cell? ⟨b, 11, none⟩ = some c11) ∧ (w.cell? ⟨b, 12, none⟩ = some c12 ∧ w.cell? ⟨b, 13, none⟩ = some c13 ∧ w.cell? ⟨b, 14, none⟩ = some c14) := by
  refine ⟨⟨?_, ?_, ?_⟩, ⟨?_, ?_, ?_⟩, ⟨?_, ?_, ?_⟩, ⟨?_, ?_, ?_⟩, ⟨?_, ?_, ?_⟩⟩ <;> (rw [cell_of_row w b _ _ _ _ h]; rfl)
set_option maxHeartbeats 16000000 in
set_option maxRecDepth 100000 in
theorem of_calls (d : List S89) (A : Option Addr) (c : Nat) (w : World) (fd : fewV ⟨6, 0, 0, ⟨#[]⟩, [], d⟩) (hl : d.length ≤ c) (hC : k89.C w A d.length d) :
    Calls Try.prog 46 #[.slice A d.length c] w fun e w' => e = .returned (.tuple #[.agg #[.int .i64 (ofS d).1, .int .i64 (ofS d).2.1, .int .i64 (ofS d).2.2.1, .int .i64 (ofS d).2.2.2.1, .int .i64 (ofS d).2.2.2.2.1, .int .i64 (ofS d).2.2.2.2.2.1], .int .i64 (ofS d).2.2.2.2.2.2]) ∧ RowKit.Below w.heap.size w w' := by
  have hu35 := Try.underlying35
  have hu33 := Try.underlying33
  have hu152 := Try.underlying152
  have hu150 := Try.underlying150
  have hu72 := Try.underlying72
  have hu28 := Try.underlying28
  have hu153 := Try.underlying153
  obtain ⟨res, hres⟩ : ∃ res, res = ofS d := ⟨_, rfl⟩
  rw [← hres]
  unfold ofS at hres
  have h0 : ∀ (w : World), k35.C w none ([] : List S35).length [] := fun w => ⟨rfl, by simp, fun h => absurd h (by simp)⟩
  have GA := fun (key : ByteArray) (w1 : World) (hb : RowKit.Below w.heap.size w w1) => get_calls ⟨6, 0, 0, ⟨#[]⟩, [], d⟩ key none 0 A c w1 fd (Nat.le_refl _) (h0 w1) hl (Kd.C_below hC hb)
  have HC : ∀ (t0 t1 t2 t3 t4 t5 : Int) (w : World), Calls Try.prog 42 #[.agg #[.int .i64 t0, .int .i64 t1, .int .i64 t2, .int .i64 t3, .int .i64 t4, .int .i64 t5]] w fun e w' => e = .returned (.int .i64 (chkT t0 t1 t2 t3 t4 t5)) ∧ RowKit.Below w.heap.size w w' := fun t0 t1 t2 t3 t4 t5 w => trailer_Check.calls 1 t0 t1 t2 t3 t4 t5 _ w (chk_f t0 t1 t2 t3 t4 t5)
  have HC := Aside0.mk HC
  have G1 := GA ⟨#[67, 114, 99]⟩
  change ∀ (w1 : World), RowKit.Below w.heap.size w w1 → Calls Try.prog 63 #[.agg #[.int .i64 6, .int .i64 0, .int .i64 0, .string ⟨#[]⟩, .slice none 0 0, .slice A d.length c], .string ⟨#[67, 114, 99]⟩] w1 fun e w' => ∃ v4 v5, e = .returned (.tuple #[.agg #[.int .i64 (gk d ⟨#[67, 114, 99]⟩).f0, .int .i64 (gk d ⟨#[67, 114, 99]⟩).f1, .int .i64 (gk d ⟨#[67, 114, 99]⟩).f2, .string (gk d ⟨#[67, 114, 99]⟩).f3, v4, v5], .bool (hk d ⟨#[67, 114, 99]⟩)]) ∧ k35.R 35 w' w1.heap.size (fun _ => True) v4 (gk d ⟨#[67, 114, 99]⟩).f4 ∧ k89.R 89 w' w1.heap.size (fun _ => True) v5 (gk d ⟨#[67, 114, 99]⟩).f5 ∧ RowKit.Below w1.heap.size w1 w' at G1
  generalize gk d ⟨#[67, 114, 99]⟩ = x1 at G1 hres
  generalize hk d ⟨#[67, 114, 99]⟩ = b1 at G1 hres
  have G1 := Aside0.mk G1
  have G2 := GA ⟨#[76, 101, 110]⟩
  change ∀ (w1 : World), RowKit.Below w.heap.size w w1 → Calls Try.prog 63 #[.agg #[.int .i64 6, .int .i64 0, .int .i64 0, .string ⟨#[]⟩, .slice none 0 0, .slice A d.length c], .string ⟨#[76, 101, 110]⟩] w1 fun e w' => ∃ v4 v5, e = .returned (.tuple #[.agg #[.int .i64 (gk d ⟨#[76, 101, 110]⟩).f0, .int .i64 (gk d ⟨#[76, 101, 110]⟩).f1, .int .i64 (gk d ⟨#[76, 101, 110]⟩).f2, .string (gk d ⟨#[76, 101, 110]⟩).f3, v4, v5], .bool (hk d ⟨#[76, 101, 110]⟩)]) ∧ k35.R 35 w' w1.heap.size (fun _ => True) v4 (gk d ⟨#[76, 101, 110]⟩).f4 ∧ k89.R 89 w' w1.heap.size (fun _ => True) v5 (gk d ⟨#[76, 101, 110]⟩).f5 ∧ RowKit.Below w1.heap.size w1 w' at G2
  generalize gk d ⟨#[76, 101, 110]⟩ = x2 at G2 hres
  generalize hk d ⟨#[76, 101, 110]⟩ = b2 at G2 hres
  have G2 := Aside0.mk G2
  have G3 := GA ⟨#[80, 114, 101, 118]⟩
  change ∀ (w1 : World), RowKit.Below w.heap.size w w1 → Calls Try.prog 63 #[.agg #[.int .i64 6, .int .i64 0, .int .i64 0, .string ⟨#[]⟩, .slice none 0 0, .slice A d.length c], .string ⟨#[80, 114, 101, 118]⟩] w1 fun e w' => ∃ v4 v5, e = .returned (.tuple #[.agg #[.int .i64 (gk d ⟨#[80, 114, 101, 118]⟩).f0, .int .i64 (gk d ⟨#[80, 114, 101, 118]⟩).f1, .int .i64 (gk d ⟨#[80, 114, 101, 118]⟩).f2, .string (gk d ⟨#[80, 114, 101, 118]⟩).f3, v4, v5], .bool (hk d ⟨#[80, 114, 101, 118]⟩)]) ∧ k35.R 35 w' w1.heap.size (fun _ => True) v4 (gk d ⟨#[80, 114, 101, 118]⟩).f4 ∧ k89.R 89 w' w1.heap.size (fun _ => True) v5 (gk d ⟨#[80, 114, 101, 118]⟩).f5 ∧ RowKit.Below w1.heap.size w1 w' at G3
  generalize gk d ⟨#[80, 114, 101, 118]⟩ = x3 at G3 hres
  generalize hk d ⟨#[80, 114, 101, 118]⟩ = b3 at G3 hres
  have G3 := Aside0.mk G3
  have G4 := GA ⟨#[82, 111, 111, 116]⟩
  change ∀ (w1 : World), RowKit.Below w.heap.size w w1 → Calls Try.prog 63 #[.agg #[.int .i64 6, .int .i64 0, .int .i64 0, .string ⟨#[]⟩, .slice none 0 0, .slice A d.length c], .string ⟨#[82, 111, 111, 116]⟩] w1 fun e w' => ∃ v4 v5, e = .returned (.tuple #[.agg #[.int .i64 (gk d ⟨#[82, 111, 111, 116]⟩).f0, .int .i64 (gk d ⟨#[82, 111, 111, 116]⟩).f1, .int .i64 (gk d ⟨#[82, 111, 111, 116]⟩).f2, .string (gk d ⟨#[82, 111, 111, 116]⟩).f3, v4, v5], .bool (hk d ⟨#[82, 111, 111, 116]⟩)]) ∧ k35.R 35 w' w1.heap.size (fun _ => True) v4 (gk d ⟨#[82, 111, 111, 116]⟩).f4 ∧ k89.R 89 w' w1.heap.size (fun _ => True) v5 (gk d ⟨#[82, 111, 111, 116]⟩).f5 ∧ RowKit.Below w1.heap.size w1 w' at G4
  have Z4 : hk d ⟨#[82, 111, 111, 116]⟩ = true ∨ gk d ⟨#[82, 111, 111, 116]⟩ = z35 := by
    cases h : hk d ⟨#[82, 111, 111, 116]⟩ with
    | true => exact .inl rfl
    | false => exact .inr (gk_none h)
  generalize gk d ⟨#[82, 111, 111, 116]⟩ = x4 at G4 hres Z4
  generalize hk d ⟨#[82, 111, 111, 116]⟩ = b4 at G4 hres Z4
  have G4 := Aside0.mk G4
  have G5 := GA ⟨#[83, 105, 122, 101]⟩
  change ∀ (w1 : World), RowKit.Below w.heap.size w w1 → Calls Try.prog 63 #[.agg #[.int .i64 6, .int .i64 0, .int .i64 0, .string ⟨#[]⟩, .slice none 0 0, .slice A d.length c], .string ⟨#[83, 105, 122, 101]⟩] w1 fun e w' => ∃ v4 v5, e = .returned (.tuple #[.agg #[.int .i64 (gk d ⟨#[83, 105, 122, 101]⟩).f0, .int .i64 (gk d ⟨#[83, 105, 122, 101]⟩).f1, .int .i64 (gk d ⟨#[83, 105, 122, 101]⟩).f2, .string (gk d ⟨#[83, 105, 122, 101]⟩).f3, v4, v5], .bool (hk d ⟨#[83, 105, 122, 101]⟩)]) ∧ k35.R 35 w' w1.heap.size (fun _ => True) v4 (gk d ⟨#[83, 105, 122, 101]⟩).f4 ∧ k89.R 89 w' w1.heap.size (fun _ => True) v5 (gk d ⟨#[83, 105, 122, 101]⟩).f5 ∧ RowKit.Below w1.heap.size w1 w' at G5
  generalize gk d ⟨#[83, 105, 122, 101]⟩ = x5 at G5 hres
  generalize hk d ⟨#[83, 105, 122, 101]⟩ = b5 at G5 hres
  have G5 := Aside0.mk G5
  have HR := Aside0.mk hres
  have Z4 := Aside0.mk Z4
  clear fd hl hC hres h0 GA
  go_enter Try.func46, Try.ntmps46
  go_wp2_with fail
  have BZ := Aside0.mk (blk_alloc (blk_alloc (blk_new w (.cells #[.int .i64 0, .int .i64 0, .int .i64 0, .int .i64 0, .int .i64 0, .int .i64 0] 72)) (.cells #[.int .i64 0, .int .i64 (-1), .int .i64 0, .int .i64 0, .int .i64 0, .int .i64 0, .bool false] 150)) (.cells #[.string ⟨#[67, 114, 99]⟩, .bool true, .func (Fn.func 106) #[.pointer (some ⟨w.heap.size + 1, 0, none⟩)] #[], .string ⟨#[76, 101, 110]⟩, .bool true, .func (Fn.func 107) #[.pointer (some ⟨w.heap.size + 1, 0, none⟩)] #[], .string ⟨#[80, 114, 101, 118]⟩, .bool false, .func (Fn.func 108) #[.pointer (some ⟨w.heap.size + 1, 0, none⟩)] #[], .string ⟨#[82, 111, 111, 116]⟩, .bool false, .func (Fn.func 109) #[.pointer (some ⟨w.heap.size + 1, 0, none⟩)] #[], .string ⟨#[83, 105, 122, 101]⟩, .bool true, .func (Fn.func 110) #[.pointer (some ⟨w.heap.size + 1, 0, none⟩)] #[]] 152))
  have BT := Aside0.mk (blk_alloc (blk_new (w.alloc (.cells #[.int .i64 0, .int .i64 0, .int .i64 0, .int .i64 0, .int .i64 0, .int .i64 0] 72)) (.cells #[.int .i64 0, .int .i64 (-1), .int .i64 0, .int .i64 0, .int .i64 0, .int .i64 0, .bool false] 150)) (.cells #[.string ⟨#[67, 114, 99]⟩, .bool true, .func (Fn.func 106) #[.pointer (some ⟨w.heap.size + 1, 0, none⟩)] #[], .string ⟨#[76, 101, 110]⟩, .bool true, .func (Fn.func 107) #[.pointer (some ⟨w.heap.size + 1, 0, none⟩)] #[], .string ⟨#[80, 114, 101, 118]⟩, .bool false, .func (Fn.func 108) #[.pointer (some ⟨w.heap.size + 1, 0, none⟩)] #[], .string ⟨#[82, 111, 111, 116]⟩, .bool false, .func (Fn.func 109) #[.pointer (some ⟨w.heap.size + 1, 0, none⟩)] #[], .string ⟨#[83, 105, 122, 101]⟩, .bool true, .func (Fn.func 110) #[.pointer (some ⟨w.heap.size + 1, 0, none⟩)] #[]] 152))
  have BR := Aside0.mk (blk_new ((w.alloc (.cells #[.int .i64 0, .int .i64 0, .int .i64 0, .int .i64 0, .int .i64 0, .int .i64 0] 72)).alloc (.cells #[.int .i64 0, .int .i64 (-1), .int .i64 0, .int .i64 0, .int .i64 0, .int .i64 0, .bool false] 150)) (.cells #[.string ⟨#[67, 114, 99]⟩, .bool true, .func (Fn.func 106) #[.pointer (some ⟨w.heap.size + 1, 0, none⟩)] #[], .string ⟨#[76, 101, 110]⟩, .bool true, .func (Fn.func 107) #[.pointer (some ⟨w.heap.size + 1, 0, none⟩)] #[], .string ⟨#[80, 114, 101, 118]⟩, .bool false, .func (Fn.func 108) #[.pointer (some ⟨w.heap.size + 1, 0, none⟩)] #[], .string ⟨#[82, 111, 111, 116]⟩, .bool false, .func (Fn.func 109) #[.pointer (some ⟨w.heap.size + 1, 0, none⟩)] #[], .string ⟨#[83, 105, 122, 101]⟩, .bool true, .func (Fn.func 110) #[.pointer (some ⟨w.heap.size + 1, 0, none⟩)] #[]] 152))
  have HB := Aside0.mk (below_alloc (below_alloc (below_alloc (RowKit.Below.refl w.heap.size w) (.cells #[.int .i64 0, .int .i64 0, .int .i64 0, .int .i64 0, .int .i64 0, .int .i64 0] 72)) (.cells #[.int .i64 0, .int .i64 (-1), .int .i64 0, .int .i64 0, .int .i64 0, .int .i64 0, .bool false] 150)) (.cells #[.string ⟨#[67, 114, 99]⟩, .bool true, .func (Fn.func 106) #[.pointer (some ⟨w.heap.size + 1, 0, none⟩)] #[], .string ⟨#[76, 101, 110]⟩, .bool true, .func (Fn.func 107) #[.pointer (some ⟨w.heap.size + 1, 0, none⟩)] #[], .string ⟨#[80, 114, 101, 118]⟩, .bool false, .func (Fn.func 108) #[.pointer (some ⟨w.heap.size + 1, 0, none⟩)] #[], .string ⟨#[82, 111, 111, 116]⟩, .bool false, .func (Fn.func 109) #[.pointer (some ⟨w.heap.size + 1, 0, none⟩)] #[], .string ⟨#[83, 105, 122, 101]⟩, .bool true, .func (Fn.func 110) #[.pointer (some ⟨w.heap.size + 1, 0, none⟩)] #[]] 152))
  have hs2 : w.heap.size + 1 + 1 < (((w.alloc (.cells #[.int .i64 0, .int .i64 0, .int .i64 0, .int .i64 0, .int .i64 0, .int .i64 0] 72)).alloc (.cells #[.int .i64 0, .int .i64 (-1), .int .i64 0, .int .i64 0, .int .i64 0, .int .i64 0, .bool false] 150)).alloc (.cells #[.string ⟨#[67, 114, 99]⟩, .bool true, .func (Fn.func 106) #[.pointer (some ⟨w.heap.size + 1, 0, none⟩)] #[], .string ⟨#[76, 101, 110]⟩, .bool true, .func (Fn.func 107) #[.pointer (some ⟨w.heap.size + 1, 0, none⟩)] #[], .string ⟨#[80, 114, 101, 118]⟩, .bool false, .func (Fn.func 108) #[.pointer (some ⟨w.heap.size + 1, 0, none⟩)] #[], .string ⟨#[82, 111, 111, 116]⟩, .bool false, .func (Fn.func 109) #[.pointer (some ⟨w.heap.size + 1, 0, none⟩)] #[], .string ⟨#[83, 105, 122, 101]⟩, .bool true, .func (Fn.func 110) #[.pointer (some ⟨w.heap.size + 1, 0, none⟩)] #[]] 152)).heap.size := by simp only [World.size_alloc]; omega
  simp only [World.size_alloc] at BZ BT BR
  generalize ((w.alloc (.cells #[.int .i64 0, .int .i64 0, .int .i64 0, .int .i64 0, .int .i64 0, .int .i64 0] 72)).alloc (.cells #[.int .i64 0, .int .i64 (-1), .int .i64 0, .int .i64 0, .int .i64 0, .int .i64 0, .bool false] 150)).alloc (.cells #[.string ⟨#[67, 114, 99]⟩, .bool true, .func (Fn.func 106) #[.pointer (some ⟨w.heap.size + 1, 0, none⟩)] #[], .string ⟨#[76, 101, 110]⟩, .bool true, .func (Fn.func 107) #[.pointer (some ⟨w.heap.size + 1, 0, none⟩)] #[], .string ⟨#[80, 114, 101, 118]⟩, .bool false, .func (Fn.func 108) #[.pointer (some ⟨w.heap.size + 1, 0, none⟩)] #[], .string ⟨#[82, 111, 111, 116]⟩, .bool false, .func (Fn.func 109) #[.pointer (some ⟨w.heap.size + 1, 0, none⟩)] #[], .string ⟨#[83, 105, 122, 101]⟩, .bool true, .func (Fn.func 110) #[.pointer (some ⟨w.heap.size + 1, 0, none⟩)] #[]] 152) = W0 at *
  have hs0 : w.heap.size < W0.heap.size := by omega
  have hs1 : w.heap.size + 1 < W0.heap.size := by omega
  refine wp_loop_rounds 6 ?_
  obtain ⟨⟨q0, q1, q2⟩, ⟨q3, q4, q5⟩, ⟨q6, q7, q8⟩, ⟨q9, q10, q11⟩, ⟨q12, q13, q14⟩⟩ := box15 BR.out
  rw [rounds_succ]
  go_wp2_with fail
  refine Calls.mono (G1.out _ (below_alloc HB.out (.cells #[.string ⟨#[67, 114, 99]⟩, .bool true, .func (Fn.func 106) #[.pointer (some ⟨w.heap.size + 1, 0, none⟩)] #[]] 152))) ?_
  rintro e W1 ⟨v4, v5, rfl, r4, r5, hb⟩
  obtain ⟨a4, n4, hv4⟩ := Kd.R_slice r4
  obtain ⟨a5, n5, hv5⟩ := Kd.R_slice r5
  subst hv4
  subst hv5
  have BQ2 := Aside0.mk (blk_below (blk_new W0 (.cells #[.string ⟨#[67, 114, 99]⟩, .bool true, .func (Fn.func 106) #[.pointer (some ⟨w.heap.size + 1, 0, none⟩)] #[]] 152)) hb)
  have BZ2 := Aside0.mk (blk_below (blk_alloc BZ.out (.cells #[.string ⟨#[67, 114, 99]⟩, .bool true, .func (Fn.func 106) #[.pointer (some ⟨w.heap.size + 1, 0, none⟩)] #[]] 152)) hb)
  have BT2 := Aside0.mk (blk_below (blk_alloc BT.out (.cells #[.string ⟨#[67, 114, 99]⟩, .bool true, .func (Fn.func 106) #[.pointer (some ⟨w.heap.size + 1, 0, none⟩)] #[]] 152)) hb)
  have BR2 := Aside0.mk (blk_below (blk_alloc BR.out (.cells #[.string ⟨#[67, 114, 99]⟩, .bool true, .func (Fn.func 106) #[.pointer (some ⟨w.heap.size + 1, 0, none⟩)] #[]] 152)) hb)
  have HB2 := Aside0.mk (below_step (below_alloc HB.out (.cells #[.string ⟨#[67, 114, 99]⟩, .bool true, .func (Fn.func 106) #[.pointer (some ⟨w.heap.size + 1, 0, none⟩)] #[]] 152)) hb)
  have hz : W0.heap.size < W1.heap.size := by have h := hb.size; rw [World.size_alloc] at h; omega
  have hz0 : w.heap.size < W1.heap.size := by omega
  have hz1 : w.heap.size + 1 < W1.heap.size := by omega
  have hz2 : w.heap.size + 1 + 1 < W1.heap.size := by omega
  clear r4 r5 hb BZ BT BR HB hs0 hs1 hs2 q0 q1 q2 q3 q4 q5 q6 q7 q8 q9 q10 q11 q12 q13 q14
  obtain ⟨p0, p1, p2⟩ := box3 BQ2.out
  obtain ⟨z0, z1, z2, z3, z4, z5⟩ := box35 BZ2.out
  have y0 := frz BZ2.out (n := 0)
  have y1 := frz BZ2.out (n := 1)
  have y2 := frz BZ2.out (n := 2)
  have y3 := frz BZ2.out (n := 3)
  have y4 := frz BZ2.out (n := 4)
  have y5 := frz BZ2.out (n := 5)
  cases b1
  · go_wp2
    have BF := Aside0.mk (blk_alloc (six_set (c0 := .int .i64 0) (c1 := .int .i64 0) (c2 := .int .i64 0) (c3 := .int .i64 0) (c4 := .int .i64 0) (c5 := .int .i64 0) BZ2.out) (.cells #[.int .i64 x1.f0, .int .i64 x1.f1, .int .i64 x1.f2, .string x1.f3, .slice a4 x1.f4.length n4, .slice a5 x1.f5.length n5] 35))
    have LF := Aside0.mk (below_alloc (RowKit.Below.setCell (RowKit.Below.setCell (RowKit.Below.setCell (RowKit.Below.setCell (RowKit.Below.setCell (RowKit.Below.setCell (HB2.out) (p := ⟨w.heap.size, 0, none⟩) (Nat.le_refl _) (.int .i64 0)) (p := ⟨w.heap.size, 1, none⟩) (Nat.le_refl _) (.int .i64 0)) (p := ⟨w.heap.size, 2, none⟩) (Nat.le_refl _) (.int .i64 0)) (p := ⟨w.heap.size, 3, none⟩) (Nat.le_refl _) (.int .i64 0)) (p := ⟨w.heap.size, 4, none⟩) (Nat.le_refl _) (.int .i64 0)) (p := ⟨w.heap.size, 5, none⟩) (Nat.le_refl _) (.int .i64 0)) (.cells #[.int .i64 x1.f0, .int .i64 x1.f1, .int .i64 x1.f2, .string x1.f3, .slice a4 x1.f4.length n4, .slice a5 x1.f5.length n5] 35))
    generalize (((((((W1.setCell ⟨w.heap.size, 0, none⟩ (.int .i64 0)).setCell ⟨w.heap.size, 1, none⟩ (.int .i64 0)).setCell ⟨w.heap.size, 2, none⟩ (.int .i64 0)).setCell ⟨w.heap.size, 3, none⟩ (.int .i64 0)).setCell ⟨w.heap.size, 4, none⟩ (.int .i64 0)).setCell ⟨w.heap.size, 5, none⟩ (.int .i64 0))).alloc (.cells #[.int .i64 x1.f0, .int .i64 x1.f1, .int .i64 x1.f2, .string x1.f3, .slice a4 x1.f4.length n4, .slice a5 x1.f5.length n5] 35) = WF at *
    obtain ⟨o0, o1, o2, o3, o4, o5⟩ := box35 BF.out
    obtain rfl : res = (0, 0, 0, 0, 0, 0, 11) := by rw [HR.out]; unfold ofB; rw [if_pos rfl]; try rfl
    exact bodyPost_ret (v := .tuple #[.agg #[.int .i64 0, .int .i64 0, .int .i64 0, .int .i64 0, .int .i64 0, .int .i64 0], .int .i64 11]) (by simp [results, Try.results46, go_sem, o0, o1, o2, o3, o4, o5]) rfl ⟨rfl, LF.out⟩
  go_wp2_with fail
  obtain ⟨kb, hkb⟩ : ∃ kb, kb = (x1.f0 == 4 && decide (x1.f3.size = 4)) := ⟨_, rfl⟩
  have S := sum_calls x1 a4 n4 a5 n5 (w.heap.size + 1) (0) (-1) (0) (0) (0) (0) (false) _ (blk_alloc BT2.out (.cells #[.int .i64 x1.f0, .int .i64 x1.f1, .int .i64 x1.f2, .string x1.f3, .slice a4 x1.f4.length n4, .slice a5 x1.f5.length n5] 35))
  rw [← hkb] at S
  refine Calls.mono S ?_
  rintro e V1 ⟨rfl, hT, hCg⟩
  have hy : W1.heap.size < V1.heap.size := by have h := hCg.2.1; rw [World.size_alloc] at h; omega
  have hs0 : w.heap.size < V1.heap.size := by omega
  have hs1 : w.heap.size + 1 < V1.heap.size := by omega
  have hs2 : w.heap.size + 1 + 1 < V1.heap.size := by omega
  have BT := Aside0.mk hT
  have BZ := Aside0.mk ((hCg.2.2 w.heap.size (by rw [World.size_alloc]; omega) (by omega)).trans (blk_alloc BZ2.out (.cells #[.int .i64 x1.f0, .int .i64 x1.f1, .int .i64 x1.f2, .string x1.f3, .slice a4 x1.f4.length n4, .slice a5 x1.f5.length n5] 35)))
  have BR := Aside0.mk ((hCg.2.2 (w.heap.size + 1 + 1) (by rw [World.size_alloc]; omega) (by omega)).trans (blk_alloc BR2.out (.cells #[.int .i64 x1.f0, .int .i64 x1.f1, .int .i64 x1.f2, .string x1.f3, .slice a4 x1.f4.length n4, .slice a5 x1.f5.length n5] 35)))
  have HB := Aside0.mk ((below_alloc HB2.out (.cells #[.int .i64 x1.f0, .int .i64 x1.f1, .int .i64 x1.f2, .string x1.f3, .slice a4 x1.f4.length n4, .slice a5 x1.f5.length n5] 35)).trans (hCg.1 w.heap.size (by omega) (by rw [World.size_alloc]; omega)))
  have HK := Aside0.mk hkb
  clear S hT hCg hkb BT2 BZ2 BR2 HB2 BQ2 hz hz0 hz1 hz2 p0 p1 p2 z0 z1 z2 z3 z4 z5 y0 y1 y2 y3 y4 y5
  obtain ⟨z0, z1, z2, z3, z4, z5⟩ := box35 BZ.out
  have y0 := frz BZ.out (n := 0)
  have y1 := frz BZ.out (n := 1)
  have y2 := frz BZ.out (n := 2)
  have y3 := frz BZ.out (n := 3)
  have y4 := frz BZ.out (n := 4)
  have y5 := frz BZ.out (n := 5)
  cases kb
  · go_wp2
    have BF := Aside0.mk (six_set (c0 := .int .i64 0) (c1 := .int .i64 0) (c2 := .int .i64 0) (c3 := .int .i64 0) (c4 := .int .i64 0) (c5 := .int .i64 0) BZ.out)
    have LF := Aside0.mk (RowKit.Below.setCell (RowKit.Below.setCell (RowKit.Below.setCell (RowKit.Below.setCell (RowKit.Below.setCell (RowKit.Below.setCell (HB.out) (p := ⟨w.heap.size, 0, none⟩) (Nat.le_refl _) (.int .i64 0)) (p := ⟨w.heap.size, 1, none⟩) (Nat.le_refl _) (.int .i64 0)) (p := ⟨w.heap.size, 2, none⟩) (Nat.le_refl _) (.int .i64 0)) (p := ⟨w.heap.size, 3, none⟩) (Nat.le_refl _) (.int .i64 0)) (p := ⟨w.heap.size, 4, none⟩) (Nat.le_refl _) (.int .i64 0)) (p := ⟨w.heap.size, 5, none⟩) (Nat.le_refl _) (.int .i64 0))
    generalize ((((((V1.setCell ⟨w.heap.size, 0, none⟩ (.int .i64 0)).setCell ⟨w.heap.size, 1, none⟩ (.int .i64 0)).setCell ⟨w.heap.size, 2, none⟩ (.int .i64 0)).setCell ⟨w.heap.size, 3, none⟩ (.int .i64 0)).setCell ⟨w.heap.size, 4, none⟩ (.int .i64 0)).setCell ⟨w.heap.size, 5, none⟩ (.int .i64 0)) = WF at *
    obtain ⟨o0, o1, o2, o3, o4, o5⟩ := box35 BF.out
    obtain rfl : res = (0, 0, 0, 0, 0, 0, 10) := by rw [HR.out]; unfold ofB; rw [if_neg (fun h => by cases h), if_pos (by intro h; have h2 := HK.out; simp [h.1, h.2] at h2)]; try rfl
    exact bodyPost_ret (v := .tuple #[.agg #[.int .i64 0, .int .i64 0, .int .i64 0, .int .i64 0, .int .i64 0, .int .i64 0], .int .i64 10]) (by simp [results, Try.results46, go_sem, o0, o1, o2, o3, o4, o5]) rfl ⟨rfl, LF.out⟩
  clear z0 z1 z2 z3 z4 z5 y0 y1 y2 y3 y4 y5
  have hK1 : x1.f0 = 4 ∧ x1.f3.size = 4 := by simpa using HK.out.symm
  have hcr : x1.f3.extract 0 (min x1.f3.size 4) = x1.f3 := ext_all hK1.2
  obtain ⟨cr, hcr2⟩ : ∃ cr, cr = fl 0 (bytesOf x1.f3) := ⟨_, rfl⟩
  rw [hcr, ← hcr2] at BT
  have K1 := Aside0.mk hK1
  have C1 := Aside0.mk hcr2
  clear HK hK1 hcr hcr2
  go_wp2_with fail
  obtain ⟨⟨q0, q1, q2⟩, ⟨q3, q4, q5⟩, ⟨q6, q7, q8⟩, ⟨q9, q10, q11⟩, ⟨q12, q13, q14⟩⟩ := box15 BR.out
  rw [rounds_succ]
  go_wp2_with fail
  refine Calls.mono (G2.out _ (below_alloc HB.out (.cells #[.string ⟨#[76, 101, 110]⟩, .bool true, .func (Fn.func 107) #[.pointer (some ⟨w.heap.size + 1, 0, none⟩)] #[]] 152))) ?_
  rintro e W2 ⟨v4, v5, rfl, r4, r5, hb⟩
  obtain ⟨a4, n4, hv4⟩ := Kd.R_slice r4
  obtain ⟨a5, n5, hv5⟩ := Kd.R_slice r5
  subst hv4
  subst hv5
  have BQ2 := Aside0.mk (blk_below (blk_new V1 (.cells #[.string ⟨#[76, 101, 110]⟩, .bool true, .func (Fn.func 107) #[.pointer (some ⟨w.heap.size + 1, 0, none⟩)] #[]] 152)) hb)
  have BZ2 := Aside0.mk (blk_below (blk_alloc BZ.out (.cells #[.string ⟨#[76, 101, 110]⟩, .bool true, .func (Fn.func 107) #[.pointer (some ⟨w.heap.size + 1, 0, none⟩)] #[]] 152)) hb)
  have BT2 := Aside0.mk (blk_below (blk_alloc BT.out (.cells #[.string ⟨#[76, 101, 110]⟩, .bool true, .func (Fn.func 107) #[.pointer (some ⟨w.heap.size + 1, 0, none⟩)] #[]] 152)) hb)
  have BR2 := Aside0.mk (blk_below (blk_alloc BR.out (.cells #[.string ⟨#[76, 101, 110]⟩, .bool true, .func (Fn.func 107) #[.pointer (some ⟨w.heap.size + 1, 0, none⟩)] #[]] 152)) hb)
  have HB2 := Aside0.mk (below_step (below_alloc HB.out (.cells #[.string ⟨#[76, 101, 110]⟩, .bool true, .func (Fn.func 107) #[.pointer (some ⟨w.heap.size + 1, 0, none⟩)] #[]] 152)) hb)
  have hz : V1.heap.size < W2.heap.size := by have h := hb.size; rw [World.size_alloc] at h; omega
  have hz0 : w.heap.size < W2.heap.size := by omega
  have hz1 : w.heap.size + 1 < W2.heap.size := by omega
  have hz2 : w.heap.size + 1 + 1 < W2.heap.size := by omega
  clear r4 r5 hb BZ BT BR HB hs0 hs1 hs2 q0 q1 q2 q3 q4 q5 q6 q7 q8 q9 q10 q11 q12 q13 q14
  obtain ⟨p0, p1, p2⟩ := box3 BQ2.out
  obtain ⟨z0, z1, z2, z3, z4, z5⟩ := box35 BZ2.out
  have y0 := frz BZ2.out (n := 0)
  have y1 := frz BZ2.out (n := 1)
  have y2 := frz BZ2.out (n := 2)
  have y3 := frz BZ2.out (n := 3)
  have y4 := frz BZ2.out (n := 4)
  have y5 := frz BZ2.out (n := 5)
  cases b2
  · go_wp2
    have BF := Aside0.mk (blk_alloc (six_set (c0 := .int .i64 0) (c1 := .int .i64 0) (c2 := .int .i64 0) (c3 := .int .i64 0) (c4 := .int .i64 0) (c5 := .int .i64 0) BZ2.out) (.cells #[.int .i64 x2.f0, .int .i64 x2.f1, .int .i64 x2.f2, .string x2.f3, .slice a4 x2.f4.length n4, .slice a5 x2.f5.length n5] 35))
    have LF := Aside0.mk (below_alloc (RowKit.Below.setCell (RowKit.Below.setCell (RowKit.Below.setCell (RowKit.Below.setCell (RowKit.Below.setCell (RowKit.Below.setCell (HB2.out) (p := ⟨w.heap.size, 0, none⟩) (Nat.le_refl _) (.int .i64 0)) (p := ⟨w.heap.size, 1, none⟩) (Nat.le_refl _) (.int .i64 0)) (p := ⟨w.heap.size, 2, none⟩) (Nat.le_refl _) (.int .i64 0)) (p := ⟨w.heap.size, 3, none⟩) (Nat.le_refl _) (.int .i64 0)) (p := ⟨w.heap.size, 4, none⟩) (Nat.le_refl _) (.int .i64 0)) (p := ⟨w.heap.size, 5, none⟩) (Nat.le_refl _) (.int .i64 0)) (.cells #[.int .i64 x2.f0, .int .i64 x2.f1, .int .i64 x2.f2, .string x2.f3, .slice a4 x2.f4.length n4, .slice a5 x2.f5.length n5] 35))
    generalize (((((((W2.setCell ⟨w.heap.size, 0, none⟩ (.int .i64 0)).setCell ⟨w.heap.size, 1, none⟩ (.int .i64 0)).setCell ⟨w.heap.size, 2, none⟩ (.int .i64 0)).setCell ⟨w.heap.size, 3, none⟩ (.int .i64 0)).setCell ⟨w.heap.size, 4, none⟩ (.int .i64 0)).setCell ⟨w.heap.size, 5, none⟩ (.int .i64 0))).alloc (.cells #[.int .i64 x2.f0, .int .i64 x2.f1, .int .i64 x2.f2, .string x2.f3, .slice a4 x2.f4.length n4, .slice a5 x2.f5.length n5] 35) = WF at *
    obtain ⟨o0, o1, o2, o3, o4, o5⟩ := box35 BF.out
    obtain rfl : res = (0, 0, 0, 0, 0, 0, 11) := by rw [HR.out]; unfold ofB; rw [if_neg (fun h => by cases h), if_neg (fun h => h K1.out), if_pos rfl]; try rfl
    exact bodyPost_ret (v := .tuple #[.agg #[.int .i64 0, .int .i64 0, .int .i64 0, .int .i64 0, .int .i64 0, .int .i64 0], .int .i64 11]) (by simp [results, Try.results46, go_sem, o0, o1, o2, o3, o4, o5]) rfl ⟨rfl, LF.out⟩
  go_wp2_with fail
  obtain ⟨kb, hkb⟩ : ∃ kb, kb = (x2.f0 == 2) := ⟨_, rfl⟩
  have S := long_calls x2 a4 n4 a5 n5 (w.heap.size + 1) (0) (-1) (0) (0) (0) (cr) (false) _ (blk_alloc BT2.out (.cells #[.int .i64 x2.f0, .int .i64 x2.f1, .int .i64 x2.f2, .string x2.f3, .slice a4 x2.f4.length n4, .slice a5 x2.f5.length n5] 35))
  rw [← hkb] at S
  refine Calls.mono S ?_
  rintro e V2 ⟨rfl, hT, hCg⟩
  have hy : W2.heap.size < V2.heap.size := by have h := hCg.2.1; rw [World.size_alloc] at h; omega
  have hs0 : w.heap.size < V2.heap.size := by omega
  have hs1 : w.heap.size + 1 < V2.heap.size := by omega
  have hs2 : w.heap.size + 1 + 1 < V2.heap.size := by omega
  have BT := Aside0.mk hT
  have BZ := Aside0.mk ((hCg.2.2 w.heap.size (by rw [World.size_alloc]; omega) (by omega)).trans (blk_alloc BZ2.out (.cells #[.int .i64 x2.f0, .int .i64 x2.f1, .int .i64 x2.f2, .string x2.f3, .slice a4 x2.f4.length n4, .slice a5 x2.f5.length n5] 35)))
  have BR := Aside0.mk ((hCg.2.2 (w.heap.size + 1 + 1) (by rw [World.size_alloc]; omega) (by omega)).trans (blk_alloc BR2.out (.cells #[.int .i64 x2.f0, .int .i64 x2.f1, .int .i64 x2.f2, .string x2.f3, .slice a4 x2.f4.length n4, .slice a5 x2.f5.length n5] 35)))
  have HB := Aside0.mk ((below_alloc HB2.out (.cells #[.int .i64 x2.f0, .int .i64 x2.f1, .int .i64 x2.f2, .string x2.f3, .slice a4 x2.f4.length n4, .slice a5 x2.f5.length n5] 35)).trans (hCg.1 w.heap.size (by omega) (by rw [World.size_alloc]; omega)))
  have HK := Aside0.mk hkb
  clear S hT hCg hkb BT2 BZ2 BR2 HB2 BQ2 hz hz0 hz1 hz2 p0 p1 p2 z0 z1 z2 z3 z4 z5 y0 y1 y2 y3 y4 y5
  obtain ⟨z0, z1, z2, z3, z4, z5⟩ := box35 BZ.out
  have y0 := frz BZ.out (n := 0)
  have y1 := frz BZ.out (n := 1)
  have y2 := frz BZ.out (n := 2)
  have y3 := frz BZ.out (n := 3)
  have y4 := frz BZ.out (n := 4)
  have y5 := frz BZ.out (n := 5)
  cases kb
  · go_wp2
    have BF := Aside0.mk (six_set (c0 := .int .i64 0) (c1 := .int .i64 0) (c2 := .int .i64 0) (c3 := .int .i64 0) (c4 := .int .i64 0) (c5 := .int .i64 0) BZ.out)
    have LF := Aside0.mk (RowKit.Below.setCell (RowKit.Below.setCell (RowKit.Below.setCell (RowKit.Below.setCell (RowKit.Below.setCell (RowKit.Below.setCell (HB.out) (p := ⟨w.heap.size, 0, none⟩) (Nat.le_refl _) (.int .i64 0)) (p := ⟨w.heap.size, 1, none⟩) (Nat.le_refl _) (.int .i64 0)) (p := ⟨w.heap.size, 2, none⟩) (Nat.le_refl _) (.int .i64 0)) (p := ⟨w.heap.size, 3, none⟩) (Nat.le_refl _) (.int .i64 0)) (p := ⟨w.heap.size, 4, none⟩) (Nat.le_refl _) (.int .i64 0)) (p := ⟨w.heap.size, 5, none⟩) (Nat.le_refl _) (.int .i64 0))
    generalize ((((((V2.setCell ⟨w.heap.size, 0, none⟩ (.int .i64 0)).setCell ⟨w.heap.size, 1, none⟩ (.int .i64 0)).setCell ⟨w.heap.size, 2, none⟩ (.int .i64 0)).setCell ⟨w.heap.size, 3, none⟩ (.int .i64 0)).setCell ⟨w.heap.size, 4, none⟩ (.int .i64 0)).setCell ⟨w.heap.size, 5, none⟩ (.int .i64 0)) = WF at *
    obtain ⟨o0, o1, o2, o3, o4, o5⟩ := box35 BF.out
    obtain rfl : res = (0, 0, 0, 0, 0, 0, 10) := by rw [HR.out]; unfold ofB; rw [if_neg (fun h => by cases h), if_neg (fun h => h K1.out), if_neg (fun h => by cases h), if_pos (by intro h; have h2 := HK.out; rw [h] at h2; simp at h2)]; try rfl
    exact bodyPost_ret (v := .tuple #[.agg #[.int .i64 0, .int .i64 0, .int .i64 0, .int .i64 0, .int .i64 0, .int .i64 0], .int .i64 10]) (by simp [results, Try.results46, go_sem, o0, o1, o2, o3, o4, o5]) rfl ⟨rfl, LF.out⟩
  clear z0 z1 z2 z3 z4 z5 y0 y1 y2 y3 y4 y5
  have K2 := Aside0.mk (show x2.f0 = 2 by simpa using HK.out.symm)
  clear HK
  go_wp2_with fail
  obtain ⟨⟨q0, q1, q2⟩, ⟨q3, q4, q5⟩, ⟨q6, q7, q8⟩, ⟨q9, q10, q11⟩, ⟨q12, q13, q14⟩⟩ := box15 BR.out
  rw [rounds_succ]
  go_wp2_with fail
  refine Calls.mono (G3.out _ (below_alloc HB.out (.cells #[.string ⟨#[80, 114, 101, 118]⟩, .bool false, .func (Fn.func 108) #[.pointer (some ⟨w.heap.size + 1, 0, none⟩)] #[]] 152))) ?_
  rintro e W3 ⟨v4, v5, rfl, r4, r5, hb⟩
  obtain ⟨a4, n4, hv4⟩ := Kd.R_slice r4
  obtain ⟨a5, n5, hv5⟩ := Kd.R_slice r5
  subst hv4
  subst hv5
  have BQ2 := Aside0.mk (blk_below (blk_new V2 (.cells #[.string ⟨#[80, 114, 101, 118]⟩, .bool false, .func (Fn.func 108) #[.pointer (some ⟨w.heap.size + 1, 0, none⟩)] #[]] 152)) hb)
  have BZ2 := Aside0.mk (blk_below (blk_alloc BZ.out (.cells #[.string ⟨#[80, 114, 101, 118]⟩, .bool false, .func (Fn.func 108) #[.pointer (some ⟨w.heap.size + 1, 0, none⟩)] #[]] 152)) hb)
  have BT2 := Aside0.mk (blk_below (blk_alloc BT.out (.cells #[.string ⟨#[80, 114, 101, 118]⟩, .bool false, .func (Fn.func 108) #[.pointer (some ⟨w.heap.size + 1, 0, none⟩)] #[]] 152)) hb)
  have BR2 := Aside0.mk (blk_below (blk_alloc BR.out (.cells #[.string ⟨#[80, 114, 101, 118]⟩, .bool false, .func (Fn.func 108) #[.pointer (some ⟨w.heap.size + 1, 0, none⟩)] #[]] 152)) hb)
  have HB2 := Aside0.mk (below_step (below_alloc HB.out (.cells #[.string ⟨#[80, 114, 101, 118]⟩, .bool false, .func (Fn.func 108) #[.pointer (some ⟨w.heap.size + 1, 0, none⟩)] #[]] 152)) hb)
  have hz : V2.heap.size < W3.heap.size := by have h := hb.size; rw [World.size_alloc] at h; omega
  have hz0 : w.heap.size < W3.heap.size := by omega
  have hz1 : w.heap.size + 1 < W3.heap.size := by omega
  have hz2 : w.heap.size + 1 + 1 < W3.heap.size := by omega
  clear r4 r5 hb BZ BT BR HB hs0 hs1 hs2 q0 q1 q2 q3 q4 q5 q6 q7 q8 q9 q10 q11 q12 q13 q14
  obtain ⟨p0, p1, p2⟩ := box3 BQ2.out
  obtain ⟨z0, z1, z2, z3, z4, z5⟩ := box35 BZ2.out
  have y0 := frz BZ2.out (n := 0)
  have y1 := frz BZ2.out (n := 1)
  have y2 := frz BZ2.out (n := 2)
  have y3 := frz BZ2.out (n := 3)
  have y4 := frz BZ2.out (n := 4)
  have y5 := frz BZ2.out (n := 5)
  go_upto_region 6 with fail
  go_cut [42] (fun s wc => s = .bool false ∧ wc = W3.alloc (.cells #[.int .i64 x3.f0, .int .i64 x3.f1, .int .i64 x3.f2, .string x3.f3, .slice a4 x3.f4.length n4, .slice a5 x3.f5.length n5] 35))
  case first =>
    cases b3
    · go_wp2_with fail
      go_meet
      case rel => exact ⟨rfl, rfl⟩
    · go_wp2_with fail
      go_meet
      case rel => exact ⟨rfl, rfl⟩
  case' rest => obtain ⟨rfl, rfl⟩ := hcut
  go_upto_region 8 with fail
  go_cut [50] (fun s wc => ∃ (cb : Bool) (p : Int) (u : Bool), s = .bool cb ∧ Hid (cb = (b3 && !(x3.f0 == 2)) ∧ p = (if b3 = true then x3.f1 else -1) ∧ u = decide (b3 = true ∧ x3.f1 < 0)) ∧ Aside0 (wc.heap[w.heap.size]? = some (.cells #[.int .i64 0, .int .i64 0, .int .i64 0, .int .i64 0, .int .i64 0, .int .i64 0] 72 (0, 0))) ∧ Aside0 (wc.heap[w.heap.size + 1]? = some (.cells #[.int .i64 0, .int .i64 p, .int .i64 0, .int .i64 0, .int .i64 x2.f1, .int .i64 cr, .bool u] 150 (0, 0))) ∧ Aside0 (wc.heap[w.heap.size + 1 + 1]? = some (.cells #[.string ⟨#[67, 114, 99]⟩, .bool true, .func (Fn.func 106) #[.pointer (some ⟨w.heap.size + 1, 0, none⟩)] #[], .string ⟨#[76, 101, 110]⟩, .bool true, .func (Fn.func 107) #[.pointer (some ⟨w.heap.size + 1, 0, none⟩)] #[], .string ⟨#[80, 114, 101, 118]⟩, .bool false, .func (Fn.func 108) #[.pointer (some ⟨w.heap.size + 1, 0, none⟩)] #[], .string ⟨#[82, 111, 111, 116]⟩, .bool false, .func (Fn.func 109) #[.pointer (some ⟨w.heap.size + 1, 0, none⟩)] #[], .string ⟨#[83, 105, 122, 101]⟩, .bool true, .func (Fn.func 110) #[.pointer (some ⟨w.heap.size + 1, 0, none⟩)] #[]] 152 (0, 0))) ∧ Aside0 (RowKit.Below w.heap.size w wc) ∧ w.heap.size + 1 + 1 < wc.heap.size)
  case first =>
    cases b3
    · go_wp2_with fail
      go_meet
      case rel => exact ⟨false, -1, false, rfl, Lib.hid ⟨rfl, rfl, by simp⟩, Aside0.mk (blk_alloc BZ2.out (.cells #[.int .i64 x3.f0, .int .i64 x3.f1, .int .i64 x3.f2, .string x3.f3, .slice a4 x3.f4.length n4, .slice a5 x3.f5.length n5] 35)), Aside0.mk (blk_alloc BT2.out (.cells #[.int .i64 x3.f0, .int .i64 x3.f1, .int .i64 x3.f2, .string x3.f3, .slice a4 x3.f4.length n4, .slice a5 x3.f5.length n5] 35)), Aside0.mk (blk_alloc BR2.out (.cells #[.int .i64 x3.f0, .int .i64 x3.f1, .int .i64 x3.f2, .string x3.f3, .slice a4 x3.f4.length n4, .slice a5 x3.f5.length n5] 35)), Aside0.mk (below_alloc HB2.out (.cells #[.int .i64 x3.f0, .int .i64 x3.f1, .int .i64 x3.f2, .string x3.f3, .slice a4 x3.f4.length n4, .slice a5 x3.f5.length n5] 35)), by rw [World.size_alloc]; omega⟩
    · go_wp2_with fail
      have S := prev_calls x3 a4 n4 a5 n5 (w.heap.size + 1) (0) (-1) (0) (0) (x2.f1) (cr) (false) _ (blk_alloc BT2.out (.cells #[.int .i64 x3.f0, .int .i64 x3.f1, .int .i64 x3.f2, .string x3.f3, .slice a4 x3.f4.length n4, .slice a5 x3.f5.length n5] 35))
      refine Calls.mono S ?_
      rintro e Wn ⟨rfl, hT, hCg⟩
      have hy : W3.heap.size < Wn.heap.size := by have h := hCg.2.1; rw [World.size_alloc] at h; omega
      have BT := Aside0.mk hT
      have BZ := Aside0.mk ((hCg.2.2 w.heap.size (by rw [World.size_alloc]; omega) (by omega)).trans (blk_alloc BZ2.out (.cells #[.int .i64 x3.f0, .int .i64 x3.f1, .int .i64 x3.f2, .string x3.f3, .slice a4 x3.f4.length n4, .slice a5 x3.f5.length n5] 35)))
      have BR := Aside0.mk ((hCg.2.2 (w.heap.size + 1 + 1) (by rw [World.size_alloc]; omega) (by omega)).trans (blk_alloc BR2.out (.cells #[.int .i64 x3.f0, .int .i64 x3.f1, .int .i64 x3.f2, .string x3.f3, .slice a4 x3.f4.length n4, .slice a5 x3.f5.length n5] 35)))
      have HB := Aside0.mk ((below_alloc HB2.out (.cells #[.int .i64 x3.f0, .int .i64 x3.f1, .int .i64 x3.f2, .string x3.f3, .slice a4 x3.f4.length n4, .slice a5 x3.f5.length n5] 35)).trans (hCg.1 w.heap.size (by omega) (by rw [World.size_alloc]; omega)))
      clear S hT hCg p0 p1 p2 z0 z1 z2 z3 z4 z5 y0 y1 y2 y3 y4 y5
      go_wp2_with fail
      go_meet
      case rel => exact ⟨!(x3.f0 == 2), x3.f1, decide (x3.f1 < 0), rfl, Lib.hid ⟨by simp, rfl, by simp⟩, BZ, BT, BR, HB, by omega⟩
  case rest =>
    obtain ⟨cb, p, u, rfl, HX, BZ, BT, BR, HB, hs2⟩ := hcut
    clear BQ2 BZ2 BT2 BR2 HB2 hz hz0 hz1 hz2 p0 p1 p2 z0 z1 z2 z3 z4 z5 y0 y1 y2 y3 y4 y5
    generalize wc = wc3 at *
    have hs0 : w.heap.size < wc3.heap.size := by omega
    have hs1 : w.heap.size + 1 < wc3.heap.size := by omega
    obtain ⟨z0, z1, z2, z3, z4, z5⟩ := box35 BZ.out
    have y0 := frz BZ.out (n := 0)
    have y1 := frz BZ.out (n := 1)
    have y2 := frz BZ.out (n := 2)
    have y3 := frz BZ.out (n := 3)
    have y4 := frz BZ.out (n := 4)
    have y5 := frz BZ.out (n := 5)
    cases cb
    rotate_left
    · go_wp2
      have BF := Aside0.mk (six_set (c0 := .int .i64 0) (c1 := .int .i64 0) (c2 := .int .i64 0) (c3 := .int .i64 0) (c4 := .int .i64 0) (c5 := .int .i64 0) BZ.out)
      have LF := Aside0.mk (RowKit.Below.setCell (RowKit.Below.setCell (RowKit.Below.setCell (RowKit.Below.setCell (RowKit.Below.setCell (RowKit.Below.setCell (HB.out) (p := ⟨w.heap.size, 0, none⟩) (Nat.le_refl _) (.int .i64 0)) (p := ⟨w.heap.size, 1, none⟩) (Nat.le_refl _) (.int .i64 0)) (p := ⟨w.heap.size, 2, none⟩) (Nat.le_refl _) (.int .i64 0)) (p := ⟨w.heap.size, 3, none⟩) (Nat.le_refl _) (.int .i64 0)) (p := ⟨w.heap.size, 4, none⟩) (Nat.le_refl _) (.int .i64 0)) (p := ⟨w.heap.size, 5, none⟩) (Nat.le_refl _) (.int .i64 0))
      generalize ((((((wc3.setCell ⟨w.heap.size, 0, none⟩ (.int .i64 0)).setCell ⟨w.heap.size, 1, none⟩ (.int .i64 0)).setCell ⟨w.heap.size, 2, none⟩ (.int .i64 0)).setCell ⟨w.heap.size, 3, none⟩ (.int .i64 0)).setCell ⟨w.heap.size, 4, none⟩ (.int .i64 0)).setCell ⟨w.heap.size, 5, none⟩ (.int .i64 0)) = WF at *
      obtain ⟨o0, o1, o2, o3, o4, o5⟩ := box35 BF.out
      obtain rfl : res = (0, 0, 0, 0, 0, 0, 10) := by rw [HR.out]; unfold ofB; rw [if_neg (fun h => by cases h), if_neg (fun h => h K1.out), if_neg (fun h => by cases h), if_neg (fun h => h K2.out), if_pos (by have h := HX.out.1; simpa using h.symm)]; try rfl
      exact bodyPost_ret (v := .tuple #[.agg #[.int .i64 0, .int .i64 0, .int .i64 0, .int .i64 0, .int .i64 0, .int .i64 0], .int .i64 10]) (by simp [results, Try.results46, go_sem, o0, o1, o2, o3, o4, o5]) rfl ⟨rfl, LF.out⟩
    clear z0 z1 z2 z3 z4 z5 y0 y1 y2 y3 y4 y5
    have K3 := Aside0.mk (show ¬ (b3 = true ∧ x3.f0 ≠ 2) by intro h; have h2 := HX.out.1; simp [h.1, h.2] at h2)
    have PU := Aside0.mk HX.out.2
    clear HX
    go_wp2_with fail
    obtain ⟨⟨q0, q1, q2⟩, ⟨q3, q4, q5⟩, ⟨q6, q7, q8⟩, ⟨q9, q10, q11⟩, ⟨q12, q13, q14⟩⟩ := box15 BR.out
    rw [rounds_succ]
    go_wp2_with fail
    refine Calls.mono (G4.out _ (below_alloc HB.out (.cells #[.string ⟨#[82, 111, 111, 116]⟩, .bool false, .func (Fn.func 109) #[.pointer (some ⟨w.heap.size + 1, 0, none⟩)] #[]] 152))) ?_
    rintro e W4 ⟨v4, v5, rfl, r4, r5, hb⟩
    obtain ⟨a4, n4, hv4⟩ := Kd.R_slice r4
    obtain ⟨a5, n5, hv5⟩ := Kd.R_slice r5
    subst hv4
    subst hv5
    have BQ2 := Aside0.mk (blk_below (blk_new wc3 (.cells #[.string ⟨#[82, 111, 111, 116]⟩, .bool false, .func (Fn.func 109) #[.pointer (some ⟨w.heap.size + 1, 0, none⟩)] #[]] 152)) hb)
    have BZ2 := Aside0.mk (blk_below (blk_alloc BZ.out (.cells #[.string ⟨#[82, 111, 111, 116]⟩, .bool false, .func (Fn.func 109) #[.pointer (some ⟨w.heap.size + 1, 0, none⟩)] #[]] 152)) hb)
    have BT2 := Aside0.mk (blk_below (blk_alloc BT.out (.cells #[.string ⟨#[82, 111, 111, 116]⟩, .bool false, .func (Fn.func 109) #[.pointer (some ⟨w.heap.size + 1, 0, none⟩)] #[]] 152)) hb)
    have BR2 := Aside0.mk (blk_below (blk_alloc BR.out (.cells #[.string ⟨#[82, 111, 111, 116]⟩, .bool false, .func (Fn.func 109) #[.pointer (some ⟨w.heap.size + 1, 0, none⟩)] #[]] 152)) hb)
    have HB2 := Aside0.mk (below_step (below_alloc HB.out (.cells #[.string ⟨#[82, 111, 111, 116]⟩, .bool false, .func (Fn.func 109) #[.pointer (some ⟨w.heap.size + 1, 0, none⟩)] #[]] 152)) hb)
    have hz : wc3.heap.size < W4.heap.size := by have h := hb.size; rw [World.size_alloc] at h; omega
    have hz0 : w.heap.size < W4.heap.size := by omega
    have hz1 : w.heap.size + 1 < W4.heap.size := by omega
    have hz2 : w.heap.size + 1 + 1 < W4.heap.size := by omega
    clear r4 r5 hb BZ BT BR HB hs0 hs1 hs2 q0 q1 q2 q3 q4 q5 q6 q7 q8 q9 q10 q11 q12 q13 q14
    obtain ⟨p0, p1, p2⟩ := box3 BQ2.out
    obtain ⟨z0, z1, z2, z3, z4, z5⟩ := box35 BZ2.out
    have y0 := frz BZ2.out (n := 0)
    have y1 := frz BZ2.out (n := 1)
    have y2 := frz BZ2.out (n := 2)
    have y3 := frz BZ2.out (n := 3)
    have y4 := frz BZ2.out (n := 4)
    have y5 := frz BZ2.out (n := 5)
    go_upto_region 6 with fail
    go_cut [42] (fun s wc => s = .bool false ∧ wc = W4.alloc (.cells #[.int .i64 x4.f0, .int .i64 x4.f1, .int .i64 x4.f2, .string x4.f3, .slice a4 x4.f4.length n4, .slice a5 x4.f5.length n5] 35))
    case first =>
      cases b4
      · go_wp2_with fail
        go_meet
        case rel => exact ⟨rfl, rfl⟩
      · go_wp2_with fail
        go_meet
        case rel => exact ⟨rfl, rfl⟩
    case' rest => obtain ⟨rfl, rfl⟩ := hcut
    go_upto_region 8 with fail
    go_cut [50] (fun s wc => ∃ (cb : Bool) (r1 r2 : Int), s = .bool cb ∧ Hid (cb = (b4 && !(x4.f0 == 7)) ∧ r1 = x4.f1 ∧ r2 = x4.f2) ∧ Aside0 (wc.heap[w.heap.size]? = some (.cells #[.int .i64 0, .int .i64 0, .int .i64 0, .int .i64 0, .int .i64 0, .int .i64 0] 72 (0, 0))) ∧ Aside0 (wc.heap[w.heap.size + 1]? = some (.cells #[.int .i64 0, .int .i64 p, .int .i64 r1, .int .i64 r2, .int .i64 x2.f1, .int .i64 cr, .bool u] 150 (0, 0))) ∧ Aside0 (wc.heap[w.heap.size + 1 + 1]? = some (.cells #[.string ⟨#[67, 114, 99]⟩, .bool true, .func (Fn.func 106) #[.pointer (some ⟨w.heap.size + 1, 0, none⟩)] #[], .string ⟨#[76, 101, 110]⟩, .bool true, .func (Fn.func 107) #[.pointer (some ⟨w.heap.size + 1, 0, none⟩)] #[], .string ⟨#[80, 114, 101, 118]⟩, .bool false, .func (Fn.func 108) #[.pointer (some ⟨w.heap.size + 1, 0, none⟩)] #[], .string ⟨#[82, 111, 111, 116]⟩, .bool false, .func (Fn.func 109) #[.pointer (some ⟨w.heap.size + 1, 0, none⟩)] #[], .string ⟨#[83, 105, 122, 101]⟩, .bool true, .func (Fn.func 110) #[.pointer (some ⟨w.heap.size + 1, 0, none⟩)] #[]] 152 (0, 0))) ∧ Aside0 (RowKit.Below w.heap.size w wc) ∧ w.heap.size + 1 + 1 < wc.heap.size)
    case first =>
      cases b4
      · have e4 := Aside0.mk (Z4.out.resolve_left (by simp))
        go_wp2_with fail
        go_meet
        case rel => exact ⟨false, 0, 0, rfl, Lib.hid ⟨rfl, by rw [e4.out]; rfl, by rw [e4.out]; rfl⟩, Aside0.mk (blk_alloc BZ2.out (.cells #[.int .i64 x4.f0, .int .i64 x4.f1, .int .i64 x4.f2, .string x4.f3, .slice a4 x4.f4.length n4, .slice a5 x4.f5.length n5] 35)), Aside0.mk (blk_alloc BT2.out (.cells #[.int .i64 x4.f0, .int .i64 x4.f1, .int .i64 x4.f2, .string x4.f3, .slice a4 x4.f4.length n4, .slice a5 x4.f5.length n5] 35)), Aside0.mk (blk_alloc BR2.out (.cells #[.int .i64 x4.f0, .int .i64 x4.f1, .int .i64 x4.f2, .string x4.f3, .slice a4 x4.f4.length n4, .slice a5 x4.f5.length n5] 35)), Aside0.mk (below_alloc HB2.out (.cells #[.int .i64 x4.f0, .int .i64 x4.f1, .int .i64 x4.f2, .string x4.f3, .slice a4 x4.f4.length n4, .slice a5 x4.f5.length n5] 35)), by rw [World.size_alloc]; omega⟩
      · go_wp2_with fail
        have S := root_calls x4 a4 n4 a5 n5 (w.heap.size + 1) (0) (p) (0) (0) (x2.f1) (cr) (u) _ (blk_alloc BT2.out (.cells #[.int .i64 x4.f0, .int .i64 x4.f1, .int .i64 x4.f2, .string x4.f3, .slice a4 x4.f4.length n4, .slice a5 x4.f5.length n5] 35))
        refine Calls.mono S ?_
        rintro e Wn ⟨rfl, hT, hCg⟩
        have hy : W4.heap.size < Wn.heap.size := by have h := hCg.2.1; rw [World.size_alloc] at h; omega
        have BT := Aside0.mk hT
        have BZ := Aside0.mk ((hCg.2.2 w.heap.size (by rw [World.size_alloc]; omega) (by omega)).trans (blk_alloc BZ2.out (.cells #[.int .i64 x4.f0, .int .i64 x4.f1, .int .i64 x4.f2, .string x4.f3, .slice a4 x4.f4.length n4, .slice a5 x4.f5.length n5] 35)))
        have BR := Aside0.mk ((hCg.2.2 (w.heap.size + 1 + 1) (by rw [World.size_alloc]; omega) (by omega)).trans (blk_alloc BR2.out (.cells #[.int .i64 x4.f0, .int .i64 x4.f1, .int .i64 x4.f2, .string x4.f3, .slice a4 x4.f4.length n4, .slice a5 x4.f5.length n5] 35)))
        have HB := Aside0.mk ((below_alloc HB2.out (.cells #[.int .i64 x4.f0, .int .i64 x4.f1, .int .i64 x4.f2, .string x4.f3, .slice a4 x4.f4.length n4, .slice a5 x4.f5.length n5] 35)).trans (hCg.1 w.heap.size (by omega) (by rw [World.size_alloc]; omega)))
        clear S hT hCg p0 p1 p2 z0 z1 z2 z3 z4 z5 y0 y1 y2 y3 y4 y5
        go_wp2_with fail
        go_meet
        case rel => exact ⟨!(x4.f0 == 7), x4.f1, x4.f2, rfl, Lib.hid ⟨by simp, rfl, rfl⟩, BZ, BT, BR, HB, by omega⟩
    case rest =>
      obtain ⟨cb, r1, r2, rfl, HX, BZ, BT, BR, HB, hs2⟩ := hcut
      clear BQ2 BZ2 BT2 BR2 HB2 hz hz0 hz1 hz2 p0 p1 p2 z0 z1 z2 z3 z4 z5 y0 y1 y2 y3 y4 y5
      generalize wc = wc4 at *
      have hs0 : w.heap.size < wc4.heap.size := by omega
      have hs1 : w.heap.size + 1 < wc4.heap.size := by omega
      obtain ⟨z0, z1, z2, z3, z4, z5⟩ := box35 BZ.out
      have y0 := frz BZ.out (n := 0)
      have y1 := frz BZ.out (n := 1)
      have y2 := frz BZ.out (n := 2)
      have y3 := frz BZ.out (n := 3)
      have y4 := frz BZ.out (n := 4)
      have y5 := frz BZ.out (n := 5)
      cases cb
      rotate_left
      · go_wp2
        have BF := Aside0.mk (six_set (c0 := .int .i64 0) (c1 := .int .i64 0) (c2 := .int .i64 0) (c3 := .int .i64 0) (c4 := .int .i64 0) (c5 := .int .i64 0) BZ.out)
        have LF := Aside0.mk (RowKit.Below.setCell (RowKit.Below.setCell (RowKit.Below.setCell (RowKit.Below.setCell (RowKit.Below.setCell (RowKit.Below.setCell (HB.out) (p := ⟨w.heap.size, 0, none⟩) (Nat.le_refl _) (.int .i64 0)) (p := ⟨w.heap.size, 1, none⟩) (Nat.le_refl _) (.int .i64 0)) (p := ⟨w.heap.size, 2, none⟩) (Nat.le_refl _) (.int .i64 0)) (p := ⟨w.heap.size, 3, none⟩) (Nat.le_refl _) (.int .i64 0)) (p := ⟨w.heap.size, 4, none⟩) (Nat.le_refl _) (.int .i64 0)) (p := ⟨w.heap.size, 5, none⟩) (Nat.le_refl _) (.int .i64 0))
        generalize ((((((wc4.setCell ⟨w.heap.size, 0, none⟩ (.int .i64 0)).setCell ⟨w.heap.size, 1, none⟩ (.int .i64 0)).setCell ⟨w.heap.size, 2, none⟩ (.int .i64 0)).setCell ⟨w.heap.size, 3, none⟩ (.int .i64 0)).setCell ⟨w.heap.size, 4, none⟩ (.int .i64 0)).setCell ⟨w.heap.size, 5, none⟩ (.int .i64 0)) = WF at *
        obtain ⟨o0, o1, o2, o3, o4, o5⟩ := box35 BF.out
        obtain rfl : res = (0, 0, 0, 0, 0, 0, 10) := by rw [HR.out]; unfold ofB; rw [if_neg (fun h => by cases h), if_neg (fun h => h K1.out), if_neg (fun h => by cases h), if_neg (fun h => h K2.out), if_neg K3.out, if_pos (by have h := HX.out.1; simpa using h.symm)]; try rfl
        exact bodyPost_ret (v := .tuple #[.agg #[.int .i64 0, .int .i64 0, .int .i64 0, .int .i64 0, .int .i64 0, .int .i64 0], .int .i64 10]) (by simp [results, Try.results46, go_sem, o0, o1, o2, o3, o4, o5]) rfl ⟨rfl, LF.out⟩
      clear z0 z1 z2 z3 z4 z5 y0 y1 y2 y3 y4 y5
      have K4 := Aside0.mk (show ¬ (b4 = true ∧ x4.f0 ≠ 7) by intro h; have h2 := HX.out.1; simp [h.1, h.2] at h2)
      have RR := Aside0.mk HX.out.2
      clear HX
      go_wp2_with fail
      obtain ⟨⟨q0, q1, q2⟩, ⟨q3, q4, q5⟩, ⟨q6, q7, q8⟩, ⟨q9, q10, q11⟩, ⟨q12, q13, q14⟩⟩ := box15 BR.out
      rw [rounds_succ]
      go_wp2_with fail
      refine Calls.mono (G5.out _ (below_alloc HB.out (.cells #[.string ⟨#[83, 105, 122, 101]⟩, .bool true, .func (Fn.func 110) #[.pointer (some ⟨w.heap.size + 1, 0, none⟩)] #[]] 152))) ?_
      rintro e W5 ⟨v4, v5, rfl, r4, r5, hb⟩
      obtain ⟨a4, n4, hv4⟩ := Kd.R_slice r4
      obtain ⟨a5, n5, hv5⟩ := Kd.R_slice r5
      subst hv4
      subst hv5
      have BQ2 := Aside0.mk (blk_below (blk_new wc4 (.cells #[.string ⟨#[83, 105, 122, 101]⟩, .bool true, .func (Fn.func 110) #[.pointer (some ⟨w.heap.size + 1, 0, none⟩)] #[]] 152)) hb)
      have BZ2 := Aside0.mk (blk_below (blk_alloc BZ.out (.cells #[.string ⟨#[83, 105, 122, 101]⟩, .bool true, .func (Fn.func 110) #[.pointer (some ⟨w.heap.size + 1, 0, none⟩)] #[]] 152)) hb)
      have BT2 := Aside0.mk (blk_below (blk_alloc BT.out (.cells #[.string ⟨#[83, 105, 122, 101]⟩, .bool true, .func (Fn.func 110) #[.pointer (some ⟨w.heap.size + 1, 0, none⟩)] #[]] 152)) hb)
      have BR2 := Aside0.mk (blk_below (blk_alloc BR.out (.cells #[.string ⟨#[83, 105, 122, 101]⟩, .bool true, .func (Fn.func 110) #[.pointer (some ⟨w.heap.size + 1, 0, none⟩)] #[]] 152)) hb)
      have HB2 := Aside0.mk (below_step (below_alloc HB.out (.cells #[.string ⟨#[83, 105, 122, 101]⟩, .bool true, .func (Fn.func 110) #[.pointer (some ⟨w.heap.size + 1, 0, none⟩)] #[]] 152)) hb)
      have hz : wc4.heap.size < W5.heap.size := by have h := hb.size; rw [World.size_alloc] at h; omega
      have hz0 : w.heap.size < W5.heap.size := by omega
      have hz1 : w.heap.size + 1 < W5.heap.size := by omega
      have hz2 : w.heap.size + 1 + 1 < W5.heap.size := by omega
      clear r4 r5 hb BZ BT BR HB hs0 hs1 hs2 q0 q1 q2 q3 q4 q5 q6 q7 q8 q9 q10 q11 q12 q13 q14
      obtain ⟨p0, p1, p2⟩ := box3 BQ2.out
      obtain ⟨z0, z1, z2, z3, z4, z5⟩ := box35 BZ2.out
      have y0 := frz BZ2.out (n := 0)
      have y1 := frz BZ2.out (n := 1)
      have y2 := frz BZ2.out (n := 2)
      have y3 := frz BZ2.out (n := 3)
      have y4 := frz BZ2.out (n := 4)
      have y5 := frz BZ2.out (n := 5)
      cases b5
      · go_wp2
        have BF := Aside0.mk (blk_alloc (six_set (c0 := .int .i64 0) (c1 := .int .i64 0) (c2 := .int .i64 0) (c3 := .int .i64 0) (c4 := .int .i64 0) (c5 := .int .i64 0) BZ2.out) (.cells #[.int .i64 x5.f0, .int .i64 x5.f1, .int .i64 x5.f2, .string x5.f3, .slice a4 x5.f4.length n4, .slice a5 x5.f5.length n5] 35))
        have LF := Aside0.mk (below_alloc (RowKit.Below.setCell (RowKit.Below.setCell (RowKit.Below.setCell (RowKit.Below.setCell (RowKit.Below.setCell (RowKit.Below.setCell (HB2.out) (p := ⟨w.heap.size, 0, none⟩) (Nat.le_refl _) (.int .i64 0)) (p := ⟨w.heap.size, 1, none⟩) (Nat.le_refl _) (.int .i64 0)) (p := ⟨w.heap.size, 2, none⟩) (Nat.le_refl _) (.int .i64 0)) (p := ⟨w.heap.size, 3, none⟩) (Nat.le_refl _) (.int .i64 0)) (p := ⟨w.heap.size, 4, none⟩) (Nat.le_refl _) (.int .i64 0)) (p := ⟨w.heap.size, 5, none⟩) (Nat.le_refl _) (.int .i64 0)) (.cells #[.int .i64 x5.f0, .int .i64 x5.f1, .int .i64 x5.f2, .string x5.f3, .slice a4 x5.f4.length n4, .slice a5 x5.f5.length n5] 35))
        generalize (((((((W5.setCell ⟨w.heap.size, 0, none⟩ (.int .i64 0)).setCell ⟨w.heap.size, 1, none⟩ (.int .i64 0)).setCell ⟨w.heap.size, 2, none⟩ (.int .i64 0)).setCell ⟨w.heap.size, 3, none⟩ (.int .i64 0)).setCell ⟨w.heap.size, 4, none⟩ (.int .i64 0)).setCell ⟨w.heap.size, 5, none⟩ (.int .i64 0))).alloc (.cells #[.int .i64 x5.f0, .int .i64 x5.f1, .int .i64 x5.f2, .string x5.f3, .slice a4 x5.f4.length n4, .slice a5 x5.f5.length n5] 35) = WF at *
        obtain ⟨o0, o1, o2, o3, o4, o5⟩ := box35 BF.out
        obtain rfl : res = (0, 0, 0, 0, 0, 0, 11) := by rw [HR.out]; unfold ofB; rw [if_neg (fun h => by cases h), if_neg (fun h => h K1.out), if_neg (fun h => by cases h), if_neg (fun h => h K2.out), if_neg K3.out, if_neg K4.out, if_pos rfl]; try rfl
        exact bodyPost_ret (v := .tuple #[.agg #[.int .i64 0, .int .i64 0, .int .i64 0, .int .i64 0, .int .i64 0, .int .i64 0], .int .i64 11]) (by simp [results, Try.results46, go_sem, o0, o1, o2, o3, o4, o5]) rfl ⟨rfl, LF.out⟩
      go_wp2_with fail
      obtain ⟨kb, hkb⟩ : ∃ kb, kb = (x5.f0 == 2) := ⟨_, rfl⟩
      have S := size_calls x5 a4 n4 a5 n5 (w.heap.size + 1) (0) (p) (r1) (r2) (x2.f1) (cr) (u) _ (blk_alloc BT2.out (.cells #[.int .i64 x5.f0, .int .i64 x5.f1, .int .i64 x5.f2, .string x5.f3, .slice a4 x5.f4.length n4, .slice a5 x5.f5.length n5] 35))
      rw [← hkb] at S
      refine Calls.mono S ?_
      rintro e V5 ⟨rfl, hT, hCg⟩
      have hy : W5.heap.size < V5.heap.size := by have h := hCg.2.1; rw [World.size_alloc] at h; omega
      have hs0 : w.heap.size < V5.heap.size := by omega
      have hs1 : w.heap.size + 1 < V5.heap.size := by omega
      have hs2 : w.heap.size + 1 + 1 < V5.heap.size := by omega
      have BT := Aside0.mk hT
      have BZ := Aside0.mk ((hCg.2.2 w.heap.size (by rw [World.size_alloc]; omega) (by omega)).trans (blk_alloc BZ2.out (.cells #[.int .i64 x5.f0, .int .i64 x5.f1, .int .i64 x5.f2, .string x5.f3, .slice a4 x5.f4.length n4, .slice a5 x5.f5.length n5] 35)))
      have BR := Aside0.mk ((hCg.2.2 (w.heap.size + 1 + 1) (by rw [World.size_alloc]; omega) (by omega)).trans (blk_alloc BR2.out (.cells #[.int .i64 x5.f0, .int .i64 x5.f1, .int .i64 x5.f2, .string x5.f3, .slice a4 x5.f4.length n4, .slice a5 x5.f5.length n5] 35)))
      have HB := Aside0.mk ((below_alloc HB2.out (.cells #[.int .i64 x5.f0, .int .i64 x5.f1, .int .i64 x5.f2, .string x5.f3, .slice a4 x5.f4.length n4, .slice a5 x5.f5.length n5] 35)).trans (hCg.1 w.heap.size (by omega) (by rw [World.size_alloc]; omega)))
      have HK := Aside0.mk hkb
      clear S hT hCg hkb BT2 BZ2 BR2 HB2 BQ2 hz hz0 hz1 hz2 p0 p1 p2 z0 z1 z2 z3 z4 z5 y0 y1 y2 y3 y4 y5
      obtain ⟨z0, z1, z2, z3, z4, z5⟩ := box35 BZ.out
      have y0 := frz BZ.out (n := 0)
      have y1 := frz BZ.out (n := 1)
      have y2 := frz BZ.out (n := 2)
      have y3 := frz BZ.out (n := 3)
      have y4 := frz BZ.out (n := 4)
      have y5 := frz BZ.out (n := 5)
      cases kb
      · go_wp2
        have BF := Aside0.mk (six_set (c0 := .int .i64 0) (c1 := .int .i64 0) (c2 := .int .i64 0) (c3 := .int .i64 0) (c4 := .int .i64 0) (c5 := .int .i64 0) BZ.out)
        have LF := Aside0.mk (RowKit.Below.setCell (RowKit.Below.setCell (RowKit.Below.setCell (RowKit.Below.setCell (RowKit.Below.setCell (RowKit.Below.setCell (HB.out) (p := ⟨w.heap.size, 0, none⟩) (Nat.le_refl _) (.int .i64 0)) (p := ⟨w.heap.size, 1, none⟩) (Nat.le_refl _) (.int .i64 0)) (p := ⟨w.heap.size, 2, none⟩) (Nat.le_refl _) (.int .i64 0)) (p := ⟨w.heap.size, 3, none⟩) (Nat.le_refl _) (.int .i64 0)) (p := ⟨w.heap.size, 4, none⟩) (Nat.le_refl _) (.int .i64 0)) (p := ⟨w.heap.size, 5, none⟩) (Nat.le_refl _) (.int .i64 0))
        generalize ((((((V5.setCell ⟨w.heap.size, 0, none⟩ (.int .i64 0)).setCell ⟨w.heap.size, 1, none⟩ (.int .i64 0)).setCell ⟨w.heap.size, 2, none⟩ (.int .i64 0)).setCell ⟨w.heap.size, 3, none⟩ (.int .i64 0)).setCell ⟨w.heap.size, 4, none⟩ (.int .i64 0)).setCell ⟨w.heap.size, 5, none⟩ (.int .i64 0)) = WF at *
        obtain ⟨o0, o1, o2, o3, o4, o5⟩ := box35 BF.out
        obtain rfl : res = (0, 0, 0, 0, 0, 0, 10) := by rw [HR.out]; unfold ofB; rw [if_neg (fun h => by cases h), if_neg (fun h => h K1.out), if_neg (fun h => by cases h), if_neg (fun h => h K2.out), if_neg K3.out, if_neg K4.out, if_neg (fun h => by cases h), if_pos (by intro h; have h2 := HK.out; rw [h] at h2; simp at h2)]; try rfl
        exact bodyPost_ret (v := .tuple #[.agg #[.int .i64 0, .int .i64 0, .int .i64 0, .int .i64 0, .int .i64 0, .int .i64 0], .int .i64 10]) (by simp [results, Try.results46, go_sem, o0, o1, o2, o3, o4, o5]) rfl ⟨rfl, LF.out⟩
      clear z0 z1 z2 z3 z4 z5 y0 y1 y2 y3 y4 y5
      have K5 := Aside0.mk (show x5.f0 = 2 by simpa using HK.out.symm)
      clear HK
      go_wp2_with fail
      rw [rounds_succ]
      obtain ⟨k0, k1, k2, k3, k4, k5, k6⟩ := box150 BT.out
      go_wp2_with fail
      obtain ⟨ce, hce⟩ : ∃ ce, ce = chkT x5.f1 p r1 r2 x2.f1 cr := ⟨_, rfl⟩
      have S := HC.out x5.f1 p r1 r2 x2.f1 cr V5
      rw [← hce] at S
      refine Calls.mono S ?_
      rintro e V6 ⟨rfl, hb⟩
      have hv : V5.heap.size ≤ V6.heap.size := hb.size
      have hv0 : w.heap.size < V6.heap.size := by omega
      have hv1 : w.heap.size + 1 < V6.heap.size := by omega
      have BT6 := Aside0.mk (blk_below BT.out hb)
      have BZ6 := Aside0.mk (blk_below BZ.out hb)
      have HB6 := Aside0.mk (HB.out.trans (hb.mono HB.out.size))
      have HCE := Aside0.mk hce
      clear S hb hce hv hs0 hs1 hs2 BT BZ BR HB k0 k1 k2 k3 k4 k5 k6
      obtain ⟨k0, k1, k2, k3, k4, k5, k6⟩ := box150 BT6.out
      obtain ⟨z0, z1, z2, z3, z4, z5⟩ := box35 BZ6.out
      have y0 := frz BZ6.out (n := 0)
      have y1 := frz BZ6.out (n := 1)
      have y2 := frz BZ6.out (n := 2)
      have y3 := frz BZ6.out (n := 3)
      have y4 := frz BZ6.out (n := 4)
      have y5 := frz BZ6.out (n := 5)
      by_cases hc0 : ce = 0
      · subst hc0
        cases u
        · go_wp2
          have BF := Aside0.mk (six_set (c0 := .int .i64 x5.f1) (c1 := .int .i64 p) (c2 := .int .i64 r1) (c3 := .int .i64 r2) (c4 := .int .i64 x2.f1) (c5 := .int .i64 cr) BZ6.out)
          have LF := Aside0.mk (RowKit.Below.setCell (RowKit.Below.setCell (RowKit.Below.setCell (RowKit.Below.setCell (RowKit.Below.setCell (RowKit.Below.setCell (HB6.out) (p := ⟨w.heap.size, 0, none⟩) (Nat.le_refl _) (.int .i64 x5.f1)) (p := ⟨w.heap.size, 1, none⟩) (Nat.le_refl _) (.int .i64 p)) (p := ⟨w.heap.size, 2, none⟩) (Nat.le_refl _) (.int .i64 r1)) (p := ⟨w.heap.size, 3, none⟩) (Nat.le_refl _) (.int .i64 r2)) (p := ⟨w.heap.size, 4, none⟩) (Nat.le_refl _) (.int .i64 x2.f1)) (p := ⟨w.heap.size, 5, none⟩) (Nat.le_refl _) (.int .i64 cr))
          generalize ((((((V6.setCell ⟨w.heap.size, 0, none⟩ (.int .i64 x5.f1)).setCell ⟨w.heap.size, 1, none⟩ (.int .i64 p)).setCell ⟨w.heap.size, 2, none⟩ (.int .i64 r1)).setCell ⟨w.heap.size, 3, none⟩ (.int .i64 r2)).setCell ⟨w.heap.size, 4, none⟩ (.int .i64 x2.f1)).setCell ⟨w.heap.size, 5, none⟩ (.int .i64 cr)) = WF at *
          obtain ⟨o0, o1, o2, o3, o4, o5⟩ := box35 BF.out
          obtain rfl : res = (x5.f1, p, r1, r2, x2.f1, cr, 0) := by rw [HR.out]; unfold ofB; rw [← PU.out.1, ← RR.out.1, ← RR.out.2, ← C1.out, ← HCE.out]; have hc0 : (0 : Int) = 0 := rfl; have hn10 := of_decide_eq_false PU.out.2.symm; rw [if_neg (fun h => by cases h), if_neg (fun h => h K1.out), if_neg (fun h => by cases h), if_neg (fun h => h K2.out), if_neg K3.out, if_neg K4.out, if_neg (fun h => by cases h), if_neg (fun h => h K5.out), if_neg (fun h => h hc0), if_neg (fun h => hn10 h)]
          exact bodyPost_ret (v := .tuple #[.agg #[.int .i64 x5.f1, .int .i64 p, .int .i64 r1, .int .i64 r2, .int .i64 x2.f1, .int .i64 cr], .int .i64 0]) (by simp [results, Try.results46, go_sem, o0, o1, o2, o3, o4, o5]) rfl ⟨rfl, LF.out⟩
        · go_wp2
          have BF := Aside0.mk (six_set (c0 := .int .i64 0) (c1 := .int .i64 0) (c2 := .int .i64 0) (c3 := .int .i64 0) (c4 := .int .i64 0) (c5 := .int .i64 0) BZ6.out)
          have LF := Aside0.mk (RowKit.Below.setCell (RowKit.Below.setCell (RowKit.Below.setCell (RowKit.Below.setCell (RowKit.Below.setCell (RowKit.Below.setCell (HB6.out) (p := ⟨w.heap.size, 0, none⟩) (Nat.le_refl _) (.int .i64 0)) (p := ⟨w.heap.size, 1, none⟩) (Nat.le_refl _) (.int .i64 0)) (p := ⟨w.heap.size, 2, none⟩) (Nat.le_refl _) (.int .i64 0)) (p := ⟨w.heap.size, 3, none⟩) (Nat.le_refl _) (.int .i64 0)) (p := ⟨w.heap.size, 4, none⟩) (Nat.le_refl _) (.int .i64 0)) (p := ⟨w.heap.size, 5, none⟩) (Nat.le_refl _) (.int .i64 0))
          generalize ((((((V6.setCell ⟨w.heap.size, 0, none⟩ (.int .i64 0)).setCell ⟨w.heap.size, 1, none⟩ (.int .i64 0)).setCell ⟨w.heap.size, 2, none⟩ (.int .i64 0)).setCell ⟨w.heap.size, 3, none⟩ (.int .i64 0)).setCell ⟨w.heap.size, 4, none⟩ (.int .i64 0)).setCell ⟨w.heap.size, 5, none⟩ (.int .i64 0)) = WF at *
          obtain ⟨o0, o1, o2, o3, o4, o5⟩ := box35 BF.out
          obtain rfl : res = (0, 0, 0, 0, 0, 0, 3) := by rw [HR.out]; unfold ofB; rw [← PU.out.1, ← RR.out.1, ← RR.out.2, ← C1.out, ← HCE.out]; have hc0 : (0 : Int) = 0 := rfl; rw [if_neg (fun h => by cases h), if_neg (fun h => h K1.out), if_neg (fun h => by cases h), if_neg (fun h => h K2.out), if_neg K3.out, if_neg K4.out, if_neg (fun h => by cases h), if_neg (fun h => h K5.out), if_neg (fun h => h hc0), if_pos (of_decide_eq_true PU.out.2.symm)]; rfl
          exact bodyPost_ret (v := .tuple #[.agg #[.int .i64 0, .int .i64 0, .int .i64 0, .int .i64 0, .int .i64 0, .int .i64 0], .int .i64 3]) (by simp [results, Try.results46, go_sem, o0, o1, o2, o3, o4, o5]) rfl ⟨rfl, LF.out⟩
      · go_wp2
        have BF := Aside0.mk (six_set (c0 := .int .i64 0) (c1 := .int .i64 0) (c2 := .int .i64 0) (c3 := .int .i64 0) (c4 := .int .i64 0) (c5 := .int .i64 0) BZ6.out)
        have LF := Aside0.mk (RowKit.Below.setCell (RowKit.Below.setCell (RowKit.Below.setCell (RowKit.Below.setCell (RowKit.Below.setCell (RowKit.Below.setCell (HB6.out) (p := ⟨w.heap.size, 0, none⟩) (Nat.le_refl _) (.int .i64 0)) (p := ⟨w.heap.size, 1, none⟩) (Nat.le_refl _) (.int .i64 0)) (p := ⟨w.heap.size, 2, none⟩) (Nat.le_refl _) (.int .i64 0)) (p := ⟨w.heap.size, 3, none⟩) (Nat.le_refl _) (.int .i64 0)) (p := ⟨w.heap.size, 4, none⟩) (Nat.le_refl _) (.int .i64 0)) (p := ⟨w.heap.size, 5, none⟩) (Nat.le_refl _) (.int .i64 0))
        generalize ((((((V6.setCell ⟨w.heap.size, 0, none⟩ (.int .i64 0)).setCell ⟨w.heap.size, 1, none⟩ (.int .i64 0)).setCell ⟨w.heap.size, 2, none⟩ (.int .i64 0)).setCell ⟨w.heap.size, 3, none⟩ (.int .i64 0)).setCell ⟨w.heap.size, 4, none⟩ (.int .i64 0)).setCell ⟨w.heap.size, 5, none⟩ (.int .i64 0)) = WF at *
        obtain ⟨o0, o1, o2, o3, o4, o5⟩ := box35 BF.out
        obtain rfl : res = (0, 0, 0, 0, 0, 0, ce) := by rw [HR.out]; unfold ofB; rw [← PU.out.1, ← RR.out.1, ← RR.out.2, ← C1.out, ← HCE.out]; rw [if_neg (fun h => by cases h), if_neg (fun h => h K1.out), if_neg (fun h => by cases h), if_neg (fun h => h K2.out), if_neg K3.out, if_neg K4.out, if_neg (fun h => by cases h), if_neg (fun h => h K5.out), if_pos hc0]; rfl
        exact bodyPost_ret (v := .tuple #[.agg #[.int .i64 0, .int .i64 0, .int .i64 0, .int .i64 0, .int .i64 0, .int .i64 0], .int .i64 ce]) (by simp [results, Try.results46, go_sem, o0, o1, o2, o3, o4, o5]) rfl ⟨rfl, LF.out⟩
end Go.Proofs.Ytogpnkkoablmiaa.V
end
section
namespace Go.Proofs.Ytogpnkkoablmiaa.V
open Go.Shelf Go.RowKit Go.Lib Go.Sort Go.Proofs.Ytogpnkkoablmiaa.Q Go.Proofs.YtogpnkkoablmiaaW.PrintWords Go.Proofs.YtogpnkkoablmiaaW.PrintLast Go.Proofs.YtogpnkkoablmiaaW.PrintMore
set_option linter.unusedVariables false
set_option linter.unusedSimpArgs false
theorem und_crc (x : S35) (b : Bool) : underS x b ⟨#[67, 114, 99]⟩ true 4 = if b = false then (false, 11) else if ¬ (x.f0 = 4 ∧ x.f3.size = 4) then (false, 10) else (b, 0) := by
  unfold underS
  cases b with
  | false => simp
  | true =>
    have h4 : ((x.f3.size : Int) = 4) ↔ x.f3.size = 4 := by omega
    by_cases h0 : x.f0 = 4 <;> by_cases h1 : x.f3.size = 4 <;> simp [h0, h1, h4]
theorem und_must (x : S35) (b : Bool) (k : ByteArray) (kind : Int) (hk : k ≠ ⟨#[67, 114, 99]⟩) : underS x b k true kind = if b = false then (false, 11) else if x.f0 ≠ kind then (false, 10) else (b, 0) := by
  unfold underS
  cases b with
  | false => simp
  | true => by_cases h0 : x.f0 = kind <;> simp [h0, hk]
theorem und_opt (x : S35) (b : Bool) (k : ByteArray) (kind : Int) (hk : k ≠ ⟨#[67, 114, 99]⟩) : underS x b k false kind = if b = true ∧ x.f0 ≠ kind then (false, 10) else (b, 0) := by
  unfold underS
  cases b with
  | false => simp [hk]
  | true => by_cases h0 : x.f0 = kind <;> simp [h0, hk]
theorem ofB_und (x1 x2 x3 x4 x5 : S35) (b1 b2 b3 b4 b5 o1 o2 o3 o4 o5 : Bool) (e1 e2 e3 e4 e5 : Int)
    (h1 : underS x1 b1 ⟨#[67, 114, 99]⟩ true 4 = (o1, e1)) (h2 : underS x2 b2 ⟨#[76, 101, 110]⟩ true 2 = (o2, e2)) (h3 : underS x3 b3 ⟨#[80, 114, 101, 118]⟩ false 2 = (o3, e3)) (h4 : underS x4 b4 ⟨#[82, 111, 111, 116]⟩ false 7 = (o4, e4)) (h5 : underS x5 b5 ⟨#[83, 105, 122, 101]⟩ true 2 = (o5, e5)) :
    (ofB x1 x2 x3 x4 x5 b1 b2 b3 b4 b5 = if e1 ≠ 0 then erT e1 else if e2 ≠ 0 then erT e2 else if e3 ≠ 0 then erT e3 else if e4 ≠ 0 then erT e4 else if e5 ≠ 0 then erT e5 else
      if chkT x5.f1 (if b3 = true then x3.f1 else -1) x4.f1 x4.f2 x2.f1 (fl 0 (bytesOf x1.f3)) ≠ 0 then erT (chkT x5.f1 (if b3 = true then x3.f1 else -1) x4.f1 x4.f2 x2.f1 (fl 0 (bytesOf x1.f3))) else
      if b3 = true ∧ x3.f1 < 0 then erT 3 else (x5.f1, (if b3 = true then x3.f1 else -1), x4.f1, x4.f2, x2.f1, fl 0 (bytesOf x1.f3), 0)) ∧ (e1 = 0 → x1.f3.size = 4) ∧ (e3 = 0 → o3 = b3) := by
  rw [und_crc] at h1
  rw [und_must _ _ _ _ (by decide)] at h2 h5
  rw [und_opt _ _ _ _ (by decide)] at h3 h4
  refine ⟨?_, ?_, ?_⟩
  · unfold ofB
    split at h1
    · obtain ⟨-, rfl⟩ := Prod.mk.inj h1; rw [if_pos (by assumption)]; simp
    · rw [if_neg (by assumption)]
      split at h1
      · obtain ⟨-, rfl⟩ := Prod.mk.inj h1; rw [if_pos (by assumption)]; simp
      · rw [if_neg (by assumption)]
        obtain ⟨-, rfl⟩ := Prod.mk.inj h1
        rw [if_neg (show ¬ (0 : Int) ≠ 0 from fun h => h rfl)]
        split at h2
        · obtain ⟨-, rfl⟩ := Prod.mk.inj h2; rw [if_pos (by assumption)]; simp
        · rw [if_neg (by assumption)]
          split at h2
          · obtain ⟨-, rfl⟩ := Prod.mk.inj h2; rw [if_pos (by assumption)]; simp
          · rw [if_neg (by assumption)]
            obtain ⟨-, rfl⟩ := Prod.mk.inj h2
            rw [if_neg (show ¬ (0 : Int) ≠ 0 from fun h => h rfl)]
            split at h3
            · obtain ⟨-, rfl⟩ := Prod.mk.inj h3; rw [if_pos (by assumption)]; simp
            · rw [if_neg (by assumption)]
              obtain ⟨-, rfl⟩ := Prod.mk.inj h3
              rw [if_neg (show ¬ (0 : Int) ≠ 0 from fun h => h rfl)]
              split at h4
              · obtain ⟨-, rfl⟩ := Prod.mk.inj h4; rw [if_pos (by assumption)]; simp
              · rw [if_neg (by assumption)]
                obtain ⟨-, rfl⟩ := Prod.mk.inj h4
                rw [if_neg (show ¬ (0 : Int) ≠ 0 from fun h => h rfl)]
                split at h5
                · obtain ⟨-, rfl⟩ := Prod.mk.inj h5; rw [if_pos (by assumption)]; simp
                · rw [if_neg (by assumption)]
                  split at h5
                  · obtain ⟨-, rfl⟩ := Prod.mk.inj h5; rw [if_pos (by assumption)]; simp
                  · rw [if_neg (by assumption)]
                    obtain ⟨-, rfl⟩ := Prod.mk.inj h5
                    rw [if_neg (show ¬ (0 : Int) ≠ 0 from fun h => h rfl)]
  · intro he
    subst he
    split at h1
    · cases h1
    · split at h1
      · cases h1
      · rename_i h; exact (Classical.not_not.1 h).2
  · intro he
    subst he
    split at h3
    · cases h3
    · exact (Prod.mk.inj h3).1.symm
theorem get_l (k : Nat) (x0 : ByteArray) (x4 x5 : Int) : binderyref03_Get.l0 (k + 1) x0 x4 x5 = if x5 < (x0.size : Int) then (if 0 ≤ x5 then (binderyref03_Get.l0 k x0 (wrap64 ((wrap64 (256 * x4)) + (wrap64 (bt x0 x5)))) (wrap64 (x5 + 1))) else (none)) else (some (x4, 0)) := rfl
theorem get_step (k : Nat) (s : ByteArray) (x i j b : Int) (hj : i + 1 = j) (hs : (s.size : Int) = 4) (hi : 0 ≤ i ∧ i < 4) (hb : bt s i = b) (h0 : 0 ≤ b ∧ b < 256) (hx : 0 ≤ x ∧ x < 16777216) : binderyref03_Get.l0 (k + 1) s x i = binderyref03_Get.l0 k s (256 * x + b) j := by
  have w1 : ∀ n : Int, 0 ≤ n → n < 4294967296 → wrap64 n = n := fun n h0 h1 => by unfold wrap64; omega
  rw [get_l, hs, if_pos hi.2, if_pos hi.1, hb, w1 (256 * x) (by omega) (by omega), w1 b (by omega) (by omega), w1 _ (by omega) (by omega), w1 (i + 1) (by omega) (by omega), hj]
theorem get4_pure (s : ByteArray) (b0 b1 b2 b3 : Int) (hs : (s.size : Int) = 4) (h0 : bt s 0 = b0) (h1 : bt s 1 = b1) (h2 : bt s 2 = b2) (h3 : bt s 3 = b3) (g0 : 0 ≤ b0 ∧ b0 < 256) (g1 : 0 ≤ b1 ∧ b1 < 256) (g2 : 0 ≤ b2 ∧ b2 < 256) (g3 : 0 ≤ b3 ∧ b3 < 256) :
    binderyref03_Get.f 6 s = some (fl 0 [b0, b1, b2, b3], 0) := by
  unfold binderyref03_Get.f
  rw [hs, if_neg (by omega), if_neg (by omega)]
  have e : binderyref03_Get.j0 6 s false = binderyref03_Get.l0 5 s 0 0 := rfl
  rw [e, get_step 4 s 0 0 1 b0 rfl hs (by omega) h0 g0 (by omega)]
  rw [get_step 3 s _ 1 2 b1 rfl hs (by omega) h1 g1 (by omega), get_step 2 s _ 2 3 b2 rfl hs (by omega) h2 g2 (by omega), get_step 1 s _ 3 4 b3 rfl hs (by omega) h3 g3 (by omega)]
  rw [get_l, hs, if_neg (by omega)]
  rfl
theorem bts4 (s : ByteArray) (h : s.size = 4) : ∃ b0 b1 b2 b3 : Int, bytesOf s = [b0, b1, b2, b3] ∧ bt s 0 = b0 ∧ bt s 1 = b1 ∧ bt s 2 = b2 ∧ bt s 3 = b3 ∧ (0 ≤ b0 ∧ b0 < 256) ∧ (0 ≤ b1 ∧ b1 < 256) ∧ (0 ≤ b2 ∧ b2 < 256) ∧ (0 ≤ b3 ∧ b3 < 256) := by
  obtain ⟨⟨l⟩⟩ := s
  have hl : l.length = 4 := h
  match l, hl with
  | [a, b, c, d], _ =>
    have ha := a.toNat_lt
    have hb := b.toNat_lt
    have hc := c.toNat_lt
    have hd := d.toNat_lt
    exact ⟨a.toNat, b.toNat, c.toNat, d.toNat, rfl, rfl, rfl, rfl, rfl, by omega, by omega, by omega, by omega⟩
theorem rget4 (s : ByteArray) (h : s.size = 4) : binderyref03_Get.f 6 s = some (fl 0 (bytesOf s), 0) := by
  obtain ⟨b0, b1, b2, b3, e, h0, h1, h2, h3, g0, g1, g2, g3⟩ := bts4 s h
  rw [e]
  exact get4_pure s b0 b1 b2 b3 (by omega) h0 h1 h2 h3 g0 g1 g2 g3
set_option maxHeartbeats 16000000 in
set_option maxRecDepth 100000 in
theorem rof_calls (d : List S89) (A : Option Addr) (c : Nat) (w : World) (fd : fewV ⟨6, 0, 0, ⟨#[]⟩, [], d⟩) (hl : d.length ≤ c) (hC : k89.C w A d.length d) :
    Calls Try.prog 47 #[.slice A d.length c] w fun e w' => e = .returned (.tuple #[.agg #[.int .i64 (ofS d).1, .int .i64 (ofS d).2.1, .int .i64 (ofS d).2.2.1, .int .i64 (ofS d).2.2.2.1, .int .i64 (ofS d).2.2.2.2.1, .int .i64 (ofS d).2.2.2.2.2.1], .int .i64 (ofS d).2.2.2.2.2.2]) ∧ RowKit.Below w.heap.size w w' := by
  have hu35 := Try.underlying35
  have hu33 := Try.underlying33
  have hu72 := Try.underlying72
  have hu28 := Try.underlying28
  obtain ⟨res, hres⟩ : ∃ res, res = ofS d := ⟨_, rfl⟩
  rw [← hres]
  unfold ofS at hres
  have UA := fun (key : ByteArray) (must : Bool) (kind : Int) (w1 : World) (hb : RowKit.Below w.heap.size w w1) => under_calls d key must kind A c w1 fd hl (Kd.C_below hC hb)
  have HC : ∀ (t0 t1 t2 t3 t4 t5 : Int) (w : World), Calls Try.prog 43 #[.agg #[.int .i64 t0, .int .i64 t1, .int .i64 t2, .int .i64 t3, .int .i64 t4, .int .i64 t5]] w fun e w' => e = .returned (.int .i64 (chkT t0 t1 t2 t3 t4 t5)) ∧ RowKit.Below w.heap.size w w' := fun t0 t1 t2 t3 t4 t5 w => binderyref24_Check.calls 1 t0 t1 t2 t3 t4 t5 _ w (rchk_f t0 t1 t2 t3 t4 t5)
  have HC := Aside0.mk HC
  have U1 := UA ⟨#[67, 114, 99]⟩ true 4
  change ∀ (w1 : World), RowKit.Below w.heap.size w w1 → Calls Try.prog 111 #[.slice A d.length c, .string ⟨#[67, 114, 99]⟩, .bool true, .int .i64 4] w1 fun e w' => ∃ v4 v5, e = .returned (.tuple #[.agg #[.int .i64 (gk d ⟨#[67, 114, 99]⟩).f0, .int .i64 (gk d ⟨#[67, 114, 99]⟩).f1, .int .i64 (gk d ⟨#[67, 114, 99]⟩).f2, .string (gk d ⟨#[67, 114, 99]⟩).f3, v4, v5], .bool (underS (gk d ⟨#[67, 114, 99]⟩) (hk d ⟨#[67, 114, 99]⟩) ⟨#[67, 114, 99]⟩ true 4).1, .int .i64 (underS (gk d ⟨#[67, 114, 99]⟩) (hk d ⟨#[67, 114, 99]⟩) ⟨#[67, 114, 99]⟩ true 4).2]) ∧ k35.R 35 w' w1.heap.size (fun _ => True) v4 (gk d ⟨#[67, 114, 99]⟩).f4 ∧ k89.R 89 w' w1.heap.size (fun _ => True) v5 (gk d ⟨#[67, 114, 99]⟩).f5 ∧ RowKit.Below w1.heap.size w1 w' at U1
  obtain ⟨⟨o1, e1⟩, hq1⟩ : ∃ q, underS (gk d ⟨#[67, 114, 99]⟩) (hk d ⟨#[67, 114, 99]⟩) ⟨#[67, 114, 99]⟩ true 4 = q := ⟨_, rfl⟩
  rw [hq1] at U1
  generalize gk d ⟨#[67, 114, 99]⟩ = x1 at U1 hres hq1
  generalize hk d ⟨#[67, 114, 99]⟩ = b1 at hres hq1
  have U1 := Aside0.mk U1
  have U2 := UA ⟨#[76, 101, 110]⟩ true 2
  change ∀ (w1 : World), RowKit.Below w.heap.size w w1 → Calls Try.prog 111 #[.slice A d.length c, .string ⟨#[76, 101, 110]⟩, .bool true, .int .i64 2] w1 fun e w' => ∃ v4 v5, e = .returned (.tuple #[.agg #[.int .i64 (gk d ⟨#[76, 101, 110]⟩).f0, .int .i64 (gk d ⟨#[76, 101, 110]⟩).f1, .int .i64 (gk d ⟨#[76, 101, 110]⟩).f2, .string (gk d ⟨#[76, 101, 110]⟩).f3, v4, v5], .bool (underS (gk d ⟨#[76, 101, 110]⟩) (hk d ⟨#[76, 101, 110]⟩) ⟨#[76, 101, 110]⟩ true 2).1, .int .i64 (underS (gk d ⟨#[76, 101, 110]⟩) (hk d ⟨#[76, 101, 110]⟩) ⟨#[76, 101, 110]⟩ true 2).2]) ∧ k35.R 35 w' w1.heap.size (fun _ => True) v4 (gk d ⟨#[76, 101, 110]⟩).f4 ∧ k89.R 89 w' w1.heap.size (fun _ => True) v5 (gk d ⟨#[76, 101, 110]⟩).f5 ∧ RowKit.Below w1.heap.size w1 w' at U2
  obtain ⟨⟨o2, e2⟩, hq2⟩ : ∃ q, underS (gk d ⟨#[76, 101, 110]⟩) (hk d ⟨#[76, 101, 110]⟩) ⟨#[76, 101, 110]⟩ true 2 = q := ⟨_, rfl⟩
  rw [hq2] at U2
  generalize gk d ⟨#[76, 101, 110]⟩ = x2 at U2 hres hq2
  generalize hk d ⟨#[76, 101, 110]⟩ = b2 at hres hq2
  have U2 := Aside0.mk U2
  have U3 := UA ⟨#[80, 114, 101, 118]⟩ false 2
  change ∀ (w1 : World), RowKit.Below w.heap.size w w1 → Calls Try.prog 111 #[.slice A d.length c, .string ⟨#[80, 114, 101, 118]⟩, .bool false, .int .i64 2] w1 fun e w' => ∃ v4 v5, e = .returned (.tuple #[.agg #[.int .i64 (gk d ⟨#[80, 114, 101, 118]⟩).f0, .int .i64 (gk d ⟨#[80, 114, 101, 118]⟩).f1, .int .i64 (gk d ⟨#[80, 114, 101, 118]⟩).f2, .string (gk d ⟨#[80, 114, 101, 118]⟩).f3, v4, v5], .bool (underS (gk d ⟨#[80, 114, 101, 118]⟩) (hk d ⟨#[80, 114, 101, 118]⟩) ⟨#[80, 114, 101, 118]⟩ false 2).1, .int .i64 (underS (gk d ⟨#[80, 114, 101, 118]⟩) (hk d ⟨#[80, 114, 101, 118]⟩) ⟨#[80, 114, 101, 118]⟩ false 2).2]) ∧ k35.R 35 w' w1.heap.size (fun _ => True) v4 (gk d ⟨#[80, 114, 101, 118]⟩).f4 ∧ k89.R 89 w' w1.heap.size (fun _ => True) v5 (gk d ⟨#[80, 114, 101, 118]⟩).f5 ∧ RowKit.Below w1.heap.size w1 w' at U3
  obtain ⟨⟨o3, e3⟩, hq3⟩ : ∃ q, underS (gk d ⟨#[80, 114, 101, 118]⟩) (hk d ⟨#[80, 114, 101, 118]⟩) ⟨#[80, 114, 101, 118]⟩ false 2 = q := ⟨_, rfl⟩
  rw [hq3] at U3
  generalize gk d ⟨#[80, 114, 101, 118]⟩ = x3 at U3 hres hq3
  generalize hk d ⟨#[80, 114, 101, 118]⟩ = b3 at hres hq3
  have U3 := Aside0.mk U3
  have U4 := UA ⟨#[82, 111, 111, 116]⟩ false 7
  change ∀ (w1 : World), RowKit.Below w.heap.size w w1 → Calls Try.prog 111 #[.slice A d.length c, .string ⟨#[82, 111, 111, 116]⟩, .bool false, .int .i64 7] w1 fun e w' => ∃ v4 v5, e = .returned (.tuple #[.agg #[.int .i64 (gk d ⟨#[82, 111, 111, 116]⟩).f0, .int .i64 (gk d ⟨#[82, 111, 111, 116]⟩).f1, .int .i64 (gk d ⟨#[82, 111, 111, 116]⟩).f2, .string (gk d ⟨#[82, 111, 111, 116]⟩).f3, v4, v5], .bool (underS (gk d ⟨#[82, 111, 111, 116]⟩) (hk d ⟨#[82, 111, 111, 116]⟩) ⟨#[82, 111, 111, 116]⟩ false 7).1, .int .i64 (underS (gk d ⟨#[82, 111, 111, 116]⟩) (hk d ⟨#[82, 111, 111, 116]⟩) ⟨#[82, 111, 111, 116]⟩ false 7).2]) ∧ k35.R 35 w' w1.heap.size (fun _ => True) v4 (gk d ⟨#[82, 111, 111, 116]⟩).f4 ∧ k89.R 89 w' w1.heap.size (fun _ => True) v5 (gk d ⟨#[82, 111, 111, 116]⟩).f5 ∧ RowKit.Below w1.heap.size w1 w' at U4
  obtain ⟨⟨o4, e4⟩, hq4⟩ : ∃ q, underS (gk d ⟨#[82, 111, 111, 116]⟩) (hk d ⟨#[82, 111, 111, 116]⟩) ⟨#[82, 111, 111, 116]⟩ false 7 = q := ⟨_, rfl⟩
  rw [hq4] at U4
  generalize gk d ⟨#[82, 111, 111, 116]⟩ = x4 at U4 hres hq4
  generalize hk d ⟨#[82, 111, 111, 116]⟩ = b4 at hres hq4
  have U4 := Aside0.mk U4
  have U5 := UA ⟨#[83, 105, 122, 101]⟩ true 2
  change ∀ (w1 : World), RowKit.Below w.heap.size w w1 → Calls Try.prog 111 #[.slice A d.length c, .string ⟨#[83, 105, 122, 101]⟩, .bool true, .int .i64 2] w1 fun e w' => ∃ v4 v5, e = .returned (.tuple #[.agg #[.int .i64 (gk d ⟨#[83, 105, 122, 101]⟩).f0, .int .i64 (gk d ⟨#[83, 105, 122, 101]⟩).f1, .int .i64 (gk d ⟨#[83, 105, 122, 101]⟩).f2, .string (gk d ⟨#[83, 105, 122, 101]⟩).f3, v4, v5], .bool (underS (gk d ⟨#[83, 105, 122, 101]⟩) (hk d ⟨#[83, 105, 122, 101]⟩) ⟨#[83, 105, 122, 101]⟩ true 2).1, .int .i64 (underS (gk d ⟨#[83, 105, 122, 101]⟩) (hk d ⟨#[83, 105, 122, 101]⟩) ⟨#[83, 105, 122, 101]⟩ true 2).2]) ∧ k35.R 35 w' w1.heap.size (fun _ => True) v4 (gk d ⟨#[83, 105, 122, 101]⟩).f4 ∧ k89.R 89 w' w1.heap.size (fun _ => True) v5 (gk d ⟨#[83, 105, 122, 101]⟩).f5 ∧ RowKit.Below w1.heap.size w1 w' at U5
  obtain ⟨⟨o5, e5⟩, hq5⟩ : ∃ q, underS (gk d ⟨#[83, 105, 122, 101]⟩) (hk d ⟨#[83, 105, 122, 101]⟩) ⟨#[83, 105, 122, 101]⟩ true 2 = q := ⟨_, rfl⟩
  rw [hq5] at U5
  generalize gk d ⟨#[83, 105, 122, 101]⟩ = x5 at U5 hres hq5
  generalize hk d ⟨#[83, 105, 122, 101]⟩ = b5 at hres hq5
  have U5 := Aside0.mk U5
  have OB := Aside0.mk (ofB_und x1 x2 x3 x4 x5 b1 b2 b3 b4 b5 o1 o2 o3 o4 o5 e1 e2 e3 e4 e5 hq1 hq2 hq3 hq4 hq5)
  have HR := Aside0.mk hres
  have RG := Aside0.mk (fun (s : ByteArray) (h : s.size = 4) (w : World) => binderyref03_Get.calls 6 s _ _ w (rget4 s h))
  clear fd hl hC hres hq1 hq2 hq3 hq4 hq5 UA
  go_enter Try.func47, Try.ntmps47
  go_wp2_with fail
  refine Calls.mono (U1.out _ (below_alloc (RowKit.Below.refl w.heap.size w) (.cells #[.int .i64 0, .int .i64 0, .int .i64 0, .int .i64 0, .int .i64 0, .int .i64 0] 72))) ?_
  rintro e W1 ⟨v4, v5, rfl, r4, r5, hb⟩
  obtain ⟨a1, n1, hv4⟩ := Kd.R_slice r4
  obtain ⟨c1, m1, hv5⟩ := Kd.R_slice r5
  subst hv4
  subst hv5
  have BZ1 := Aside0.mk (blk_below (blk_new w (.cells #[.int .i64 0, .int .i64 0, .int .i64 0, .int .i64 0, .int .i64 0, .int .i64 0] 72)) hb)
  have HB1 := Aside0.mk (below_step (below_alloc (RowKit.Below.refl w.heap.size w) (.cells #[.int .i64 0, .int .i64 0, .int .i64 0, .int .i64 0, .int .i64 0, .int .i64 0] 72)) hb)
  have s1 : w.heap.size < W1.heap.size := by have h := hb.size; rw [World.size_alloc] at h; omega
  clear r4 r5 hb U1
  obtain ⟨z0, z1, z2, z3, z4, z5⟩ := box35 BZ1.out
  have y0 := frz BZ1.out (n := 0)
  have y1 := frz BZ1.out (n := 1)
  have y2 := frz BZ1.out (n := 2)
  have y3 := frz BZ1.out (n := 3)
  have y4 := frz BZ1.out (n := 4)
  have y5 := frz BZ1.out (n := 5)
  by_cases he : e1 = 0
  rotate_left
  · go_wp2
    have BF := Aside0.mk (blk_alloc (six_set (c0 := .int .i64 0) (c1 := .int .i64 0) (c2 := .int .i64 0) (c3 := .int .i64 0) (c4 := .int .i64 0) (c5 := .int .i64 0) BZ1.out) (.cells #[.int .i64 x1.f0, .int .i64 x1.f1, .int .i64 x1.f2, .string x1.f3, .slice a1 x1.f4.length n1, .slice c1 x1.f5.length m1] 35))
    have LF := Aside0.mk (below_alloc (RowKit.Below.setCell (RowKit.Below.setCell (RowKit.Below.setCell (RowKit.Below.setCell (RowKit.Below.setCell (RowKit.Below.setCell (HB1.out) (p := ⟨w.heap.size, 0, none⟩) (Nat.le_refl _) (.int .i64 0)) (p := ⟨w.heap.size, 1, none⟩) (Nat.le_refl _) (.int .i64 0)) (p := ⟨w.heap.size, 2, none⟩) (Nat.le_refl _) (.int .i64 0)) (p := ⟨w.heap.size, 3, none⟩) (Nat.le_refl _) (.int .i64 0)) (p := ⟨w.heap.size, 4, none⟩) (Nat.le_refl _) (.int .i64 0)) (p := ⟨w.heap.size, 5, none⟩) (Nat.le_refl _) (.int .i64 0)) (.cells #[.int .i64 x1.f0, .int .i64 x1.f1, .int .i64 x1.f2, .string x1.f3, .slice a1 x1.f4.length n1, .slice c1 x1.f5.length m1] 35))
    generalize (((((((W1.setCell ⟨w.heap.size, 0, none⟩ (.int .i64 0)).setCell ⟨w.heap.size, 1, none⟩ (.int .i64 0)).setCell ⟨w.heap.size, 2, none⟩ (.int .i64 0)).setCell ⟨w.heap.size, 3, none⟩ (.int .i64 0)).setCell ⟨w.heap.size, 4, none⟩ (.int .i64 0)).setCell ⟨w.heap.size, 5, none⟩ (.int .i64 0))).alloc (.cells #[.int .i64 x1.f0, .int .i64 x1.f1, .int .i64 x1.f2, .string x1.f3, .slice a1 x1.f4.length n1, .slice c1 x1.f5.length m1] 35) = WF at *
    obtain ⟨q0, q1, q2, q3, q4, q5⟩ := box35 BF.out
    obtain rfl : res = (0, 0, 0, 0, 0, 0, e1) := by rw [HR.out, OB.out.1, if_pos he]; rfl
    exact bodyPost_ret (v := .tuple #[.agg #[.int .i64 0, .int .i64 0, .int .i64 0, .int .i64 0, .int .i64 0, .int .i64 0], .int .i64 e1]) (by simp [results, Try.results47, go_sem, q0, q1, q2, q3, q4, q5]) rfl ⟨rfl, LF.out⟩
  subst he
  clear z0 z1 z2 z3 z4 z5 y0 y1 y2 y3 y4 y5
  go_wp2_with fail
  refine Calls.mono (U2.out _ (below_alloc HB1.out (.cells #[.int .i64 x1.f0, .int .i64 x1.f1, .int .i64 x1.f2, .string x1.f3, .slice a1 x1.f4.length n1, .slice c1 x1.f5.length m1] 35))) ?_
  rintro e W2 ⟨v4, v5, rfl, r4, r5, hb⟩
  obtain ⟨a2, n2, hv4⟩ := Kd.R_slice r4
  obtain ⟨c2, m2, hv5⟩ := Kd.R_slice r5
  subst hv4
  subst hv5
  have BZ2 := Aside0.mk (blk_below (blk_alloc BZ1.out (.cells #[.int .i64 x1.f0, .int .i64 x1.f1, .int .i64 x1.f2, .string x1.f3, .slice a1 x1.f4.length n1, .slice c1 x1.f5.length m1] 35)) hb)
  have HB2 := Aside0.mk (below_step (below_alloc HB1.out (.cells #[.int .i64 x1.f0, .int .i64 x1.f1, .int .i64 x1.f2, .string x1.f3, .slice a1 x1.f4.length n1, .slice c1 x1.f5.length m1] 35)) hb)
  have BX1_2 := Aside0.mk (blk_below (blk_new W1 (.cells #[.int .i64 x1.f0, .int .i64 x1.f1, .int .i64 x1.f2, .string x1.f3, .slice a1 x1.f4.length n1, .slice c1 x1.f5.length m1] 35)) hb)
  have s2 : W1.heap.size < W2.heap.size := by have h := hb.size; rw [World.size_alloc] at h; omega
  have sw2 : w.heap.size < W2.heap.size := by omega
  clear r4 r5 hb BZ1 HB1 U2
  obtain ⟨z0, z1, z2, z3, z4, z5⟩ := box35 BZ2.out
  have y0 := frz BZ2.out (n := 0)
  have y1 := frz BZ2.out (n := 1)
  have y2 := frz BZ2.out (n := 2)
  have y3 := frz BZ2.out (n := 3)
  have y4 := frz BZ2.out (n := 4)
  have y5 := frz BZ2.out (n := 5)
  by_cases he : e2 = 0
  rotate_left
  · go_wp2
    have BF := Aside0.mk (blk_alloc (six_set (c0 := .int .i64 0) (c1 := .int .i64 0) (c2 := .int .i64 0) (c3 := .int .i64 0) (c4 := .int .i64 0) (c5 := .int .i64 0) BZ2.out) (.cells #[.int .i64 x2.f0, .int .i64 x2.f1, .int .i64 x2.f2, .string x2.f3, .slice a2 x2.f4.length n2, .slice c2 x2.f5.length m2] 35))
    have LF := Aside0.mk (below_alloc (RowKit.Below.setCell (RowKit.Below.setCell (RowKit.Below.setCell (RowKit.Below.setCell (RowKit.Below.setCell (RowKit.Below.setCell (HB2.out) (p := ⟨w.heap.size, 0, none⟩) (Nat.le_refl _) (.int .i64 0)) (p := ⟨w.heap.size, 1, none⟩) (Nat.le_refl _) (.int .i64 0)) (p := ⟨w.heap.size, 2, none⟩) (Nat.le_refl _) (.int .i64 0)) (p := ⟨w.heap.size, 3, none⟩) (Nat.le_refl _) (.int .i64 0)) (p := ⟨w.heap.size, 4, none⟩) (Nat.le_refl _) (.int .i64 0)) (p := ⟨w.heap.size, 5, none⟩) (Nat.le_refl _) (.int .i64 0)) (.cells #[.int .i64 x2.f0, .int .i64 x2.f1, .int .i64 x2.f2, .string x2.f3, .slice a2 x2.f4.length n2, .slice c2 x2.f5.length m2] 35))
    generalize (((((((W2.setCell ⟨w.heap.size, 0, none⟩ (.int .i64 0)).setCell ⟨w.heap.size, 1, none⟩ (.int .i64 0)).setCell ⟨w.heap.size, 2, none⟩ (.int .i64 0)).setCell ⟨w.heap.size, 3, none⟩ (.int .i64 0)).setCell ⟨w.heap.size, 4, none⟩ (.int .i64 0)).setCell ⟨w.heap.size, 5, none⟩ (.int .i64 0))).alloc (.cells #[.int .i64 x2.f0, .int .i64 x2.f1, .int .i64 x2.f2, .string x2.f3, .slice a2 x2.f4.length n2, .slice c2 x2.f5.length m2] 35) = WF at *
    obtain ⟨q0, q1, q2, q3, q4, q5⟩ := box35 BF.out
    obtain rfl : res = (0, 0, 0, 0, 0, 0, e2) := by rw [HR.out, OB.out.1, if_neg (show ¬ (0 : Int) ≠ 0 from fun h => h rfl), if_pos he]; rfl
    exact bodyPost_ret (v := .tuple #[.agg #[.int .i64 0, .int .i64 0, .int .i64 0, .int .i64 0, .int .i64 0, .int .i64 0], .int .i64 e2]) (by simp [results, Try.results47, go_sem, q0, q1, q2, q3, q4, q5]) rfl ⟨rfl, LF.out⟩
  subst he
  clear z0 z1 z2 z3 z4 z5 y0 y1 y2 y3 y4 y5
  go_wp2_with fail
  refine Calls.mono (U3.out _ (below_alloc HB2.out (.cells #[.int .i64 x2.f0, .int .i64 x2.f1, .int .i64 x2.f2, .string x2.f3, .slice a2 x2.f4.length n2, .slice c2 x2.f5.length m2] 35))) ?_
  rintro e W3 ⟨v4, v5, rfl, r4, r5, hb⟩
  obtain ⟨a3, n3, hv4⟩ := Kd.R_slice r4
  obtain ⟨c3, m3, hv5⟩ := Kd.R_slice r5
  subst hv4
  subst hv5
  have BZ3 := Aside0.mk (blk_below (blk_alloc BZ2.out (.cells #[.int .i64 x2.f0, .int .i64 x2.f1, .int .i64 x2.f2, .string x2.f3, .slice a2 x2.f4.length n2, .slice c2 x2.f5.length m2] 35)) hb)
  have HB3 := Aside0.mk (below_step (below_alloc HB2.out (.cells #[.int .i64 x2.f0, .int .i64 x2.f1, .int .i64 x2.f2, .string x2.f3, .slice a2 x2.f4.length n2, .slice c2 x2.f5.length m2] 35)) hb)
  have BX1_3 := Aside0.mk (blk_below (blk_alloc BX1_2.out (.cells #[.int .i64 x2.f0, .int .i64 x2.f1, .int .i64 x2.f2, .string x2.f3, .slice a2 x2.f4.length n2, .slice c2 x2.f5.length m2] 35)) hb)
  have BX2_3 := Aside0.mk (blk_below (blk_new W2 (.cells #[.int .i64 x2.f0, .int .i64 x2.f1, .int .i64 x2.f2, .string x2.f3, .slice a2 x2.f4.length n2, .slice c2 x2.f5.length m2] 35)) hb)
  have s3 : W2.heap.size < W3.heap.size := by have h := hb.size; rw [World.size_alloc] at h; omega
  have sw3 : w.heap.size < W3.heap.size := by omega
  have s1_3 : W1.heap.size < W3.heap.size := by omega
  clear r4 r5 hb BZ2 HB2 U3 BX1_2
  obtain ⟨z0, z1, z2, z3, z4, z5⟩ := box35 BZ3.out
  have y0 := frz BZ3.out (n := 0)
  have y1 := frz BZ3.out (n := 1)
  have y2 := frz BZ3.out (n := 2)
  have y3 := frz BZ3.out (n := 3)
  have y4 := frz BZ3.out (n := 4)
  have y5 := frz BZ3.out (n := 5)
  by_cases he : e3 = 0
  rotate_left
  · go_wp2
    have BF := Aside0.mk (blk_alloc (six_set (c0 := .int .i64 0) (c1 := .int .i64 0) (c2 := .int .i64 0) (c3 := .int .i64 0) (c4 := .int .i64 0) (c5 := .int .i64 0) BZ3.out) (.cells #[.int .i64 x3.f0, .int .i64 x3.f1, .int .i64 x3.f2, .string x3.f3, .slice a3 x3.f4.length n3, .slice c3 x3.f5.length m3] 35))
    have LF := Aside0.mk (below_alloc (RowKit.Below.setCell (RowKit.Below.setCell (RowKit.Below.setCell (RowKit.Below.setCell (RowKit.Below.setCell (RowKit.Below.setCell (HB3.out) (p := ⟨w.heap.size, 0, none⟩) (Nat.le_refl _) (.int .i64 0)) (p := ⟨w.heap.size, 1, none⟩) (Nat.le_refl _) (.int .i64 0)) (p := ⟨w.heap.size, 2, none⟩) (Nat.le_refl _) (.int .i64 0)) (p := ⟨w.heap.size, 3, none⟩) (Nat.le_refl _) (.int .i64 0)) (p := ⟨w.heap.size, 4, none⟩) (Nat.le_refl _) (.int .i64 0)) (p := ⟨w.heap.size, 5, none⟩) (Nat.le_refl _) (.int .i64 0)) (.cells #[.int .i64 x3.f0, .int .i64 x3.f1, .int .i64 x3.f2, .string x3.f3, .slice a3 x3.f4.length n3, .slice c3 x3.f5.length m3] 35))
    generalize (((((((W3.setCell ⟨w.heap.size, 0, none⟩ (.int .i64 0)).setCell ⟨w.heap.size, 1, none⟩ (.int .i64 0)).setCell ⟨w.heap.size, 2, none⟩ (.int .i64 0)).setCell ⟨w.heap.size, 3, none⟩ (.int .i64 0)).setCell ⟨w.heap.size, 4, none⟩ (.int .i64 0)).setCell ⟨w.heap.size, 5, none⟩ (.int .i64 0))).alloc (.cells #[.int .i64 x3.f0, .int .i64 x3.f1, .int .i64 x3.f2, .string x3.f3, .slice a3 x3.f4.length n3, .slice c3 x3.f5.length m3] 35) = WF at *
    obtain ⟨q0, q1, q2, q3, q4, q5⟩ := box35 BF.out
    obtain rfl : res = (0, 0, 0, 0, 0, 0, e3) := by rw [HR.out, OB.out.1, if_neg (show ¬ (0 : Int) ≠ 0 from fun h => h rfl), if_neg (show ¬ (0 : Int) ≠ 0 from fun h => h rfl), if_pos he]; rfl
    exact bodyPost_ret (v := .tuple #[.agg #[.int .i64 0, .int .i64 0, .int .i64 0, .int .i64 0, .int .i64 0, .int .i64 0], .int .i64 e3]) (by simp [results, Try.results47, go_sem, q0, q1, q2, q3, q4, q5]) rfl ⟨rfl, LF.out⟩
  subst he
  obtain rfl := OB.out.2.2 (by first | exact rfl | trivial)
  clear z0 z1 z2 z3 z4 z5 y0 y1 y2 y3 y4 y5
  go_wp2_with fail
  refine Calls.mono (U4.out _ (below_alloc HB3.out (.cells #[.int .i64 x3.f0, .int .i64 x3.f1, .int .i64 x3.f2, .string x3.f3, .slice a3 x3.f4.length n3, .slice c3 x3.f5.length m3] 35))) ?_
  rintro e W4 ⟨v4, v5, rfl, r4, r5, hb⟩
  obtain ⟨a4, n4, hv4⟩ := Kd.R_slice r4
  obtain ⟨c4, m4, hv5⟩ := Kd.R_slice r5
  subst hv4
  subst hv5
  have BZ4 := Aside0.mk (blk_below (blk_alloc BZ3.out (.cells #[.int .i64 x3.f0, .int .i64 x3.f1, .int .i64 x3.f2, .string x3.f3, .slice a3 x3.f4.length n3, .slice c3 x3.f5.length m3] 35)) hb)
  have HB4 := Aside0.mk (below_step (below_alloc HB3.out (.cells #[.int .i64 x3.f0, .int .i64 x3.f1, .int .i64 x3.f2, .string x3.f3, .slice a3 x3.f4.length n3, .slice c3 x3.f5.length m3] 35)) hb)
  have BX1_4 := Aside0.mk (blk_below (blk_alloc BX1_3.out (.cells #[.int .i64 x3.f0, .int .i64 x3.f1, .int .i64 x3.f2, .string x3.f3, .slice a3 x3.f4.length n3, .slice c3 x3.f5.length m3] 35)) hb)
  have BX2_4 := Aside0.mk (blk_below (blk_alloc BX2_3.out (.cells #[.int .i64 x3.f0, .int .i64 x3.f1, .int .i64 x3.f2, .string x3.f3, .slice a3 x3.f4.length n3, .slice c3 x3.f5.length m3] 35)) hb)
  have BX3_4 := Aside0.mk (blk_below (blk_new W3 (.cells #[.int .i64 x3.f0, .int .i64 x3.f1, .int .i64 x3.f2, .string x3.f3, .slice a3 x3.f4.length n3, .slice c3 x3.f5.length m3] 35)) hb)
  have s4 : W3.heap.size < W4.heap.size := by have h := hb.size; rw [World.size_alloc] at h; omega
  have sw4 : w.heap.size < W4.heap.size := by omega
  have s1_4 : W1.heap.size < W4.heap.size := by omega
  have s2_4 : W2.heap.size < W4.heap.size := by omega
  clear r4 r5 hb BZ3 HB3 U4 BX1_3 BX2_3
  obtain ⟨z0, z1, z2, z3, z4, z5⟩ := box35 BZ4.out
  have y0 := frz BZ4.out (n := 0)
  have y1 := frz BZ4.out (n := 1)
  have y2 := frz BZ4.out (n := 2)
  have y3 := frz BZ4.out (n := 3)
  have y4 := frz BZ4.out (n := 4)
  have y5 := frz BZ4.out (n := 5)
  by_cases he : e4 = 0
  rotate_left
  · go_wp2
    have BF := Aside0.mk (blk_alloc (six_set (c0 := .int .i64 0) (c1 := .int .i64 0) (c2 := .int .i64 0) (c3 := .int .i64 0) (c4 := .int .i64 0) (c5 := .int .i64 0) BZ4.out) (.cells #[.int .i64 x4.f0, .int .i64 x4.f1, .int .i64 x4.f2, .string x4.f3, .slice a4 x4.f4.length n4, .slice c4 x4.f5.length m4] 35))
    have LF := Aside0.mk (below_alloc (RowKit.Below.setCell (RowKit.Below.setCell (RowKit.Below.setCell (RowKit.Below.setCell (RowKit.Below.setCell (RowKit.Below.setCell (HB4.out) (p := ⟨w.heap.size, 0, none⟩) (Nat.le_refl _) (.int .i64 0)) (p := ⟨w.heap.size, 1, none⟩) (Nat.le_refl _) (.int .i64 0)) (p := ⟨w.heap.size, 2, none⟩) (Nat.le_refl _) (.int .i64 0)) (p := ⟨w.heap.size, 3, none⟩) (Nat.le_refl _) (.int .i64 0)) (p := ⟨w.heap.size, 4, none⟩) (Nat.le_refl _) (.int .i64 0)) (p := ⟨w.heap.size, 5, none⟩) (Nat.le_refl _) (.int .i64 0)) (.cells #[.int .i64 x4.f0, .int .i64 x4.f1, .int .i64 x4.f2, .string x4.f3, .slice a4 x4.f4.length n4, .slice c4 x4.f5.length m4] 35))
    generalize (((((((W4.setCell ⟨w.heap.size, 0, none⟩ (.int .i64 0)).setCell ⟨w.heap.size, 1, none⟩ (.int .i64 0)).setCell ⟨w.heap.size, 2, none⟩ (.int .i64 0)).setCell ⟨w.heap.size, 3, none⟩ (.int .i64 0)).setCell ⟨w.heap.size, 4, none⟩ (.int .i64 0)).setCell ⟨w.heap.size, 5, none⟩ (.int .i64 0))).alloc (.cells #[.int .i64 x4.f0, .int .i64 x4.f1, .int .i64 x4.f2, .string x4.f3, .slice a4 x4.f4.length n4, .slice c4 x4.f5.length m4] 35) = WF at *
    obtain ⟨q0, q1, q2, q3, q4, q5⟩ := box35 BF.out
    obtain rfl : res = (0, 0, 0, 0, 0, 0, e4) := by rw [HR.out, OB.out.1, if_neg (show ¬ (0 : Int) ≠ 0 from fun h => h rfl), if_neg (show ¬ (0 : Int) ≠ 0 from fun h => h rfl), if_neg (show ¬ (0 : Int) ≠ 0 from fun h => h rfl), if_pos he]; rfl
    exact bodyPost_ret (v := .tuple #[.agg #[.int .i64 0, .int .i64 0, .int .i64 0, .int .i64 0, .int .i64 0, .int .i64 0], .int .i64 e4]) (by simp [results, Try.results47, go_sem, q0, q1, q2, q3, q4, q5]) rfl ⟨rfl, LF.out⟩
  subst he
  clear z0 z1 z2 z3 z4 z5 y0 y1 y2 y3 y4 y5
  go_wp2_with fail
  refine Calls.mono (U5.out _ (below_alloc HB4.out (.cells #[.int .i64 x4.f0, .int .i64 x4.f1, .int .i64 x4.f2, .string x4.f3, .slice a4 x4.f4.length n4, .slice c4 x4.f5.length m4] 35))) ?_
  rintro e W5 ⟨v4, v5, rfl, r4, r5, hb⟩
  obtain ⟨a5, n5, hv4⟩ := Kd.R_slice r4
  obtain ⟨c5, m5, hv5⟩ := Kd.R_slice r5
  subst hv4
  subst hv5
  have BZ5 := Aside0.mk (blk_below (blk_alloc BZ4.out (.cells #[.int .i64 x4.f0, .int .i64 x4.f1, .int .i64 x4.f2, .string x4.f3, .slice a4 x4.f4.length n4, .slice c4 x4.f5.length m4] 35)) hb)
  have HB5 := Aside0.mk (below_step (below_alloc HB4.out (.cells #[.int .i64 x4.f0, .int .i64 x4.f1, .int .i64 x4.f2, .string x4.f3, .slice a4 x4.f4.length n4, .slice c4 x4.f5.length m4] 35)) hb)
  have BX1_5 := Aside0.mk (blk_below (blk_alloc BX1_4.out (.cells #[.int .i64 x4.f0, .int .i64 x4.f1, .int .i64 x4.f2, .string x4.f3, .slice a4 x4.f4.length n4, .slice c4 x4.f5.length m4] 35)) hb)
  have BX2_5 := Aside0.mk (blk_below (blk_alloc BX2_4.out (.cells #[.int .i64 x4.f0, .int .i64 x4.f1, .int .i64 x4.f2, .string x4.f3, .slice a4 x4.f4.length n4, .slice c4 x4.f5.length m4] 35)) hb)
  have BX3_5 := Aside0.mk (blk_below (blk_alloc BX3_4.out (.cells #[.int .i64 x4.f0, .int .i64 x4.f1, .int .i64 x4.f2, .string x4.f3, .slice a4 x4.f4.length n4, .slice c4 x4.f5.length m4] 35)) hb)
  have BX4_5 := Aside0.mk (blk_below (blk_new W4 (.cells #[.int .i64 x4.f0, .int .i64 x4.f1, .int .i64 x4.f2, .string x4.f3, .slice a4 x4.f4.length n4, .slice c4 x4.f5.length m4] 35)) hb)
  have s5 : W4.heap.size < W5.heap.size := by have h := hb.size; rw [World.size_alloc] at h; omega
  have sw5 : w.heap.size < W5.heap.size := by omega
  have s1_5 : W1.heap.size < W5.heap.size := by omega
  have s2_5 : W2.heap.size < W5.heap.size := by omega
  have s3_5 : W3.heap.size < W5.heap.size := by omega
  clear r4 r5 hb BZ4 HB4 U5 BX1_4 BX2_4 BX3_4
  obtain ⟨z0, z1, z2, z3, z4, z5⟩ := box35 BZ5.out
  have y0 := frz BZ5.out (n := 0)
  have y1 := frz BZ5.out (n := 1)
  have y2 := frz BZ5.out (n := 2)
  have y3 := frz BZ5.out (n := 3)
  have y4 := frz BZ5.out (n := 4)
  have y5 := frz BZ5.out (n := 5)
  by_cases he : e5 = 0
  rotate_left
  · go_wp2
    have BF := Aside0.mk (blk_alloc (six_set (c0 := .int .i64 0) (c1 := .int .i64 0) (c2 := .int .i64 0) (c3 := .int .i64 0) (c4 := .int .i64 0) (c5 := .int .i64 0) BZ5.out) (.cells #[.int .i64 x5.f0, .int .i64 x5.f1, .int .i64 x5.f2, .string x5.f3, .slice a5 x5.f4.length n5, .slice c5 x5.f5.length m5] 35))
    have LF := Aside0.mk (below_alloc (RowKit.Below.setCell (RowKit.Below.setCell (RowKit.Below.setCell (RowKit.Below.setCell (RowKit.Below.setCell (RowKit.Below.setCell (HB5.out) (p := ⟨w.heap.size, 0, none⟩) (Nat.le_refl _) (.int .i64 0)) (p := ⟨w.heap.size, 1, none⟩) (Nat.le_refl _) (.int .i64 0)) (p := ⟨w.heap.size, 2, none⟩) (Nat.le_refl _) (.int .i64 0)) (p := ⟨w.heap.size, 3, none⟩) (Nat.le_refl _) (.int .i64 0)) (p := ⟨w.heap.size, 4, none⟩) (Nat.le_refl _) (.int .i64 0)) (p := ⟨w.heap.size, 5, none⟩) (Nat.le_refl _) (.int .i64 0)) (.cells #[.int .i64 x5.f0, .int .i64 x5.f1, .int .i64 x5.f2, .string x5.f3, .slice a5 x5.f4.length n5, .slice c5 x5.f5.length m5] 35))
    generalize (((((((W5.setCell ⟨w.heap.size, 0, none⟩ (.int .i64 0)).setCell ⟨w.heap.size, 1, none⟩ (.int .i64 0)).setCell ⟨w.heap.size, 2, none⟩ (.int .i64 0)).setCell ⟨w.heap.size, 3, none⟩ (.int .i64 0)).setCell ⟨w.heap.size, 4, none⟩ (.int .i64 0)).setCell ⟨w.heap.size, 5, none⟩ (.int .i64 0))).alloc (.cells #[.int .i64 x5.f0, .int .i64 x5.f1, .int .i64 x5.f2, .string x5.f3, .slice a5 x5.f4.length n5, .slice c5 x5.f5.length m5] 35) = WF at *
    obtain ⟨q0, q1, q2, q3, q4, q5⟩ := box35 BF.out
    obtain rfl : res = (0, 0, 0, 0, 0, 0, e5) := by rw [HR.out, OB.out.1, if_neg (show ¬ (0 : Int) ≠ 0 from fun h => h rfl), if_neg (show ¬ (0 : Int) ≠ 0 from fun h => h rfl), if_neg (show ¬ (0 : Int) ≠ 0 from fun h => h rfl), if_neg (show ¬ (0 : Int) ≠ 0 from fun h => h rfl), if_pos he]; rfl
    exact bodyPost_ret (v := .tuple #[.agg #[.int .i64 0, .int .i64 0, .int .i64 0, .int .i64 0, .int .i64 0, .int .i64 0], .int .i64 e5]) (by simp [results, Try.results47, go_sem, q0, q1, q2, q3, q4, q5]) rfl ⟨rfl, LF.out⟩
  subst he
  clear z0 z1 z2 z3 z4 z5 y0 y1 y2 y3 y4 y5
  obtain ⟨l0, l1, l2, l3, l4, l5⟩ := box35 BX1_5.out
  go_wp2_with fail
  obtain ⟨cr, hcr⟩ : ∃ cr, cr = fl 0 (bytesOf x1.f3) := ⟨_, rfl⟩
  have S := RG.out x1.f3 (OB.out.2.1 (by first | exact rfl | trivial)) (W5.alloc (.cells #[.int .i64 x5.f0, .int .i64 x5.f1, .int .i64 x5.f2, .string x5.f3, .slice a5 x5.f4.length n5, .slice c5 x5.f5.length m5] 35))
  rw [← hcr] at S
  have CR := Aside0.mk hcr
  refine Calls.mono S ?_
  rintro e W6 ⟨rfl, hd⟩
  have hb := hd.below
  have s6 : W5.heap.size < W6.heap.size := by have h := hb.size; rw [World.size_alloc] at h; omega
  have sw6 : w.heap.size < W6.heap.size := by omega
  have s1_6 : W1.heap.size < W6.heap.size := by omega
  have s2_6 : W2.heap.size < W6.heap.size := by omega
  have s3_6 : W3.heap.size < W6.heap.size := by omega
  have s4_6 : W4.heap.size < W6.heap.size := by omega
  have BZ6 := Aside0.mk (blk_below (blk_alloc BZ5.out (.cells #[.int .i64 x5.f0, .int .i64 x5.f1, .int .i64 x5.f2, .string x5.f3, .slice a5 x5.f4.length n5, .slice c5 x5.f5.length m5] 35)) hb)
  have HB6 := Aside0.mk (below_step (below_alloc HB5.out (.cells #[.int .i64 x5.f0, .int .i64 x5.f1, .int .i64 x5.f2, .string x5.f3, .slice a5 x5.f4.length n5, .slice c5 x5.f5.length m5] 35)) hb)
  have BX1_6 := Aside0.mk (blk_below (blk_alloc BX1_5.out (.cells #[.int .i64 x5.f0, .int .i64 x5.f1, .int .i64 x5.f2, .string x5.f3, .slice a5 x5.f4.length n5, .slice c5 x5.f5.length m5] 35)) hb)
  have BX2_6 := Aside0.mk (blk_below (blk_alloc BX2_5.out (.cells #[.int .i64 x5.f0, .int .i64 x5.f1, .int .i64 x5.f2, .string x5.f3, .slice a5 x5.f4.length n5, .slice c5 x5.f5.length m5] 35)) hb)
  have BX3_6 := Aside0.mk (blk_below (blk_alloc BX3_5.out (.cells #[.int .i64 x5.f0, .int .i64 x5.f1, .int .i64 x5.f2, .string x5.f3, .slice a5 x5.f4.length n5, .slice c5 x5.f5.length m5] 35)) hb)
  have BX4_6 := Aside0.mk (blk_below (blk_alloc BX4_5.out (.cells #[.int .i64 x5.f0, .int .i64 x5.f1, .int .i64 x5.f2, .string x5.f3, .slice a5 x5.f4.length n5, .slice c5 x5.f5.length m5] 35)) hb)
  have BX5_6 := Aside0.mk (blk_below (blk_new W5 (.cells #[.int .i64 x5.f0, .int .i64 x5.f1, .int .i64 x5.f2, .string x5.f3, .slice a5 x5.f4.length n5, .slice c5 x5.f5.length m5] 35)) hb)
  clear S hd hb hcr RG BZ5 HB5 BX1_5 BX2_5 BX3_5 BX4_5 l0 l1 l2 l3 l4 l5
  obtain ⟨l0, l1, l2, l3, l4, l5⟩ := box35 BX5_6.out
  obtain ⟨k0, k1, k2, k3, k4, k5⟩ := box35 BX4_6.out
  obtain ⟨j0, j1, j2, j3, j4, j5⟩ := box35 BX2_6.out
  obtain ⟨i0, i1, i2, i3, i4, i5⟩ := box35 BX3_6.out
  cases o3
  · go_wp2_with fail
    obtain ⟨ce, hce⟩ : ∃ ce, ce = chkT x5.f1 (-1) x4.f1 x4.f2 x2.f1 cr := ⟨_, rfl⟩
    have S := HC.out x5.f1 (-1) x4.f1 x4.f2 x2.f1 cr (W6.alloc (.cells #[.int .i64 x5.f1, .int .i64 (-1), .int .i64 x4.f1, .int .i64 x4.f2, .int .i64 x2.f1, .int .i64 cr] 72))
    rw [← hce] at S
    have HCE := Aside0.mk hce
    refine Calls.mono S ?_
    rintro e W7 ⟨rfl, hb⟩
    have s7 : W6.heap.size < W7.heap.size := by have h := hb.size; rw [World.size_alloc] at h; omega
    have sw7 : w.heap.size < W7.heap.size := by omega
    have s3_7 : W3.heap.size < W7.heap.size := by omega
    have BT7 := Aside0.mk (blk_below (blk_new W6 (.cells #[.int .i64 x5.f1, .int .i64 (-1), .int .i64 x4.f1, .int .i64 x4.f2, .int .i64 x2.f1, .int .i64 cr] 72)) hb)
    have BX3_7 := Aside0.mk (blk_below (blk_alloc BX3_6.out (.cells #[.int .i64 x5.f1, .int .i64 (-1), .int .i64 x4.f1, .int .i64 x4.f2, .int .i64 x2.f1, .int .i64 cr] 72)) hb)
    have BZ7 := Aside0.mk (blk_below (blk_alloc BZ6.out (.cells #[.int .i64 x5.f1, .int .i64 (-1), .int .i64 x4.f1, .int .i64 x4.f2, .int .i64 x2.f1, .int .i64 cr] 72)) hb)
    have HB7 := Aside0.mk (below_step (below_alloc HB6.out (.cells #[.int .i64 x5.f1, .int .i64 (-1), .int .i64 x4.f1, .int .i64 x4.f2, .int .i64 x2.f1, .int .i64 cr] 72)) hb)
    clear S hb hce BZ6 HB6 l0 l1 l2 l3 l4 l5 k0 k1 k2 k3 k4 k5 j0 j1 j2 j3 j4 j5 i0 i1 i2 i3 i4 i5
    obtain ⟨k0, k1, k2, k3, k4, k5⟩ := box35 BT7.out
    obtain ⟨i0, i1, i2, i3, i4, i5⟩ := box35 BX3_7.out
    obtain ⟨z0, z1, z2, z3, z4, z5⟩ := box35 BZ7.out
    have y0 := frz BZ7.out (n := 0)
    have y1 := frz BZ7.out (n := 1)
    have y2 := frz BZ7.out (n := 2)
    have y3 := frz BZ7.out (n := 3)
    have y4 := frz BZ7.out (n := 4)
    have y5 := frz BZ7.out (n := 5)
    by_cases hc0 : ce = 0
    rotate_left
    · go_wp2
      have BF := Aside0.mk (six_set (c0 := .int .i64 0) (c1 := .int .i64 0) (c2 := .int .i64 0) (c3 := .int .i64 0) (c4 := .int .i64 0) (c5 := .int .i64 0) BZ7.out)
      have LF := Aside0.mk (RowKit.Below.setCell (RowKit.Below.setCell (RowKit.Below.setCell (RowKit.Below.setCell (RowKit.Below.setCell (RowKit.Below.setCell (HB7.out) (p := ⟨w.heap.size, 0, none⟩) (Nat.le_refl _) (.int .i64 0)) (p := ⟨w.heap.size, 1, none⟩) (Nat.le_refl _) (.int .i64 0)) (p := ⟨w.heap.size, 2, none⟩) (Nat.le_refl _) (.int .i64 0)) (p := ⟨w.heap.size, 3, none⟩) (Nat.le_refl _) (.int .i64 0)) (p := ⟨w.heap.size, 4, none⟩) (Nat.le_refl _) (.int .i64 0)) (p := ⟨w.heap.size, 5, none⟩) (Nat.le_refl _) (.int .i64 0))
      generalize ((((((W7.setCell ⟨w.heap.size, 0, none⟩ (.int .i64 0)).setCell ⟨w.heap.size, 1, none⟩ (.int .i64 0)).setCell ⟨w.heap.size, 2, none⟩ (.int .i64 0)).setCell ⟨w.heap.size, 3, none⟩ (.int .i64 0)).setCell ⟨w.heap.size, 4, none⟩ (.int .i64 0)).setCell ⟨w.heap.size, 5, none⟩ (.int .i64 0)) = WF at *
      obtain ⟨q0, q1, q2, q3, q4, q5⟩ := box35 BF.out
      obtain rfl : res = (0, 0, 0, 0, 0, 0, ce) := by rw [HR.out, OB.out.1, if_neg (show ¬ (0 : Int) ≠ 0 from fun h => h rfl), if_neg (show ¬ (0 : Int) ≠ 0 from fun h => h rfl), if_neg (show ¬ (0 : Int) ≠ 0 from fun h => h rfl), if_neg (show ¬ (0 : Int) ≠ 0 from fun h => h rfl), if_neg (show ¬ (0 : Int) ≠ 0 from fun h => h rfl), ← CR.out, if_neg (show ¬ (false = true) from fun h => by cases h), ← HCE.out, if_pos hc0]; rfl
      exact bodyPost_ret (v := .tuple #[.agg #[.int .i64 0, .int .i64 0, .int .i64 0, .int .i64 0, .int .i64 0, .int .i64 0], .int .i64 ce]) (by simp [results, Try.results47, go_sem, q0, q1, q2, q3, q4, q5]) rfl ⟨rfl, LF.out⟩
    subst hc0
    go_wp2
    have BF := Aside0.mk (six_set (c0 := .int .i64 x5.f1) (c1 := .int .i64 (-1)) (c2 := .int .i64 x4.f1) (c3 := .int .i64 x4.f2) (c4 := .int .i64 x2.f1) (c5 := .int .i64 cr) BZ7.out)
    have LF := Aside0.mk (RowKit.Below.setCell (RowKit.Below.setCell (RowKit.Below.setCell (RowKit.Below.setCell (RowKit.Below.setCell (RowKit.Below.setCell (HB7.out) (p := ⟨w.heap.size, 0, none⟩) (Nat.le_refl _) (.int .i64 x5.f1)) (p := ⟨w.heap.size, 1, none⟩) (Nat.le_refl _) (.int .i64 (-1))) (p := ⟨w.heap.size, 2, none⟩) (Nat.le_refl _) (.int .i64 x4.f1)) (p := ⟨w.heap.size, 3, none⟩) (Nat.le_refl _) (.int .i64 x4.f2)) (p := ⟨w.heap.size, 4, none⟩) (Nat.le_refl _) (.int .i64 x2.f1)) (p := ⟨w.heap.size, 5, none⟩) (Nat.le_refl _) (.int .i64 cr))
    generalize ((((((W7.setCell ⟨w.heap.size, 0, none⟩ (.int .i64 x5.f1)).setCell ⟨w.heap.size, 1, none⟩ (.int .i64 (-1))).setCell ⟨w.heap.size, 2, none⟩ (.int .i64 x4.f1)).setCell ⟨w.heap.size, 3, none⟩ (.int .i64 x4.f2)).setCell ⟨w.heap.size, 4, none⟩ (.int .i64 x2.f1)).setCell ⟨w.heap.size, 5, none⟩ (.int .i64 cr)) = WF at *
    obtain ⟨q0, q1, q2, q3, q4, q5⟩ := box35 BF.out
    obtain rfl : res = (x5.f1, (-1), x4.f1, x4.f2, x2.f1, cr, 0) := by rw [HR.out, OB.out.1, if_neg (show ¬ (0 : Int) ≠ 0 from fun h => h rfl), if_neg (show ¬ (0 : Int) ≠ 0 from fun h => h rfl), if_neg (show ¬ (0 : Int) ≠ 0 from fun h => h rfl), if_neg (show ¬ (0 : Int) ≠ 0 from fun h => h rfl), if_neg (show ¬ (0 : Int) ≠ 0 from fun h => h rfl), ← CR.out, if_neg (show ¬ (false = true) from fun h => by cases h), ← HCE.out, if_neg (show ¬ (0 : Int) ≠ 0 from fun h => h rfl), if_neg (show ¬ (false = true ∧ x3.f1 < 0) from fun h => by cases h.1)]
    exact bodyPost_ret (v := .tuple #[.agg #[.int .i64 x5.f1, .int .i64 (-1), .int .i64 x4.f1, .int .i64 x4.f2, .int .i64 x2.f1, .int .i64 cr], .int .i64 0]) (by simp [results, Try.results47, go_sem, q0, q1, q2, q3, q4, q5]) rfl ⟨rfl, LF.out⟩
  · go_wp2_with fail
    obtain ⟨ce, hce⟩ : ∃ ce, ce = chkT x5.f1 (x3.f1) x4.f1 x4.f2 x2.f1 cr := ⟨_, rfl⟩
    have S := HC.out x5.f1 (x3.f1) x4.f1 x4.f2 x2.f1 cr (W6.alloc (.cells #[.int .i64 x5.f1, .int .i64 (x3.f1), .int .i64 x4.f1, .int .i64 x4.f2, .int .i64 x2.f1, .int .i64 cr] 72))
    rw [← hce] at S
    have HCE := Aside0.mk hce
    refine Calls.mono S ?_
    rintro e W7 ⟨rfl, hb⟩
    have s7 : W6.heap.size < W7.heap.size := by have h := hb.size; rw [World.size_alloc] at h; omega
    have sw7 : w.heap.size < W7.heap.size := by omega
    have s3_7 : W3.heap.size < W7.heap.size := by omega
    have BT7 := Aside0.mk (blk_below (blk_new W6 (.cells #[.int .i64 x5.f1, .int .i64 (x3.f1), .int .i64 x4.f1, .int .i64 x4.f2, .int .i64 x2.f1, .int .i64 cr] 72)) hb)
    have BX3_7 := Aside0.mk (blk_below (blk_alloc BX3_6.out (.cells #[.int .i64 x5.f1, .int .i64 (x3.f1), .int .i64 x4.f1, .int .i64 x4.f2, .int .i64 x2.f1, .int .i64 cr] 72)) hb)
    have BZ7 := Aside0.mk (blk_below (blk_alloc BZ6.out (.cells #[.int .i64 x5.f1, .int .i64 (x3.f1), .int .i64 x4.f1, .int .i64 x4.f2, .int .i64 x2.f1, .int .i64 cr] 72)) hb)
    have HB7 := Aside0.mk (below_step (below_alloc HB6.out (.cells #[.int .i64 x5.f1, .int .i64 (x3.f1), .int .i64 x4.f1, .int .i64 x4.f2, .int .i64 x2.f1, .int .i64 cr] 72)) hb)
    clear S hb hce BZ6 HB6 l0 l1 l2 l3 l4 l5 k0 k1 k2 k3 k4 k5 j0 j1 j2 j3 j4 j5 i0 i1 i2 i3 i4 i5
    obtain ⟨k0, k1, k2, k3, k4, k5⟩ := box35 BT7.out
    obtain ⟨i0, i1, i2, i3, i4, i5⟩ := box35 BX3_7.out
    obtain ⟨z0, z1, z2, z3, z4, z5⟩ := box35 BZ7.out
    have y0 := frz BZ7.out (n := 0)
    have y1 := frz BZ7.out (n := 1)
    have y2 := frz BZ7.out (n := 2)
    have y3 := frz BZ7.out (n := 3)
    have y4 := frz BZ7.out (n := 4)
    have y5 := frz BZ7.out (n := 5)
    by_cases hc0 : ce = 0
    rotate_left
    · go_wp2
      have BF := Aside0.mk (six_set (c0 := .int .i64 0) (c1 := .int .i64 0) (c2 := .int .i64 0) (c3 := .int .i64 0) (c4 := .int .i64 0) (c5 := .int .i64 0) BZ7.out)
      have LF := Aside0.mk (RowKit.Below.setCell (RowKit.Below.setCell (RowKit.Below.setCell (RowKit.Below.setCell (RowKit.Below.setCell (RowKit.Below.setCell (HB7.out) (p := ⟨w.heap.size, 0, none⟩) (Nat.le_refl _) (.int .i64 0)) (p := ⟨w.heap.size, 1, none⟩) (Nat.le_refl _) (.int .i64 0)) (p := ⟨w.heap.size, 2, none⟩) (Nat.le_refl _) (.int .i64 0)) (p := ⟨w.heap.size, 3, none⟩) (Nat.le_refl _) (.int .i64 0)) (p := ⟨w.heap.size, 4, none⟩) (Nat.le_refl _) (.int .i64 0)) (p := ⟨w.heap.size, 5, none⟩) (Nat.le_refl _) (.int .i64 0))
      generalize ((((((W7.setCell ⟨w.heap.size, 0, none⟩ (.int .i64 0)).setCell ⟨w.heap.size, 1, none⟩ (.int .i64 0)).setCell ⟨w.heap.size, 2, none⟩ (.int .i64 0)).setCell ⟨w.heap.size, 3, none⟩ (.int .i64 0)).setCell ⟨w.heap.size, 4, none⟩ (.int .i64 0)).setCell ⟨w.heap.size, 5, none⟩ (.int .i64 0)) = WF at *
      obtain ⟨q0, q1, q2, q3, q4, q5⟩ := box35 BF.out
      obtain rfl : res = (0, 0, 0, 0, 0, 0, ce) := by rw [HR.out, OB.out.1, if_neg (show ¬ (0 : Int) ≠ 0 from fun h => h rfl), if_neg (show ¬ (0 : Int) ≠ 0 from fun h => h rfl), if_neg (show ¬ (0 : Int) ≠ 0 from fun h => h rfl), if_neg (show ¬ (0 : Int) ≠ 0 from fun h => h rfl), if_neg (show ¬ (0 : Int) ≠ 0 from fun h => h rfl), ← CR.out]; simp only [if_true, true_and]; rw [← HCE.out, if_pos hc0]; rfl
      exact bodyPost_ret (v := .tuple #[.agg #[.int .i64 0, .int .i64 0, .int .i64 0, .int .i64 0, .int .i64 0, .int .i64 0], .int .i64 ce]) (by simp [results, Try.results47, go_sem, q0, q1, q2, q3, q4, q5]) rfl ⟨rfl, LF.out⟩
    subst hc0
    by_cases hp : x3.f1 < 0
    · go_wp2
      have BF := Aside0.mk (six_set (c0 := .int .i64 0) (c1 := .int .i64 0) (c2 := .int .i64 0) (c3 := .int .i64 0) (c4 := .int .i64 0) (c5 := .int .i64 0) BZ7.out)
      have LF := Aside0.mk (RowKit.Below.setCell (RowKit.Below.setCell (RowKit.Below.setCell (RowKit.Below.setCell (RowKit.Below.setCell (RowKit.Below.setCell (HB7.out) (p := ⟨w.heap.size, 0, none⟩) (Nat.le_refl _) (.int .i64 0)) (p := ⟨w.heap.size, 1, none⟩) (Nat.le_refl _) (.int .i64 0)) (p := ⟨w.heap.size, 2, none⟩) (Nat.le_refl _) (.int .i64 0)) (p := ⟨w.heap.size, 3, none⟩) (Nat.le_refl _) (.int .i64 0)) (p := ⟨w.heap.size, 4, none⟩) (Nat.le_refl _) (.int .i64 0)) (p := ⟨w.heap.size, 5, none⟩) (Nat.le_refl _) (.int .i64 0))
      generalize ((((((W7.setCell ⟨w.heap.size, 0, none⟩ (.int .i64 0)).setCell ⟨w.heap.size, 1, none⟩ (.int .i64 0)).setCell ⟨w.heap.size, 2, none⟩ (.int .i64 0)).setCell ⟨w.heap.size, 3, none⟩ (.int .i64 0)).setCell ⟨w.heap.size, 4, none⟩ (.int .i64 0)).setCell ⟨w.heap.size, 5, none⟩ (.int .i64 0)) = WF at *
      obtain ⟨q0, q1, q2, q3, q4, q5⟩ := box35 BF.out
      obtain rfl : res = (0, 0, 0, 0, 0, 0, 3) := by rw [HR.out, OB.out.1, if_neg (show ¬ (0 : Int) ≠ 0 from fun h => h rfl), if_neg (show ¬ (0 : Int) ≠ 0 from fun h => h rfl), if_neg (show ¬ (0 : Int) ≠ 0 from fun h => h rfl), if_neg (show ¬ (0 : Int) ≠ 0 from fun h => h rfl), if_neg (show ¬ (0 : Int) ≠ 0 from fun h => h rfl), ← CR.out]; simp only [if_true, true_and]; rw [← HCE.out, if_neg (show ¬ (0 : Int) ≠ 0 from fun h => h rfl), if_pos hp]; rfl
      exact bodyPost_ret (v := .tuple #[.agg #[.int .i64 0, .int .i64 0, .int .i64 0, .int .i64 0, .int .i64 0, .int .i64 0], .int .i64 3]) (by simp [results, Try.results47, go_sem, q0, q1, q2, q3, q4, q5]) rfl ⟨rfl, LF.out⟩
    · go_wp2
      have BF := Aside0.mk (six_set (c0 := .int .i64 x5.f1) (c1 := .int .i64 (x3.f1)) (c2 := .int .i64 x4.f1) (c3 := .int .i64 x4.f2) (c4 := .int .i64 x2.f1) (c5 := .int .i64 cr) BZ7.out)
      have LF := Aside0.mk (RowKit.Below.setCell (RowKit.Below.setCell (RowKit.Below.setCell (RowKit.Below.setCell (RowKit.Below.setCell (RowKit.Below.setCell (HB7.out) (p := ⟨w.heap.size, 0, none⟩) (Nat.le_refl _) (.int .i64 x5.f1)) (p := ⟨w.heap.size, 1, none⟩) (Nat.le_refl _) (.int .i64 (x3.f1))) (p := ⟨w.heap.size, 2, none⟩) (Nat.le_refl _) (.int .i64 x4.f1)) (p := ⟨w.heap.size, 3, none⟩) (Nat.le_refl _) (.int .i64 x4.f2)) (p := ⟨w.heap.size, 4, none⟩) (Nat.le_refl _) (.int .i64 x2.f1)) (p := ⟨w.heap.size, 5, none⟩) (Nat.le_refl _) (.int .i64 cr))
      generalize ((((((W7.setCell ⟨w.heap.size, 0, none⟩ (.int .i64 x5.f1)).setCell ⟨w.heap.size, 1, none⟩ (.int .i64 (x3.f1))).setCell ⟨w.heap.size, 2, none⟩ (.int .i64 x4.f1)).setCell ⟨w.heap.size, 3, none⟩ (.int .i64 x4.f2)).setCell ⟨w.heap.size, 4, none⟩ (.int .i64 x2.f1)).setCell ⟨w.heap.size, 5, none⟩ (.int .i64 cr)) = WF at *
      obtain ⟨q0, q1, q2, q3, q4, q5⟩ := box35 BF.out
      obtain rfl : res = (x5.f1, (x3.f1), x4.f1, x4.f2, x2.f1, cr, 0) := by rw [HR.out, OB.out.1, if_neg (show ¬ (0 : Int) ≠ 0 from fun h => h rfl), if_neg (show ¬ (0 : Int) ≠ 0 from fun h => h rfl), if_neg (show ¬ (0 : Int) ≠ 0 from fun h => h rfl), if_neg (show ¬ (0 : Int) ≠ 0 from fun h => h rfl), if_neg (show ¬ (0 : Int) ≠ 0 from fun h => h rfl), ← CR.out]; simp only [if_true, true_and]; rw [← HCE.out, if_neg (show ¬ (0 : Int) ≠ 0 from fun h => h rfl), if_neg (show ¬ x3.f1 < 0 by omega)]
      exact bodyPost_ret (v := .tuple #[.agg #[.int .i64 x5.f1, .int .i64 (x3.f1), .int .i64 x4.f1, .int .i64 x4.f2, .int .i64 x2.f1, .int .i64 cr], .int .i64 0]) (by simp [results, Try.results47, go_sem, q0, q1, q2, q3, q4, q5]) rfl ⟨rfl, LF.out⟩
end Go.Proofs.Ytogpnkkoablmiaa.V
end
section
namespace Go.Proofs.Ytogpnkkoablmiaa.R
open Go.RowKit Go.Proofs.Ytogpnkkoablmiaa.Q Go.Proofs.YtogpnkkoablmiaaW.PrintWords Go.Proofs.YtogpnkkoablmiaaW.PrintLast Go.Proofs.YtogpnkkoablmiaaW.PrintMore
attribute [local go_sem] max2_int min2_int max_two min_two max_three min_three max_four min_four   -- for this text's walks alone
set_option linter.unusedVariables false
set_option linter.unusedSimpArgs false
noncomputable def fields_Put.f (a0 a1 : Int) : Option (ByteArray × Int) := Go.Proofs.Ytogpnkkoablmiaa.G.Put.f a0 a1
theorem fields_Put.calls (a0 : Int) (a1 : Int) (r1 : ByteArray) (r2 : Int) (w : World) (h : fields_Put.f a0 a1 = some (r1, r2)) :
    Calls Try.prog 101 #[.int .i64 a0, .int .i64 a1] w fun e w' => e = .returned (.tuple #[.string r1, .int .i64 r2]) ∧ Below w.heap.size w w' := Go.Proofs.Ytogpnkkoablmiaa.G.put_calls a0 a1 r1 r2 w h
noncomputable def trailer_number.f (a0 : ByteArray) (a1 : Int) : Option (ByteArray × Int × Int × Int × ByteArray × (List (S35)) × (List (S89))) := some (a0, 2, a1, 0, (⟨#[]⟩ : ByteArray), ([] : List (S35)), ([] : List (S89)))
set_option maxHeartbeats 8000000 in
set_option maxRecDepth 100000 in
theorem trailer_number.calls (a0 : ByteArray) (a1 : Int) (r1 : ByteArray) (r2 : Int) (r3 : Int) (r4 : Int) (r5 : ByteArray) (r6 : List (S35)) (r7 : List (S89)) (w : World) (h : trailer_number.f a0 a1 = some (r1, r2, r3, r4, r5, r6, r7)) :
    Calls Try.prog 102 #[.string a0, .int .i64 a1] w fun e w' => ∃ v5_ v6_ : Value, e = .returned (.agg #[.string r1, .int .i64 r2, .int .i64 r3, .int .i64 r4, .string r5, v5_, v6_]) ∧ Kd.R k35 35 w' w.heap.size (fun k_ => some k_ ≠ (v6_ : Value).ownBlock) v5_ r6 ∧ Kd.R k89 89 w' w.heap.size (fun k_ => some k_ ≠ (v5_ : Value).ownBlock) v6_ r7 ∧ Below w.heap.size w w' := by
  have hu89 := Try.underlying89
  have hu35 := Try.underlying35
  have HB := Aside0.mk (Below.refl w.heap.size w)
  have H : (some (a0, 2, a1, 0, (⟨#[]⟩ : ByteArray), ([] : List (S35)), ([] : List (S89)))) = some (r1, r2, r3, r4, r5, r6, r7) := h
  clear h
  simp only [Option.some.injEq, Prod.mk.injEq] at H
  obtain ⟨rfl, rfl, rfl, rfl, rfl, rfl, rfl⟩ := H
  go_enter Try.func102, Try.ntmps102
  go_wp2_with (first | ((with_reducible refine gate_dst (N := 4) rfl ?_); refine box_event ?hg (N := 4) ?hd (cs := #[.string (⟨#[]⟩ : ByteArray), .int .i64 0, .int .i64 0, .int .i64 0, .string (⟨#[]⟩ : ByteArray), .slice none 0 0, .slice none 0 0]) (t := 89) ?hr ?_; (case hd => rfl); (case hg => rfl); (case hr => first | (go_simp; done) | (go_simp; rfl)); intro gb102 hg w3 hbox hb; have n0_ := Aside0.mk (below_step (by repeat (first | (with_reducible first | exact HB.out | apply below_alloc | apply pw_below_drewN | apply below_drew1) | exact HB.out)) hb); have n1_ := Aside0.mk (hbox); have n2_ := Aside0.mk ((by rw [hg]; exact (below_size (by repeat (first | (with_reducible first | exact HB.out | apply below_alloc | apply pw_below_drewN | apply below_drew1) | exact HB.out))) : w.heap.size ≤ gb102)); have n3_ := Aside0.mk ((by rw [hg]; exact (below_size (by repeat (first | (with_reducible first | exact HB.out | apply below_alloc | apply pw_below_drewN | apply below_drew1) | exact HB.out))) : w.heap.size ≤ gb102)); clear HB; have HB := n0_; have BK102 := n1_; have GW102 := n2_; have GE102 := n3_; clear n0_ n1_ n2_ n3_; clear hb hbox hg; have hcz4_0 : w3.cell? ⟨gb102, 0, none⟩ = some (.string (⟨#[]⟩ : ByteArray)) := (blk_cell BK102.out 0).trans rfl; have hcz4_1 : w3.cell? ⟨gb102, 1, none⟩ = some (.int .i64 0) := (blk_cell BK102.out 1).trans rfl; have hcz4_2 : w3.cell? ⟨gb102, 2, none⟩ = some (.int .i64 0) := (blk_cell BK102.out 2).trans rfl; have hcz4_3 : w3.cell? ⟨gb102, 3, none⟩ = some (.int .i64 0) := (blk_cell BK102.out 3).trans rfl; have hcz4_4 : w3.cell? ⟨gb102, 4, none⟩ = some (.string (⟨#[]⟩ : ByteArray)) := (blk_cell BK102.out 4).trans rfl; have hcz4_5 : w3.cell? ⟨gb102, 5, none⟩ = some (.slice none 0 0) := (blk_cell BK102.out 5).trans rfl; have hcz4_6 : w3.cell? ⟨gb102, 6, none⟩ = some (.slice none 0 0) := (blk_cell BK102.out 6).trans rfl; have hfz4_0 := blk_frozen BK102.out 0; have hfz4_1 := blk_frozen BK102.out 1; have hfz4_2 := blk_frozen BK102.out 2; have hfz4_3 := blk_frozen BK102.out 3; have hfz4_4 := blk_frozen BK102.out 4; have hfz4_5 := blk_frozen BK102.out 5; have hfz4_6 := blk_frozen BK102.out 6))
  refine bodyPost_ret (results_cell_row rfl _ _ gb102 89 #[.string a0, .int .i64 2, .int .i64 a1, .int .i64 0, .string (⟨#[]⟩ : ByteArray), .slice none 0 0, .slice none 0 0] (0, 0) _ rfl (by (with_reducible repeat (first | refine blk_drewN ?_ _ | refine blk_drew ?_ | refine blk_alloc ?_ _)); refine blk_put (cs := #[.string a0, .int .i64 2, .int .i64 a1, .int .i64 0, .string (⟨#[]⟩ : ByteArray), .slice none 0 0, .slice none 0 0]) ?_ 6 _ rfl; (with_reducible repeat (first | refine blk_drewN ?_ _ | refine blk_drew ?_ | refine blk_alloc ?_ _)); refine blk_put (cs := #[.string a0, .int .i64 2, .int .i64 a1, .int .i64 0, .string (⟨#[]⟩ : ByteArray), .slice none 0 0, .slice none 0 0]) ?_ 5 _ rfl; (with_reducible repeat (first | refine blk_drewN ?_ _ | refine blk_drew ?_ | refine blk_alloc ?_ _)); refine blk_put (cs := #[.string a0, .int .i64 2, .int .i64 a1, .int .i64 0, .string (⟨#[]⟩ : ByteArray), .slice none 0 0, .slice none 0 0]) ?_ 4 _ rfl; (with_reducible repeat (first | refine blk_drewN ?_ _ | refine blk_drew ?_ | refine blk_alloc ?_ _)); refine blk_put (cs := #[.string a0, .int .i64 2, .int .i64 a1, .int .i64 0, .string (⟨#[]⟩ : ByteArray), .slice none 0 0, .slice none 0 0]) ?_ 3 _ rfl; (with_reducible repeat (first | refine blk_drewN ?_ _ | refine blk_drew ?_ | refine blk_alloc ?_ _)); refine blk_put (cs := #[.string a0, .int .i64 2, .int .i64 0, .int .i64 0, .string (⟨#[]⟩ : ByteArray), .slice none 0 0, .slice none 0 0]) ?_ 2 _ rfl; (with_reducible repeat (first | refine blk_drewN ?_ _ | refine blk_drew ?_ | refine blk_alloc ?_ _)); refine blk_put (cs := #[.string a0, .int .i64 0, .int .i64 0, .int .i64 0, .string (⟨#[]⟩ : ByteArray), .slice none 0 0, .slice none 0 0]) ?_ 1 _ rfl; (with_reducible repeat (first | refine blk_drewN ?_ _ | refine blk_drew ?_ | refine blk_alloc ?_ _)); refine blk_put (cs := #[.string (⟨#[]⟩ : ByteArray), .int .i64 0, .int .i64 0, .int .i64 0, .string (⟨#[]⟩ : ByteArray), .slice none 0 0, .slice none 0 0]) ?_ 0 _ rfl; (with_reducible repeat (first | refine blk_drewN ?_ _ | refine blk_drew ?_ | refine blk_alloc ?_ _)); exact BK102.out) Try.underlying89 rfl (by kernel_rfl)) rfl ?_
  exact ⟨_, _, by first | rfl | (simp [errW_none, errW_some] <;> rfl) | (simp [*, errW_none, errW_some] <;> rfl), by first | exact Kd.R_nil _ _ _ _ _ | exact Kd.N_nil _ _ _ _ _ | exact Kd.V_nil _ _ _ _ _ | exact Kd.Q_nil _ _ _ _ _ | exact Kd.S_nil _ _ _ _ _, by first | exact Kd.R_nil _ _ _ _ _ | exact Kd.N_nil _ _ _ _ _ | exact Kd.V_nil _ _ _ _ _ | exact Kd.Q_nil _ _ _ _ _ | exact Kd.S_nil _ _ _ _ _, by repeat (first | (with_reducible first | exact HB.out | apply below_alloc | apply pw_below_drewN | apply below_drew1 | refine below_set ?_ GE102.out) | exact HB.out)⟩
noncomputable def trailer_Pairs.f (k : Nat) (a0_0 : Int) (a0_1 : Int) (a0_2 : Int) (a0_3 : Int) (a0_4 : Int) (a0_5 : Int) : Option ((List (S89)) × Int) := (trailer_Check.f k a0_0 a0_1 a0_2 a0_3 a0_4 a0_5).bind fun t104 => (if t104 = 0 then ((fields_Put.f a0_5 4).bind fun bt105 => ((trailer_number.f (⟨#[76, 101, 110]⟩ : ByteArray) a0_4).bind fun bt107 => ((some (([(⟨(⟨#[67, 114, 99]⟩ : ByteArray), (⟨4, 0, 0, bt105.1, ([] : List (S35)), ([] : List (S89))⟩ : S35)⟩ : S89), (⟨bt107.1, (⟨bt107.2.1, bt107.2.2.1, bt107.2.2.2.1, bt107.2.2.2.2.1, bt107.2.2.2.2.2.1, bt107.2.2.2.2.2.2⟩ : S35)⟩ : S89)] : List (S89)) : List (S89))).bind fun y118 => (if a0_1 ≥ 0 then ((trailer_number.f (⟨#[80, 114, 101, 118]⟩ : ByteArray) a0_1).bind fun bt121 => (if y118.length < 1353245080339 then ((some (y118 ++ [(⟨bt121.1, (⟨bt121.2.1, bt121.2.2.1, bt121.2.2.2.1, bt121.2.2.2.2.1, bt121.2.2.2.2.2.1, bt121.2.2.2.2.2.2⟩ : S35)⟩ : S89)] : List (S89))).bind fun y132 => (if a0_2 > 0 then (if y132.length < 1353245080339 then ((some (y132 ++ [(⟨(⟨#[82, 111, 111, 116]⟩ : ByteArray), (⟨7, a0_2, a0_3, (⟨#[]⟩ : ByteArray), ([] : List (S35)), ([] : List (S89))⟩ : S35)⟩ : S89)] : List (S89))).bind fun y135 => ((trailer_number.f (⟨#[83, 105, 122, 101]⟩ : ByteArray) a0_0).bind fun bt138 => (if y135.length < 1353245080339 then (some ((y135 ++ [(⟨bt138.1, (⟨bt138.2.1, bt138.2.2.1, bt138.2.2.2.1, bt138.2.2.2.2.1, bt138.2.2.2.2.2.1, bt138.2.2.2.2.2.2⟩ : S35)⟩ : S89)]), 0)) else (none)))) else (none)) else ((trailer_number.f (⟨#[83, 105, 122, 101]⟩ : ByteArray) a0_0).bind fun bt152 => (if y132.length < 1353245080339 then (some ((y132 ++ [(⟨bt152.1, (⟨bt152.2.1, bt152.2.2.1, bt152.2.2.2.1, bt152.2.2.2.2.1, bt152.2.2.2.2.2.1, bt152.2.2.2.2.2.2⟩ : S35)⟩ : S89)]), 0)) else (none))))) else (none))) else (if a0_2 > 0 then (if y118.length < 1353245080339 then ((some (y118 ++ [(⟨(⟨#[82, 111, 111, 116]⟩ : ByteArray), (⟨7, a0_2, a0_3, (⟨#[]⟩ : ByteArray), ([] : List (S35)), ([] : List (S89))⟩ : S35)⟩ : S89)] : List (S89))).bind fun y166 => ((trailer_number.f (⟨#[83, 105, 122, 101]⟩ : ByteArray) a0_0).bind fun bt169 => (if y166.length < 1353245080339 then (some ((y166 ++ [(⟨bt169.1, (⟨bt169.2.1, bt169.2.2.1, bt169.2.2.2.1, bt169.2.2.2.2.1, bt169.2.2.2.2.2.1, bt169.2.2.2.2.2.2⟩ : S35)⟩ : S89)]), 0)) else (none)))) else (none)) else ((trailer_number.f (⟨#[83, 105, 122, 101]⟩ : ByteArray) a0_0).bind fun bt183 => (if y118.length < 1353245080339 then (some ((y118 ++ [(⟨bt183.1, (⟨bt183.2.1, bt183.2.2.1, bt183.2.2.2.1, bt183.2.2.2.2.1, bt183.2.2.2.2.2.1, bt183.2.2.2.2.2.2⟩ : S35)⟩ : S89)]), 0)) else (none)))))))) else (some (([] : List (S89)), t104)))
set_option maxHeartbeats 8000000 in
set_option maxRecDepth 100000 in
theorem trailer_Pairs.calls (k : Nat) (a0_0 : Int) (a0_1 : Int) (a0_2 : Int) (a0_3 : Int) (a0_4 : Int) (a0_5 : Int) (r1 : List (S89)) (r2 : Int) (w : World) (h : trailer_Pairs.f k a0_0 a0_1 a0_2 a0_3 a0_4 a0_5 = some (r1, r2)) :
    Calls Try.prog 39 #[.agg #[.int .i64 a0_0, .int .i64 a0_1, .int .i64 a0_2, .int .i64 a0_3, .int .i64 a0_4, .int .i64 a0_5]] w fun e w' => ∃ v0_ : Value, e = .returned (.tuple #[v0_, .int .i64 r2]) ∧ Kd.N k89 89 w' w.heap.size (fun k_ => (w.heap.size ≤ k_)) v0_ r1 ∧ Below w.heap.size w w' := by
  have hu72 := Try.underlying72
  have hu35 := Try.underlying35
  have hu89 := Try.underlying89
  have HB := Aside0.mk (Below.refl w.heap.size w)
  have H : ((trailer_Check.f k a0_0 a0_1 a0_2 a0_3 a0_4 a0_5).bind fun t104 => (if t104 = 0 then ((fields_Put.f a0_5 4).bind fun bt105 => ((trailer_number.f (⟨#[76, 101, 110]⟩ : ByteArray) a0_4).bind fun bt107 => ((some (([(⟨(⟨#[67, 114, 99]⟩ : ByteArray), (⟨4, 0, 0, bt105.1, ([] : List (S35)), ([] : List (S89))⟩ : S35)⟩ : S89), (⟨bt107.1, (⟨bt107.2.1, bt107.2.2.1, bt107.2.2.2.1, bt107.2.2.2.2.1, bt107.2.2.2.2.2.1, bt107.2.2.2.2.2.2⟩ : S35)⟩ : S89)] : List (S89)) : List (S89))).bind fun y118 => (if a0_1 ≥ 0 then ((trailer_number.f (⟨#[80, 114, 101, 118]⟩ : ByteArray) a0_1).bind fun bt121 => (if y118.length < 1353245080339 then ((some (y118 ++ [(⟨bt121.1, (⟨bt121.2.1, bt121.2.2.1, bt121.2.2.2.1, bt121.2.2.2.2.1, bt121.2.2.2.2.2.1, bt121.2.2.2.2.2.2⟩ : S35)⟩ : S89)] : List (S89))).bind fun y132 => (if a0_2 > 0 then (if y132.length < 1353245080339 then ((some (y132 ++ [(⟨(⟨#[82, 111, 111, 116]⟩ : ByteArray), (⟨7, a0_2, a0_3, (⟨#[]⟩ : ByteArray), ([] : List (S35)), ([] : List (S89))⟩ : S35)⟩ : S89)] : List (S89))).bind fun y135 => ((trailer_number.f (⟨#[83, 105, 122, 101]⟩ : ByteArray) a0_0).bind fun bt138 => (if y135.length < 1353245080339 then (some ((y135 ++ [(⟨bt138.1, (⟨bt138.2.1, bt138.2.2.1, bt138.2.2.2.1, bt138.2.2.2.2.1, bt138.2.2.2.2.2.1, bt138.2.2.2.2.2.2⟩ : S35)⟩ : S89)]), 0)) else (none)))) else (none)) else ((trailer_number.f (⟨#[83, 105, 122, 101]⟩ : ByteArray) a0_0).bind fun bt152 => (if y132.length < 1353245080339 then (some ((y132 ++ [(⟨bt152.1, (⟨bt152.2.1, bt152.2.2.1, bt152.2.2.2.1, bt152.2.2.2.2.1, bt152.2.2.2.2.2.1, bt152.2.2.2.2.2.2⟩ : S35)⟩ : S89)]), 0)) else (none))))) else (none))) else (if a0_2 > 0 then (if y118.length < 1353245080339 then ((some (y118 ++ [(⟨(⟨#[82, 111, 111, 116]⟩ : ByteArray), (⟨7, a0_2, a0_3, (⟨#[]⟩ : ByteArray), ([] : List (S35)), ([] : List (S89))⟩ : S35)⟩ : S89)] : List (S89))).bind fun y166 => ((trailer_number.f (⟨#[83, 105, 122, 101]⟩ : ByteArray) a0_0).bind fun bt169 => (if y166.length < 1353245080339 then (some ((y166 ++ [(⟨bt169.1, (⟨bt169.2.1, bt169.2.2.1, bt169.2.2.2.1, bt169.2.2.2.2.1, bt169.2.2.2.2.2.1, bt169.2.2.2.2.2.2⟩ : S35)⟩ : S89)]), 0)) else (none)))) else (none)) else ((trailer_number.f (⟨#[83, 105, 122, 101]⟩ : ByteArray) a0_0).bind fun bt183 => (if y118.length < 1353245080339 then (some ((y118 ++ [(⟨bt183.1, (⟨bt183.2.1, bt183.2.2.1, bt183.2.2.2.1, bt183.2.2.2.2.1, bt183.2.2.2.2.2.1, bt183.2.2.2.2.2.2⟩ : S35)⟩ : S89)]), 0)) else (none)))))))) else (some (([] : List (S89)), t104)))) = some (r1, r2) := h
  clear h
  replace H := Option.bind_eq_some_iff.mp H
  obtain ⟨t104, A20, H⟩ := H
  replace H : (if t104 = 0 then ((fields_Put.f a0_5 4).bind fun bt105 => ((trailer_number.f (⟨#[76, 101, 110]⟩ : ByteArray) a0_4).bind fun bt107 => ((some (([(⟨(⟨#[67, 114, 99]⟩ : ByteArray), (⟨4, 0, 0, bt105.1, ([] : List (S35)), ([] : List (S89))⟩ : S35)⟩ : S89), (⟨bt107.1, (⟨bt107.2.1, bt107.2.2.1, bt107.2.2.2.1, bt107.2.2.2.2.1, bt107.2.2.2.2.2.1, bt107.2.2.2.2.2.2⟩ : S35)⟩ : S89)] : List (S89)) : List (S89))).bind fun y118 => (if a0_1 ≥ 0 then ((trailer_number.f (⟨#[80, 114, 101, 118]⟩ : ByteArray) a0_1).bind fun bt121 => (if y118.length < 1353245080339 then ((some (y118 ++ [(⟨bt121.1, (⟨bt121.2.1, bt121.2.2.1, bt121.2.2.2.1, bt121.2.2.2.2.1, bt121.2.2.2.2.2.1, bt121.2.2.2.2.2.2⟩ : S35)⟩ : S89)] : List (S89))).bind fun y132 => (if a0_2 > 0 then (if y132.length < 1353245080339 then ((some (y132 ++ [(⟨(⟨#[82, 111, 111, 116]⟩ : ByteArray), (⟨7, a0_2, a0_3, (⟨#[]⟩ : ByteArray), ([] : List (S35)), ([] : List (S89))⟩ : S35)⟩ : S89)] : List (S89))).bind fun y135 => ((trailer_number.f (⟨#[83, 105, 122, 101]⟩ : ByteArray) a0_0).bind fun bt138 => (if y135.length < 1353245080339 then (some ((y135 ++ [(⟨bt138.1, (⟨bt138.2.1, bt138.2.2.1, bt138.2.2.2.1, bt138.2.2.2.2.1, bt138.2.2.2.2.2.1, bt138.2.2.2.2.2.2⟩ : S35)⟩ : S89)]), 0)) else (none)))) else (none)) else ((trailer_number.f (⟨#[83, 105, 122, 101]⟩ : ByteArray) a0_0).bind fun bt152 => (if y132.length < 1353245080339 then (some ((y132 ++ [(⟨bt152.1, (⟨bt152.2.1, bt152.2.2.1, bt152.2.2.2.1, bt152.2.2.2.2.1, bt152.2.2.2.2.2.1, bt152.2.2.2.2.2.2⟩ : S35)⟩ : S89)]), 0)) else (none))))) else (none))) else (if a0_2 > 0 then (if y118.length < 1353245080339 then ((some (y118 ++ [(⟨(⟨#[82, 111, 111, 116]⟩ : ByteArray), (⟨7, a0_2, a0_3, (⟨#[]⟩ : ByteArray), ([] : List (S35)), ([] : List (S89))⟩ : S35)⟩ : S89)] : List (S89))).bind fun y166 => ((trailer_number.f (⟨#[83, 105, 122, 101]⟩ : ByteArray) a0_0).bind fun bt169 => (if y166.length < 1353245080339 then (some ((y166 ++ [(⟨bt169.1, (⟨bt169.2.1, bt169.2.2.1, bt169.2.2.2.1, bt169.2.2.2.2.1, bt169.2.2.2.2.2.1, bt169.2.2.2.2.2.2⟩ : S35)⟩ : S89)]), 0)) else (none)))) else (none)) else ((trailer_number.f (⟨#[83, 105, 122, 101]⟩ : ByteArray) a0_0).bind fun bt183 => (if y118.length < 1353245080339 then (some ((y118 ++ [(⟨bt183.1, (⟨bt183.2.1, bt183.2.2.1, bt183.2.2.2.1, bt183.2.2.2.2.1, bt183.2.2.2.2.2.1, bt183.2.2.2.2.2.2⟩ : S35)⟩ : S89)]), 0)) else (none)))))))) else (some (([] : List (S89)), t104))) = some (r1, r2) := H
  have A2 := Aside0.mk A20
  clear A20
  by_cases c3 : t104 = 0
  · rw [if_pos c3] at H
    have c3b0 : (t104 == 0) = true := beq_iff_eq.mpr c3
    have c3b1 : (t104 != 0) = false := bne_eq_false_iff_eq.mpr c3
    clear c3
    replace H := Option.bind_eq_some_iff.mp H
    obtain ⟨⟨t105, t106⟩, A40, H⟩ := H
    replace H : ((trailer_number.f (⟨#[76, 101, 110]⟩ : ByteArray) a0_4).bind fun bt107 => ((some (([(⟨(⟨#[67, 114, 99]⟩ : ByteArray), (⟨4, 0, 0, t105, ([] : List (S35)), ([] : List (S89))⟩ : S35)⟩ : S89), (⟨bt107.1, (⟨bt107.2.1, bt107.2.2.1, bt107.2.2.2.1, bt107.2.2.2.2.1, bt107.2.2.2.2.2.1, bt107.2.2.2.2.2.2⟩ : S35)⟩ : S89)] : List (S89)) : List (S89))).bind fun y118 => (if a0_1 ≥ 0 then ((trailer_number.f (⟨#[80, 114, 101, 118]⟩ : ByteArray) a0_1).bind fun bt121 => (if y118.length < 1353245080339 then ((some (y118 ++ [(⟨bt121.1, (⟨bt121.2.1, bt121.2.2.1, bt121.2.2.2.1, bt121.2.2.2.2.1, bt121.2.2.2.2.2.1, bt121.2.2.2.2.2.2⟩ : S35)⟩ : S89)] : List (S89))).bind fun y132 => (if a0_2 > 0 then (if y132.length < 1353245080339 then ((some (y132 ++ [(⟨(⟨#[82, 111, 111, 116]⟩ : ByteArray), (⟨7, a0_2, a0_3, (⟨#[]⟩ : ByteArray), ([] : List (S35)), ([] : List (S89))⟩ : S35)⟩ : S89)] : List (S89))).bind fun y135 => ((trailer_number.f (⟨#[83, 105, 122, 101]⟩ : ByteArray) a0_0).bind fun bt138 => (if y135.length < 1353245080339 then (some ((y135 ++ [(⟨bt138.1, (⟨bt138.2.1, bt138.2.2.1, bt138.2.2.2.1, bt138.2.2.2.2.1, bt138.2.2.2.2.2.1, bt138.2.2.2.2.2.2⟩ : S35)⟩ : S89)]), 0)) else (none)))) else (none)) else ((trailer_number.f (⟨#[83, 105, 122, 101]⟩ : ByteArray) a0_0).bind fun bt152 => (if y132.length < 1353245080339 then (some ((y132 ++ [(⟨bt152.1, (⟨bt152.2.1, bt152.2.2.1, bt152.2.2.2.1, bt152.2.2.2.2.1, bt152.2.2.2.2.2.1, bt152.2.2.2.2.2.2⟩ : S35)⟩ : S89)]), 0)) else (none))))) else (none))) else (if a0_2 > 0 then (if y118.length < 1353245080339 then ((some (y118 ++ [(⟨(⟨#[82, 111, 111, 116]⟩ : ByteArray), (⟨7, a0_2, a0_3, (⟨#[]⟩ : ByteArray), ([] : List (S35)), ([] : List (S89))⟩ : S35)⟩ : S89)] : List (S89))).bind fun y166 => ((trailer_number.f (⟨#[83, 105, 122, 101]⟩ : ByteArray) a0_0).bind fun bt169 => (if y166.length < 1353245080339 then (some ((y166 ++ [(⟨bt169.1, (⟨bt169.2.1, bt169.2.2.1, bt169.2.2.2.1, bt169.2.2.2.2.1, bt169.2.2.2.2.2.1, bt169.2.2.2.2.2.2⟩ : S35)⟩ : S89)]), 0)) else (none)))) else (none)) else ((trailer_number.f (⟨#[83, 105, 122, 101]⟩ : ByteArray) a0_0).bind fun bt183 => (if y118.length < 1353245080339 then (some ((y118 ++ [(⟨bt183.1, (⟨bt183.2.1, bt183.2.2.1, bt183.2.2.2.1, bt183.2.2.2.2.1, bt183.2.2.2.2.2.1, bt183.2.2.2.2.2.2⟩ : S35)⟩ : S89)]), 0)) else (none))))))) = some (r1, r2) := H
    have A4 := Aside0.mk A40
    clear A40
    replace H := Option.bind_eq_some_iff.mp H
    obtain ⟨⟨t107, t108, t109, t110, t111, t112, t115⟩, A50, H⟩ := H
    replace H : ((some (([(⟨(⟨#[67, 114, 99]⟩ : ByteArray), (⟨4, 0, 0, t105, ([] : List (S35)), ([] : List (S89))⟩ : S35)⟩ : S89), (⟨t107, (⟨t108, t109, t110, t111, t112, t115⟩ : S35)⟩ : S89)] : List (S89)) : List (S89))).bind fun y118 => (if a0_1 ≥ 0 then ((trailer_number.f (⟨#[80, 114, 101, 118]⟩ : ByteArray) a0_1).bind fun bt121 => (if y118.length < 1353245080339 then ((some (y118 ++ [(⟨bt121.1, (⟨bt121.2.1, bt121.2.2.1, bt121.2.2.2.1, bt121.2.2.2.2.1, bt121.2.2.2.2.2.1, bt121.2.2.2.2.2.2⟩ : S35)⟩ : S89)] : List (S89))).bind fun y132 => (if a0_2 > 0 then (if y132.length < 1353245080339 then ((some (y132 ++ [(⟨(⟨#[82, 111, 111, 116]⟩ : ByteArray), (⟨7, a0_2, a0_3, (⟨#[]⟩ : ByteArray), ([] : List (S35)), ([] : List (S89))⟩ : S35)⟩ : S89)] : List (S89))).bind fun y135 => ((trailer_number.f (⟨#[83, 105, 122, 101]⟩ : ByteArray) a0_0).bind fun bt138 => (if y135.length < 1353245080339 then (some ((y135 ++ [(⟨bt138.1, (⟨bt138.2.1, bt138.2.2.1, bt138.2.2.2.1, bt138.2.2.2.2.1, bt138.2.2.2.2.2.1, bt138.2.2.2.2.2.2⟩ : S35)⟩ : S89)]), 0)) else (none)))) else (none)) else ((trailer_number.f (⟨#[83, 105, 122, 101]⟩ : ByteArray) a0_0).bind fun bt152 => (if y132.length < 1353245080339 then (some ((y132 ++ [(⟨bt152.1, (⟨bt152.2.1, bt152.2.2.1, bt152.2.2.2.1, bt152.2.2.2.2.1, bt152.2.2.2.2.2.1, bt152.2.2.2.2.2.2⟩ : S35)⟩ : S89)]), 0)) else (none))))) else (none))) else (if a0_2 > 0 then (if y118.length < 1353245080339 then ((some (y118 ++ [(⟨(⟨#[82, 111, 111, 116]⟩ : ByteArray), (⟨7, a0_2, a0_3, (⟨#[]⟩ : ByteArray), ([] : List (S35)), ([] : List (S89))⟩ : S35)⟩ : S89)] : List (S89))).bind fun y166 => ((trailer_number.f (⟨#[83, 105, 122, 101]⟩ : ByteArray) a0_0).bind fun bt169 => (if y166.length < 1353245080339 then (some ((y166 ++ [(⟨bt169.1, (⟨bt169.2.1, bt169.2.2.1, bt169.2.2.2.1, bt169.2.2.2.2.1, bt169.2.2.2.2.2.1, bt169.2.2.2.2.2.2⟩ : S35)⟩ : S89)]), 0)) else (none)))) else (none)) else ((trailer_number.f (⟨#[83, 105, 122, 101]⟩ : ByteArray) a0_0).bind fun bt183 => (if y118.length < 1353245080339 then (some ((y118 ++ [(⟨bt183.1, (⟨bt183.2.1, bt183.2.2.1, bt183.2.2.2.1, bt183.2.2.2.2.1, bt183.2.2.2.2.2.1, bt183.2.2.2.2.2.2⟩ : S35)⟩ : S89)]), 0)) else (none)))))) = some (r1, r2) := H
    have A5 := Aside0.mk A50
    clear A50
    obtain ⟨y118, hy118⟩ : ∃ y_ : List (S89), y_ = (([(⟨(⟨#[67, 114, 99]⟩ : ByteArray), (⟨4, 0, 0, t105, ([] : List (S35)), ([] : List (S89))⟩ : S35)⟩ : S89), (⟨t107, (⟨t108, t109, t110, t111, t112, t115⟩ : S35)⟩ : S89)] : List (S89))) := ⟨_, rfl⟩
    replace H : (if a0_1 ≥ 0 then ((trailer_number.f (⟨#[80, 114, 101, 118]⟩ : ByteArray) a0_1).bind fun bt121 => (if y118.length < 1353245080339 then ((some (y118 ++ [(⟨bt121.1, (⟨bt121.2.1, bt121.2.2.1, bt121.2.2.2.1, bt121.2.2.2.2.1, bt121.2.2.2.2.2.1, bt121.2.2.2.2.2.2⟩ : S35)⟩ : S89)] : List (S89))).bind fun y132 => (if a0_2 > 0 then (if y132.length < 1353245080339 then ((some (y132 ++ [(⟨(⟨#[82, 111, 111, 116]⟩ : ByteArray), (⟨7, a0_2, a0_3, (⟨#[]⟩ : ByteArray), ([] : List (S35)), ([] : List (S89))⟩ : S35)⟩ : S89)] : List (S89))).bind fun y135 => ((trailer_number.f (⟨#[83, 105, 122, 101]⟩ : ByteArray) a0_0).bind fun bt138 => (if y135.length < 1353245080339 then (some ((y135 ++ [(⟨bt138.1, (⟨bt138.2.1, bt138.2.2.1, bt138.2.2.2.1, bt138.2.2.2.2.1, bt138.2.2.2.2.2.1, bt138.2.2.2.2.2.2⟩ : S35)⟩ : S89)]), 0)) else (none)))) else (none)) else ((trailer_number.f (⟨#[83, 105, 122, 101]⟩ : ByteArray) a0_0).bind fun bt152 => (if y132.length < 1353245080339 then (some ((y132 ++ [(⟨bt152.1, (⟨bt152.2.1, bt152.2.2.1, bt152.2.2.2.1, bt152.2.2.2.2.1, bt152.2.2.2.2.2.1, bt152.2.2.2.2.2.2⟩ : S35)⟩ : S89)]), 0)) else (none))))) else (none))) else (if a0_2 > 0 then (if y118.length < 1353245080339 then ((some (y118 ++ [(⟨(⟨#[82, 111, 111, 116]⟩ : ByteArray), (⟨7, a0_2, a0_3, (⟨#[]⟩ : ByteArray), ([] : List (S35)), ([] : List (S89))⟩ : S35)⟩ : S89)] : List (S89))).bind fun y166 => ((trailer_number.f (⟨#[83, 105, 122, 101]⟩ : ByteArray) a0_0).bind fun bt169 => (if y166.length < 1353245080339 then (some ((y166 ++ [(⟨bt169.1, (⟨bt169.2.1, bt169.2.2.1, bt169.2.2.2.1, bt169.2.2.2.2.1, bt169.2.2.2.2.2.1, bt169.2.2.2.2.2.2⟩ : S35)⟩ : S89)]), 0)) else (none)))) else (none)) else ((trailer_number.f (⟨#[83, 105, 122, 101]⟩ : ByteArray) a0_0).bind fun bt183 => (if y118.length < 1353245080339 then (some ((y118 ++ [(⟨bt183.1, (⟨bt183.2.1, bt183.2.2.1, bt183.2.2.2.1, bt183.2.2.2.2.1, bt183.2.2.2.2.2.1, bt183.2.2.2.2.2.2⟩ : S35)⟩ : S89)]), 0)) else (none))))) = some (r1, r2) := by first | (rw [hy118]; with_reducible exact H) | (have H2_ := (Option.bind_some _ _).symm.trans H; rw [hy118]; with_reducible exact H2_) | (have H2_ := (Option.bind_some _ _).symm.trans H; with_reducible exact H2_) | with_reducible exact H | (rw [hy118]; exact H) | exact H
    have Ny118 := Aside0.mk hy118
    clear hy118
    by_cases c6 : a0_1 ≥ 0
    · rw [if_pos c6] at H
      have c6b0 : decide (0 ≤ a0_1) = true := decide_eq_true c6
      clear c6
      replace H := Option.bind_eq_some_iff.mp H
      obtain ⟨⟨t121, t122, t123, t124, t125, t126, t129⟩, A70, H⟩ := H
      replace H : (if y118.length < 1353245080339 then ((some (y118 ++ [(⟨t121, (⟨t122, t123, t124, t125, t126, t129⟩ : S35)⟩ : S89)] : List (S89))).bind fun y132 => (if a0_2 > 0 then (if y132.length < 1353245080339 then ((some (y132 ++ [(⟨(⟨#[82, 111, 111, 116]⟩ : ByteArray), (⟨7, a0_2, a0_3, (⟨#[]⟩ : ByteArray), ([] : List (S35)), ([] : List (S89))⟩ : S35)⟩ : S89)] : List (S89))).bind fun y135 => ((trailer_number.f (⟨#[83, 105, 122, 101]⟩ : ByteArray) a0_0).bind fun bt138 => (if y135.length < 1353245080339 then (some ((y135 ++ [(⟨bt138.1, (⟨bt138.2.1, bt138.2.2.1, bt138.2.2.2.1, bt138.2.2.2.2.1, bt138.2.2.2.2.2.1, bt138.2.2.2.2.2.2⟩ : S35)⟩ : S89)]), 0)) else (none)))) else (none)) else ((trailer_number.f (⟨#[83, 105, 122, 101]⟩ : ByteArray) a0_0).bind fun bt152 => (if y132.length < 1353245080339 then (some ((y132 ++ [(⟨bt152.1, (⟨bt152.2.1, bt152.2.2.1, bt152.2.2.2.1, bt152.2.2.2.2.1, bt152.2.2.2.2.2.1, bt152.2.2.2.2.2.2⟩ : S35)⟩ : S89)]), 0)) else (none))))) else (none)) = some (r1, r2) := H
      have A7 := Aside0.mk A70
      clear A70
      by_cases c8 : y118.length < 1353245080339
      · rw [if_pos c8] at H
        have LMc8 := Aside0.mk c8
        clear c8
        obtain ⟨y132, hy132⟩ : ∃ y_ : List (S89), y_ = (y118 ++ [(⟨t121, (⟨t122, t123, t124, t125, t126, t129⟩ : S35)⟩ : S89)]) := ⟨_, rfl⟩
        replace H : (if a0_2 > 0 then (if y132.length < 1353245080339 then ((some (y132 ++ [(⟨(⟨#[82, 111, 111, 116]⟩ : ByteArray), (⟨7, a0_2, a0_3, (⟨#[]⟩ : ByteArray), ([] : List (S35)), ([] : List (S89))⟩ : S35)⟩ : S89)] : List (S89))).bind fun y135 => ((trailer_number.f (⟨#[83, 105, 122, 101]⟩ : ByteArray) a0_0).bind fun bt138 => (if y135.length < 1353245080339 then (some ((y135 ++ [(⟨bt138.1, (⟨bt138.2.1, bt138.2.2.1, bt138.2.2.2.1, bt138.2.2.2.2.1, bt138.2.2.2.2.2.1, bt138.2.2.2.2.2.2⟩ : S35)⟩ : S89)]), 0)) else (none)))) else (none)) else ((trailer_number.f (⟨#[83, 105, 122, 101]⟩ : ByteArray) a0_0).bind fun bt152 => (if y132.length < 1353245080339 then (some ((y132 ++ [(⟨bt152.1, (⟨bt152.2.1, bt152.2.2.1, bt152.2.2.2.1, bt152.2.2.2.2.1, bt152.2.2.2.2.2.1, bt152.2.2.2.2.2.2⟩ : S35)⟩ : S89)]), 0)) else (none)))) = some (r1, r2) := by first | (rw [hy132]; with_reducible exact H) | (have H2_ := (Option.bind_some _ _).symm.trans H; rw [hy132]; with_reducible exact H2_) | (have H2_ := (Option.bind_some _ _).symm.trans H; with_reducible exact H2_) | with_reducible exact H | (rw [hy132]; exact H) | exact H
        have Ny132 := Aside0.mk hy132
        clear hy132
        by_cases c9 : a0_2 > 0
        · rw [if_pos c9] at H
          have c9b0 : decide (0 < a0_2) = true := decide_eq_true c9
          clear c9
          by_cases c10 : y132.length < 1353245080339
          · rw [if_pos c10] at H
            have LMc10 := Aside0.mk c10
            clear c10
            obtain ⟨y135, hy135⟩ : ∃ y_ : List (S89), y_ = (y132 ++ [(⟨(⟨#[82, 111, 111, 116]⟩ : ByteArray), (⟨7, a0_2, a0_3, (⟨#[]⟩ : ByteArray), ([] : List (S35)), ([] : List (S89))⟩ : S35)⟩ : S89)]) := ⟨_, rfl⟩
            replace H : ((trailer_number.f (⟨#[83, 105, 122, 101]⟩ : ByteArray) a0_0).bind fun bt138 => (if y135.length < 1353245080339 then (some ((y135 ++ [(⟨bt138.1, (⟨bt138.2.1, bt138.2.2.1, bt138.2.2.2.1, bt138.2.2.2.2.1, bt138.2.2.2.2.2.1, bt138.2.2.2.2.2.2⟩ : S35)⟩ : S89)]), 0)) else (none))) = some (r1, r2) := by first | (rw [hy135]; with_reducible exact H) | (have H2_ := (Option.bind_some _ _).symm.trans H; rw [hy135]; with_reducible exact H2_) | (have H2_ := (Option.bind_some _ _).symm.trans H; with_reducible exact H2_) | with_reducible exact H | (rw [hy135]; exact H) | exact H
            have Ny135 := Aside0.mk hy135
            clear hy135
            replace H := Option.bind_eq_some_iff.mp H
            obtain ⟨⟨t138, t139, t140, t141, t142, t143, t146⟩, A110, H⟩ := H
            replace H : (if y135.length < 1353245080339 then (some ((y135 ++ [(⟨t138, (⟨t139, t140, t141, t142, t143, t146⟩ : S35)⟩ : S89)]), 0)) else (none)) = some (r1, r2) := H
            have A11 := Aside0.mk A110
            clear A110
            by_cases c12 : y135.length < 1353245080339
            · rw [if_pos c12] at H
              have LMc12 := Aside0.mk c12
              clear c12
              obtain ⟨y149, hy149⟩ : ∃ y_ : List (S89), y_ = (y135 ++ [(⟨t138, (⟨t139, t140, t141, t142, t143, t146⟩ : S35)⟩ : S89)]) := ⟨_, rfl⟩
              replace H : (some (y149, 0)) = some (r1, r2) := by first | (rw [hy149]; with_reducible exact H) | (have H2_ := (Option.bind_some _ _).symm.trans H; rw [hy149]; with_reducible exact H2_) | (have H2_ := (Option.bind_some _ _).symm.trans H; with_reducible exact H2_) | with_reducible exact H | (rw [hy149]; exact H) | exact H
              have Ny149 := Aside0.mk hy149
              clear hy149
              simp only [Option.some.injEq, Prod.mk.injEq] at H
              obtain ⟨rfl, rfl⟩ := H
              go_enter Try.func39, Try.ntmps39
              go_wp2_with (first | ((with_reducible refine gate_dst (N := 1) rfl ?_); refine box_event ?hg (N := 1) ?hd (cs := #[.int .i64 a0_0, .int .i64 a0_1, .int .i64 a0_2, .int .i64 a0_3, .int .i64 a0_4, .int .i64 a0_5]) (t := 72) ?hr ?_; (case hd => rfl); (case hg => rfl); (case hr => first | (go_simp; done) | (go_simp; rfl)); intro gb103 hg w13 hbox hb; have n0_ := Aside0.mk (below_step (by repeat (first | (with_reducible first | exact HB.out | apply below_alloc | apply pw_below_drewN | apply below_drew1) | exact HB.out)) hb); have n1_ := Aside0.mk (hbox); have n2_ := Aside0.mk ((by rw [hg]; exact (below_size (by repeat (first | (with_reducible first | exact HB.out | apply below_alloc | apply pw_below_drewN | apply below_drew1) | exact HB.out))) : w.heap.size ≤ gb103)); have n3_ := Aside0.mk ((by rw [hg]; exact (below_size (by repeat (first | (with_reducible first | exact HB.out | apply below_alloc | apply pw_below_drewN | apply below_drew1) | exact HB.out))) : w.heap.size ≤ gb103)); clear HB; have HB := n0_; have BK103 := n1_; have GW103 := n2_; have GE103 := n3_; clear n0_ n1_ n2_ n3_; clear hb hbox hg; have hcz14_0 : w13.cell? ⟨gb103, 0, none⟩ = some (.int .i64 a0_0) := (blk_cell BK103.out 0).trans rfl; have hcz14_1 : w13.cell? ⟨gb103, 1, none⟩ = some (.int .i64 a0_1) := (blk_cell BK103.out 1).trans rfl; have hcz14_2 : w13.cell? ⟨gb103, 2, none⟩ = some (.int .i64 a0_2) := (blk_cell BK103.out 2).trans rfl; have hcz14_3 : w13.cell? ⟨gb103, 3, none⟩ = some (.int .i64 a0_3) := (blk_cell BK103.out 3).trans rfl; have hcz14_4 : w13.cell? ⟨gb103, 4, none⟩ = some (.int .i64 a0_4) := (blk_cell BK103.out 4).trans rfl; have hcz14_5 : w13.cell? ⟨gb103, 5, none⟩ = some (.int .i64 a0_5) := (blk_cell BK103.out 5).trans rfl; have hfz14_0 := blk_frozen BK103.out 0; have hfz14_1 := blk_frozen BK103.out 1; have hfz14_2 := blk_frozen BK103.out 2; have hfz14_3 := blk_frozen BK103.out 3; have hfz14_4 := blk_frozen BK103.out 4; have hfz14_5 := blk_frozen BK103.out 5) | ((with_reducible refine gate_callee (f := 42) rfl ?_); refine goesL_ (some 9) rfl rfl Try.func42 (by kernel_rfl) rfl #[.agg #[.int .i64 a0_0, .int .i64 a0_1, .int .i64 a0_2, .int .i64 a0_3, .int .i64 a0_4, .int .i64 a0_5]] rfl (by (try simp only [List.map_toArray, List.map_cons, List.map_nil]); first | done | rfl | (simp only [List.length_drop, List.length_take]; rfl)) ?_; (with_reducible refine (trailer_Check.calls k a0_0 a0_1 a0_2 a0_3 a0_4 a0_5 t104 _ A2.out).mono ?_); rintro e w15 ⟨rfl, hb⟩; refine ⟨_, rfl, ?_⟩; have n0_ := Aside0.mk (blk_below (g := gb103) (o := .cells #[.int .i64 a0_0, .int .i64 a0_1, .int .i64 a0_2, .int .i64 a0_3, .int .i64 a0_4, .int .i64 a0_5] 72 (0, 0)) (by (with_reducible repeat (first | refine blk_drewN ?_ _ | refine blk_drew ?_ | refine blk_alloc ?_ _)); exact BK103.out) hb); have n1_ := Aside0.mk (below_step (by repeat (first | (with_reducible first | exact HB.out | apply below_alloc | apply pw_below_drewN | apply below_drew1 | refine below_set ?_ GE103.out) | exact HB.out)) hb); clear BK103; clear HB; have BK103 := n0_; have HB := n1_; clear n0_ n1_; (try clear hb); (try clear hb2); (try clear hk); (try clear hi); have hcz16_0 : w15.cell? ⟨gb103, 0, none⟩ = some (.int .i64 a0_0) := (blk_cell BK103.out 0).trans rfl; have hcz16_1 : w15.cell? ⟨gb103, 1, none⟩ = some (.int .i64 a0_1) := (blk_cell BK103.out 1).trans rfl; have hcz16_2 : w15.cell? ⟨gb103, 2, none⟩ = some (.int .i64 a0_2) := (blk_cell BK103.out 2).trans rfl; have hcz16_3 : w15.cell? ⟨gb103, 3, none⟩ = some (.int .i64 a0_3) := (blk_cell BK103.out 3).trans rfl; have hcz16_4 : w15.cell? ⟨gb103, 4, none⟩ = some (.int .i64 a0_4) := (blk_cell BK103.out 4).trans rfl; have hcz16_5 : w15.cell? ⟨gb103, 5, none⟩ = some (.int .i64 a0_5) := (blk_cell BK103.out 5).trans rfl; have hfz16_0 := blk_frozen BK103.out 0; have hfz16_1 := blk_frozen BK103.out 1; have hfz16_2 := blk_frozen BK103.out 2; have hfz16_3 := blk_frozen BK103.out 3; have hfz16_4 := blk_frozen BK103.out 4; have hfz16_5 := blk_frozen BK103.out 5) | ((with_reducible refine gate_callee (f := 101) rfl ?_); refine goesL_ (some 16) rfl rfl Try.func101 (by kernel_rfl) rfl #[.int .i64 a0_5, .int .i64 4] rfl (by (try simp only [List.map_toArray, List.map_cons, List.map_nil]); first | done | rfl | (simp only [List.length_drop, List.length_take]; rfl)) ?_; (with_reducible refine (fields_Put.calls a0_5 4 t105 t106 _ A4.out).mono ?_); rintro e w17 ⟨rfl, hb⟩; refine ⟨_, rfl, ?_⟩; have n0_ := Aside0.mk (blk_below (g := gb103) (o := .cells #[.int .i64 a0_0, .int .i64 a0_1, .int .i64 a0_2, .int .i64 a0_3, .int .i64 a0_4, .int .i64 a0_5] 72 (0, 0)) (by (with_reducible repeat (first | refine blk_drewN ?_ _ | refine blk_drew ?_ | refine blk_alloc ?_ _)); exact BK103.out) hb); have n1_ := Aside0.mk (below_step (by repeat (first | (with_reducible first | exact HB.out | apply below_alloc | apply pw_below_drewN | apply below_drew1 | refine below_set ?_ GE103.out) | exact HB.out)) hb); clear BK103; clear HB; have BK103 := n0_; have HB := n1_; clear n0_ n1_; (try clear hb); (try clear hb2); (try clear hk); (try clear hi); have hcz18_0 : w17.cell? ⟨gb103, 0, none⟩ = some (.int .i64 a0_0) := (blk_cell BK103.out 0).trans rfl; have hcz18_1 : w17.cell? ⟨gb103, 1, none⟩ = some (.int .i64 a0_1) := (blk_cell BK103.out 1).trans rfl; have hcz18_2 : w17.cell? ⟨gb103, 2, none⟩ = some (.int .i64 a0_2) := (blk_cell BK103.out 2).trans rfl; have hcz18_3 : w17.cell? ⟨gb103, 3, none⟩ = some (.int .i64 a0_3) := (blk_cell BK103.out 3).trans rfl; have hcz18_4 : w17.cell? ⟨gb103, 4, none⟩ = some (.int .i64 a0_4) := (blk_cell BK103.out 4).trans rfl; have hcz18_5 : w17.cell? ⟨gb103, 5, none⟩ = some (.int .i64 a0_5) := (blk_cell BK103.out 5).trans rfl; have hfz18_0 := blk_frozen BK103.out 0; have hfz18_1 := blk_frozen BK103.out 1; have hfz18_2 := blk_frozen BK103.out 2; have hfz18_3 := blk_frozen BK103.out 3; have hfz18_4 := blk_frozen BK103.out 4; have hfz18_5 := blk_frozen BK103.out 5) | ((with_reducible refine gate_callee (f := 102) rfl ?_); refine goesL_ (some 24) rfl rfl Try.func102 (by kernel_rfl) rfl #[.string (⟨#[76, 101, 110]⟩ : ByteArray), .int .i64 a0_4] rfl (by (try simp only [List.map_toArray, List.map_cons, List.map_nil]); first | done | rfl | (simp only [List.length_drop, List.length_take]; rfl)) ?_; (with_reducible refine (trailer_number.calls (⟨#[76, 101, 110]⟩ : ByteArray) a0_4 t107 t108 t109 t110 t111 t112 t115 _ A5.out).mono ?_); rintro e w19 ⟨v113, v116, rfl, ho0, ho1, hb⟩; refine ⟨_, rfl, ?_⟩; have n0_ := Aside0.mk (Kd.N_lower (Kd.N_mono (ok' := fun k_ => (w.heap.size ≤ k_) ∧ some k_ ≠ (v116 : Value).ownBlock ∧ k_ ≠ gb103) (Kd.R_N (Kd.R_bound ho0)) (fun k_ hk_ => ⟨(Nat.le_trans (below_size (by repeat (first | (with_reducible first | exact HB.out | apply below_alloc | apply pw_below_drewN | apply below_drew1 | refine below_set ?_ GE103.out) | exact HB.out))) hk_.2.1), hk_.1, (Kd.freshB (g := gb103) (o := .cells #[.int .i64 a0_0, .int .i64 a0_1, .int .i64 a0_2, .int .i64 a0_3, .int .i64 a0_4, .int .i64 a0_5] 72 (0, 0)) (by (with_reducible repeat (first | refine blk_drewN ?_ _ | refine blk_drew ?_ | refine blk_alloc ?_ _)); exact BK103.out) k_ hk_.2.1)⟩)) (below_size (by repeat (first | (with_reducible first | exact HB.out | apply below_alloc | apply pw_below_drewN | apply below_drew1 | refine below_set ?_ GE103.out) | exact HB.out)))); have n1_ := Aside0.mk (Kd.N_lower (Kd.N_mono (ok' := fun k_ => (w.heap.size ≤ k_) ∧ some k_ ≠ (v113 : Value).ownBlock ∧ k_ ≠ gb103) (Kd.R_N (Kd.R_bound ho1)) (fun k_ hk_ => ⟨(Nat.le_trans (below_size (by repeat (first | (with_reducible first | exact HB.out | apply below_alloc | apply pw_below_drewN | apply below_drew1 | refine below_set ?_ GE103.out) | exact HB.out))) hk_.2.1), hk_.1, (Kd.freshB (g := gb103) (o := .cells #[.int .i64 a0_0, .int .i64 a0_1, .int .i64 a0_2, .int .i64 a0_3, .int .i64 a0_4, .int .i64 a0_5] 72 (0, 0)) (by (with_reducible repeat (first | refine blk_drewN ?_ _ | refine blk_drew ?_ | refine blk_alloc ?_ _)); exact BK103.out) k_ hk_.2.1)⟩)) (below_size (by repeat (first | (with_reducible first | exact HB.out | apply below_alloc | apply pw_below_drewN | apply below_drew1 | refine below_set ?_ GE103.out) | exact HB.out)))); have n2_ := Aside0.mk (blk_below (g := gb103) (o := .cells #[.int .i64 a0_0, .int .i64 a0_1, .int .i64 a0_2, .int .i64 a0_3, .int .i64 a0_4, .int .i64 a0_5] 72 (0, 0)) (by (with_reducible repeat (first | refine blk_drewN ?_ _ | refine blk_drew ?_ | refine blk_alloc ?_ _)); exact BK103.out) hb); have n3_ := Aside0.mk (below_step (by repeat (first | (with_reducible first | exact HB.out | apply below_alloc | apply pw_below_drewN | apply below_drew1 | refine below_set ?_ GE103.out) | exact HB.out)) hb); clear BK103; clear HB; have HO114 := n0_; have HO117 := n1_; have BK103 := n2_; have HB := n3_; clear n0_ n1_ n2_ n3_; (try clear hb); (try clear hb2); (try clear hk); (try clear hi); (try clear ho0); (try clear ho1); obtain ⟨Ao20, co20, eo20⟩ := Kd.N_slice HO114.out; subst eo20; obtain ⟨Ao21, co21, eo21⟩ := Kd.N_slice HO117.out; subst eo21) | ((with_reducible refine gate_dst (N := 25) rfl ?_); refine Kd.N_lit k89 _ 89 ?hg (N' := 25) ?hd (xs := ([(⟨(⟨#[67, 114, 99]⟩ : ByteArray), (⟨4, 0, 0, t105, ([] : List (S35)), ([] : List (S89))⟩ : S35)⟩ : S89), (⟨t107, (⟨t108, t109, t110, t111, t112, t115⟩ : S35)⟩ : S89)] : List (S89))) (inner := [.string (⟨#[67, 114, 99]⟩ : ByteArray), .int .i64 4, .int .i64 0, .int .i64 0, .string t105, .slice none 0 0, .slice none 0 0, .string t107, .int .i64 t108, .int .i64 t109, .int .i64 t110, .string t111, .slice Ao20 t112.length co20, .slice Ao21 t115.length co21]) (ok := (fun k_ => (w.heap.size ≤ k_) ∧ k_ ≠ gb103)) (okp := (fun k_ => (w.heap.size ≤ k_) ∧ k_ ≠ gb103)) ?hr ?hp (fun _ hk => hk) ((show ∀ k_, w19.heap.size ≤ k_ → (fun k_ => (w.heap.size ≤ k_) ∧ k_ ≠ gb103) k_ from fun k_ hk => ⟨(Nat.le_trans (below_size (by repeat (first | (with_reducible first | exact HB.out | apply below_alloc | apply pw_below_drewN | apply below_drew1 | refine below_set ?_ GE103.out) | exact HB.out))) hk), Kd.freshB (g := gb103) (o := .cells #[.int .i64 a0_0, .int .i64 a0_1, .int .i64 a0_2, .int .i64 a0_3, .int .i64 a0_4, .int .i64 a0_5] 72 (0, 0)) (by (with_reducible repeat (first | refine blk_drewN ?_ _ | refine blk_drew ?_ | refine blk_alloc ?_ _)); exact BK103.out) k_ hk⟩) _ (Nat.le_refl _)) (Below.refl _ _) (Nat.le_refl _) (by simp) ?_; (case hd => rfl); (case hg => rfl); (case hr => first | (go_simp; done) | (go_simp; rfl)); (case hp => exact (Reps.c7 (show Kd.FK k89 _ _ (⟨(⟨#[67, 114, 99]⟩ : ByteArray), (⟨4, 0, 0, t105, ([] : List (S35)), ([] : List (S89))⟩ : S35)⟩ : S89) [.string (⟨#[67, 114, 99]⟩ : ByteArray), .int .i64 4, .int .i64 0, .int .i64 0, .string t105, .slice none 0 0, .slice none 0 0] from (k89_mkF _ _ (⟨(⟨#[67, 114, 99]⟩ : ByteArray), (⟨4, 0, 0, t105, ([] : List (S35)), ([] : List (S89))⟩ : S35)⟩ : S89) (Nat.le_refl _) (Kd.F_nil _ _ _) (Nat.le_refl _) (Kd.F_nil _ _ _))) (Reps.c7 (show Kd.FK k89 _ _ (⟨t107, (⟨t108, t109, t110, t111, t112, t115⟩ : S35)⟩ : S89) [.string t107, .int .i64 t108, .int .i64 t109, .int .i64 t110, .string t111, .slice Ao20 t112.length co20, .slice Ao21 t115.length co21] from (k89_mkF _ _ (⟨t107, (⟨t108, t109, t110, t111, t112, t115⟩ : S35)⟩ : S89) (Kd.N_reads' (Kd.N_mono (ok' := (fun k_ => (w.heap.size ≤ k_) ∧ k_ ≠ gb103)) (HO114.out) (fun k_ hk => ⟨hk.1, hk.2.2⟩))).2.1 (Kd.N_F (Kd.N_mono (ok' := (fun k_ => (w.heap.size ≤ k_) ∧ k_ ≠ gb103)) (HO114.out) (fun k_ hk => ⟨hk.1, hk.2.2⟩))) (Kd.N_reads' (Kd.N_mono (ok' := (fun k_ => (w.heap.size ≤ k_) ∧ k_ ≠ gb103)) (HO117.out) (fun k_ hk => ⟨hk.1, hk.2.2⟩))).2.1 (Kd.N_F (Kd.N_mono (ok' := (fun k_ => (w.heap.size ≤ k_) ∧ k_ ≠ gb103)) (HO117.out) (fun k_ hk => ⟨hk.1, hk.2.2⟩))))) (Reps.none _ _)))); intro v119 w22 ho23 hb hg_ hnew_; clear hg_ hnew_; (first | rw [← Ny118.out] at ho23 | (simp only [Int.reduceToNat] at ho23; rw [← Ny118.out] at ho23)); have n0_ := Aside0.mk (Kd.N_lower ho23 (below_size (by repeat (first | (with_reducible first | exact HB.out | apply below_alloc | apply pw_below_drewN | apply below_drew1 | refine below_set ?_ GE103.out) | exact HB.out)))); have n1_ := Aside0.mk (blk_below (g := gb103) (o := .cells #[.int .i64 a0_0, .int .i64 a0_1, .int .i64 a0_2, .int .i64 a0_3, .int .i64 a0_4, .int .i64 a0_5] 72 (0, 0)) (by (with_reducible repeat (first | refine blk_drewN ?_ _ | refine blk_drew ?_ | refine blk_alloc ?_ _)); exact BK103.out) hb); have n2_ := Aside0.mk (below_step (by repeat (first | (with_reducible first | exact HB.out | apply below_alloc | apply pw_below_drewN | apply below_drew1 | refine below_set ?_ GE103.out) | exact HB.out)) hb); clear BK103; clear HB; clear HO114; clear HO117; have HO120 := n0_; have BK103 := n1_; have HB := n2_; clear n0_ n1_ n2_; clear hb ho23; have hcz24_0 : w22.cell? ⟨gb103, 0, none⟩ = some (.int .i64 a0_0) := (blk_cell BK103.out 0).trans rfl; have hcz24_1 : w22.cell? ⟨gb103, 1, none⟩ = some (.int .i64 a0_1) := (blk_cell BK103.out 1).trans rfl; have hcz24_2 : w22.cell? ⟨gb103, 2, none⟩ = some (.int .i64 a0_2) := (blk_cell BK103.out 2).trans rfl; have hcz24_3 : w22.cell? ⟨gb103, 3, none⟩ = some (.int .i64 a0_3) := (blk_cell BK103.out 3).trans rfl; have hcz24_4 : w22.cell? ⟨gb103, 4, none⟩ = some (.int .i64 a0_4) := (blk_cell BK103.out 4).trans rfl; have hcz24_5 : w22.cell? ⟨gb103, 5, none⟩ = some (.int .i64 a0_5) := (blk_cell BK103.out 5).trans rfl; have hfz24_0 := blk_frozen BK103.out 0; have hfz24_1 := blk_frozen BK103.out 1; have hfz24_2 := blk_frozen BK103.out 2; have hfz24_3 := blk_frozen BK103.out 3; have hfz24_4 := blk_frozen BK103.out 4; have hfz24_5 := blk_frozen BK103.out 5) | ((with_reducible refine gate_callee (f := 102) rfl ?_); refine goesL_ (some 32) rfl rfl Try.func102 (by kernel_rfl) rfl #[.string (⟨#[80, 114, 101, 118]⟩ : ByteArray), .int .i64 a0_1] rfl (by (try simp only [List.map_toArray, List.map_cons, List.map_nil]); first | done | rfl | (simp only [List.length_drop, List.length_take]; rfl)) ?_; (with_reducible refine (trailer_number.calls (⟨#[80, 114, 101, 118]⟩ : ByteArray) a0_1 t121 t122 t123 t124 t125 t126 t129 _ A7.out).mono ?_); rintro e w25 ⟨v127, v130, rfl, ho0, ho1, hb⟩; refine ⟨_, rfl, ?_⟩; have n0_ := Aside0.mk (Kd.N_mono (Kd.N_told (Kd.N_told (Kd.N_old (by (with_reducible repeat (first | apply Kd.N_alloc | apply Kd.N_drewN | apply Kd.N_drew)); exact HO120.out) hb) (Kd.R_base ho0)) (Kd.R_base ho1)) (fun _ h_ => h_.1)); have n1_ := Aside0.mk (Kd.N_lower (Kd.N_mono (ok' := fun k_ => (w.heap.size ≤ k_) ∧ some k_ ≠ (v130 : Value).ownBlock ∧ some k_ ≠ (v119 : Value).ownBlock ∧ k_ ≠ gb103) (Kd.R_N (Kd.R_bound ho0)) (fun k_ hk_ => ⟨(Nat.le_trans (below_size (by repeat (first | (with_reducible first | exact HB.out | apply below_alloc | apply pw_below_drewN | apply below_drew1 | refine below_set ?_ GE103.out) | exact HB.out))) hk_.2.1), hk_.1, (Kd.fresh' (Kd.N_lt (by (with_reducible repeat (first | apply Kd.N_alloc | apply Kd.N_drewN | apply Kd.N_drew)); exact HO120.out)) k_ hk_.2.1), (Kd.freshB (g := gb103) (o := .cells #[.int .i64 a0_0, .int .i64 a0_1, .int .i64 a0_2, .int .i64 a0_3, .int .i64 a0_4, .int .i64 a0_5] 72 (0, 0)) (by (with_reducible repeat (first | refine blk_drewN ?_ _ | refine blk_drew ?_ | refine blk_alloc ?_ _)); exact BK103.out) k_ hk_.2.1)⟩)) (below_size (by repeat (first | (with_reducible first | exact HB.out | apply below_alloc | apply pw_below_drewN | apply below_drew1 | refine below_set ?_ GE103.out) | exact HB.out)))); have n2_ := Aside0.mk (Kd.N_lower (Kd.N_mono (ok' := fun k_ => (w.heap.size ≤ k_) ∧ some k_ ≠ (v127 : Value).ownBlock ∧ some k_ ≠ (v119 : Value).ownBlock ∧ k_ ≠ gb103) (Kd.R_N (Kd.R_bound ho1)) (fun k_ hk_ => ⟨(Nat.le_trans (below_size (by repeat (first | (with_reducible first | exact HB.out | apply below_alloc | apply pw_below_drewN | apply below_drew1 | refine below_set ?_ GE103.out) | exact HB.out))) hk_.2.1), hk_.1, (Kd.fresh' (Kd.N_lt (by (with_reducible repeat (first | apply Kd.N_alloc | apply Kd.N_drewN | apply Kd.N_drew)); exact HO120.out)) k_ hk_.2.1), (Kd.freshB (g := gb103) (o := .cells #[.int .i64 a0_0, .int .i64 a0_1, .int .i64 a0_2, .int .i64 a0_3, .int .i64 a0_4, .int .i64 a0_5] 72 (0, 0)) (by (with_reducible repeat (first | refine blk_drewN ?_ _ | refine blk_drew ?_ | refine blk_alloc ?_ _)); exact BK103.out) k_ hk_.2.1)⟩)) (below_size (by repeat (first | (with_reducible first | exact HB.out | apply below_alloc | apply pw_below_drewN | apply below_drew1 | refine below_set ?_ GE103.out) | exact HB.out)))); have n3_ := Aside0.mk (blk_below (g := gb103) (o := .cells #[.int .i64 a0_0, .int .i64 a0_1, .int .i64 a0_2, .int .i64 a0_3, .int .i64 a0_4, .int .i64 a0_5] 72 (0, 0)) (by (with_reducible repeat (first | refine blk_drewN ?_ _ | refine blk_drew ?_ | refine blk_alloc ?_ _)); exact BK103.out) hb); have n4_ := Aside0.mk (below_step (by repeat (first | (with_reducible first | exact HB.out | apply below_alloc | apply pw_below_drewN | apply below_drew1 | refine below_set ?_ GE103.out) | exact HB.out)) hb); clear HO120; clear BK103; clear HB; have HO120 := n0_; have HO128 := n1_; have HO131 := n2_; have BK103 := n3_; have HB := n4_; clear n0_ n1_ n2_ n3_ n4_; (try clear hb); (try clear hb2); (try clear hk); (try clear hi); (try clear ho0); (try clear ho1); obtain ⟨Ao27, co27, eo27⟩ := Kd.N_slice HO128.out; subst eo27; obtain ⟨Ao28, co28, eo28⟩ := Kd.N_slice HO131.out; subst eo28) | ((with_reducible refine gate_builtin (b := .append) (xs := #[.tmp 29, .tmp 33]) rfl ?_); at_builtin; refine Kd.N_append k89 (w0 := w) w.heap.size rfl (.tmp 29) (.tmp 33) 33 89 (.agg #[(.string ⟨#[]⟩), (.int .i64 0), (.int .i64 0), (.int .i64 0), (.string ⟨#[]⟩), (.slice none 0 0), (.slice none 0 0)]) 104 rfl Try.underlying33 info89 rfl (by decide) (by omega) v119 y118 (⟨t121, (⟨t122, t123, t124, t125, t126, t129⟩ : S35)⟩ : S89) [.string t121, .int .i64 t122, .int .i64 t123, .int .i64 t124, .string t125, .slice Ao27 t126.length co27, .slice Ao28 t129.length co28] (fun k_ => (w.heap.size ≤ k_) ∧ k_ ≠ gb103) (fun k_ => ((fun k_ => (w.heap.size ≤ k_) ∧ k_ ≠ gb103)) k_ ∧ some k_ ≠ (v119 : Value).ownBlock) rfl rfl ?aP (fun _ hk => hk) ?aF ?aO ?aB ?aS ?aL ?_; (case aP => exact (k89_mkF _ _ (⟨t121, (⟨t122, t123, t124, t125, t126, t129⟩ : S35)⟩ : S89) (Kd.N_reads' (Kd.N_mono (ok' := (fun k_ => ((fun k_ => (w.heap.size ≤ k_) ∧ k_ ≠ gb103)) k_ ∧ some k_ ≠ (v119 : Value).ownBlock)) (HO128.out) (fun k_ hk => ⟨⟨hk.1, hk.2.2.2⟩, hk.2.2.1⟩))).2.1 (Kd.N_F (Kd.N_mono (ok' := (fun k_ => ((fun k_ => (w.heap.size ≤ k_) ∧ k_ ≠ gb103)) k_ ∧ some k_ ≠ (v119 : Value).ownBlock)) (HO128.out) (fun k_ hk => ⟨⟨hk.1, hk.2.2.2⟩, hk.2.2.1⟩))) (Kd.N_reads' (Kd.N_mono (ok' := (fun k_ => ((fun k_ => (w.heap.size ≤ k_) ∧ k_ ≠ gb103)) k_ ∧ some k_ ≠ (v119 : Value).ownBlock)) (HO131.out) (fun k_ hk => ⟨⟨hk.1, hk.2.2.2⟩, hk.2.2.1⟩))).2.1 (Kd.N_F (Kd.N_mono (ok' := (fun k_ => ((fun k_ => (w.heap.size ≤ k_) ∧ k_ ≠ gb103)) k_ ∧ some k_ ≠ (v119 : Value).ownBlock)) (HO131.out) (fun k_ hk => ⟨⟨hk.1, hk.2.2.2⟩, hk.2.2.1⟩))))); (case aB => exact (by repeat (first | (with_reducible first | exact HB.out | apply below_alloc | apply pw_below_drewN | apply below_drew1 | refine below_set ?_ GE103.out) | exact HB.out))); (case aF => exact (fun k_ hk => ⟨(Nat.le_trans (below_size (by repeat (first | (with_reducible first | exact HB.out | apply below_alloc | apply pw_below_drewN | apply below_drew1 | refine below_set ?_ GE103.out) | exact HB.out))) hk), Kd.freshB (g := gb103) (o := .cells #[.int .i64 a0_0, .int .i64 a0_1, .int .i64 a0_2, .int .i64 a0_3, .int .i64 a0_4, .int .i64 a0_5] 72 (0, 0)) (by (with_reducible repeat (first | refine blk_drewN ?_ _ | refine blk_drew ?_ | refine blk_alloc ?_ _)); exact BK103.out) k_ hk⟩)); (case aO => exact (by (with_reducible repeat (first | apply Kd.N_alloc | apply Kd.N_drewN | apply Kd.N_drew)); exact Kd.N_mono HO120.out (fun _ hk => ⟨hk.1.1.1, hk.1.1.2⟩))); (case aS => exact (below_size (by repeat (first | (with_reducible first | exact HB.out | apply below_alloc | apply pw_below_drewN | apply below_drew1 | refine below_set ?_ GE103.out) | exact HB.out)))); (case aL => have := LMc8.out; omega); intro v133 w26 ho hb hg hat; rw [← Ny132.out] at ho; have n0_ := Aside0.mk (blk_grown (g := gb103) (o := .cells #[.int .i64 a0_0, .int .i64 a0_1, .int .i64 a0_2, .int .i64 a0_3, .int .i64 a0_4, .int .i64 a0_5] 72 (0, 0)) (by (with_reducible repeat (first | refine blk_drewN ?_ _ | refine blk_drew ?_ | refine blk_alloc ?_ _)); exact BK103.out) hg (Kd.N_ne HO120.out BK103.out (by decide))); have n1_ := Aside0.mk (hb); have n2_ := Aside0.mk (ho); clear BK103; clear HB; clear HO120; clear HO128; clear HO131; have BK103 := n0_; have HB := n1_; have HO134 := n2_; clear n0_ n1_ n2_; clear ho hb hg hat; have hcz29_0 : w26.cell? ⟨gb103, 0, none⟩ = some (.int .i64 a0_0) := (blk_cell BK103.out 0).trans rfl; have hcz29_1 : w26.cell? ⟨gb103, 1, none⟩ = some (.int .i64 a0_1) := (blk_cell BK103.out 1).trans rfl; have hcz29_2 : w26.cell? ⟨gb103, 2, none⟩ = some (.int .i64 a0_2) := (blk_cell BK103.out 2).trans rfl; have hcz29_3 : w26.cell? ⟨gb103, 3, none⟩ = some (.int .i64 a0_3) := (blk_cell BK103.out 3).trans rfl; have hcz29_4 : w26.cell? ⟨gb103, 4, none⟩ = some (.int .i64 a0_4) := (blk_cell BK103.out 4).trans rfl; have hcz29_5 : w26.cell? ⟨gb103, 5, none⟩ = some (.int .i64 a0_5) := (blk_cell BK103.out 5).trans rfl; have hfz29_0 := blk_frozen BK103.out 0; have hfz29_1 := blk_frozen BK103.out 1; have hfz29_2 := blk_frozen BK103.out 2; have hfz29_3 := blk_frozen BK103.out 3; have hfz29_4 := blk_frozen BK103.out 4; have hfz29_5 := blk_frozen BK103.out 5) | ((with_reducible refine gate_builtin (b := .append) (xs := #[.tmp 39, .tmp 48]) rfl ?_); at_builtin; refine Kd.N_append k89 (w0 := w) w.heap.size rfl (.tmp 39) (.tmp 48) 33 89 (.agg #[(.string ⟨#[]⟩), (.int .i64 0), (.int .i64 0), (.int .i64 0), (.string ⟨#[]⟩), (.slice none 0 0), (.slice none 0 0)]) 104 rfl Try.underlying33 info89 rfl (by decide) (by omega) v133 y132 (⟨(⟨#[82, 111, 111, 116]⟩ : ByteArray), (⟨7, a0_2, a0_3, (⟨#[]⟩ : ByteArray), ([] : List (S35)), ([] : List (S89))⟩ : S35)⟩ : S89) [.string (⟨#[82, 111, 111, 116]⟩ : ByteArray), .int .i64 7, .int .i64 a0_2, .int .i64 a0_3, .string (⟨#[]⟩ : ByteArray), .slice none 0 0, .slice none 0 0] (fun k_ => (w.heap.size ≤ k_) ∧ k_ ≠ gb103) (fun k_ => ((fun k_ => (w.heap.size ≤ k_) ∧ k_ ≠ gb103)) k_ ∧ some k_ ≠ (v133 : Value).ownBlock) rfl rfl ?aP (fun _ hk => hk) ?aF ?aO ?aB ?aS ?aL ?_; (case aP => exact (k89_mkF _ _ (⟨(⟨#[82, 111, 111, 116]⟩ : ByteArray), (⟨7, a0_2, a0_3, (⟨#[]⟩ : ByteArray), ([] : List (S35)), ([] : List (S89))⟩ : S35)⟩ : S89) (Nat.le_refl _) (Kd.F_nil _ _ _) (Nat.le_refl _) (Kd.F_nil _ _ _))); (case aB => exact (by repeat (first | (with_reducible first | exact HB.out | apply below_alloc | apply pw_below_drewN | apply below_drew1 | refine below_set ?_ GE103.out) | exact HB.out))); (case aF => exact (fun k_ hk => ⟨(Nat.le_trans (below_size (by repeat (first | (with_reducible first | exact HB.out | apply below_alloc | apply pw_below_drewN | apply below_drew1 | refine below_set ?_ GE103.out) | exact HB.out))) hk), Kd.freshB (g := gb103) (o := .cells #[.int .i64 a0_0, .int .i64 a0_1, .int .i64 a0_2, .int .i64 a0_3, .int .i64 a0_4, .int .i64 a0_5] 72 (0, 0)) (by (with_reducible repeat (first | refine blk_drewN ?_ _ | refine blk_drew ?_ | refine blk_alloc ?_ _)); exact BK103.out) k_ hk⟩)); (case aO => exact (by (with_reducible repeat (first | apply Kd.N_alloc | apply Kd.N_drewN | apply Kd.N_drew)); exact HO134.out)); (case aS => exact (below_size (by repeat (first | (with_reducible first | exact HB.out | apply below_alloc | apply pw_below_drewN | apply below_drew1 | refine below_set ?_ GE103.out) | exact HB.out)))); (case aL => have := LMc10.out; omega); intro v136 w30 ho hb hg hat; rw [← Ny135.out] at ho; have n0_ := Aside0.mk (blk_grown (g := gb103) (o := .cells #[.int .i64 a0_0, .int .i64 a0_1, .int .i64 a0_2, .int .i64 a0_3, .int .i64 a0_4, .int .i64 a0_5] 72 (0, 0)) (by (with_reducible repeat (first | refine blk_drewN ?_ _ | refine blk_drew ?_ | refine blk_alloc ?_ _)); exact BK103.out) hg (Kd.N_ne HO134.out BK103.out (by decide))); have n1_ := Aside0.mk (hb); have n2_ := Aside0.mk (ho); clear BK103; clear HB; clear HO134; have BK103 := n0_; have HB := n1_; have HO137 := n2_; clear n0_ n1_ n2_; clear ho hb hg hat; have hcz31_0 : w30.cell? ⟨gb103, 0, none⟩ = some (.int .i64 a0_0) := (blk_cell BK103.out 0).trans rfl; have hcz31_1 : w30.cell? ⟨gb103, 1, none⟩ = some (.int .i64 a0_1) := (blk_cell BK103.out 1).trans rfl; have hcz31_2 : w30.cell? ⟨gb103, 2, none⟩ = some (.int .i64 a0_2) := (blk_cell BK103.out 2).trans rfl; have hcz31_3 : w30.cell? ⟨gb103, 3, none⟩ = some (.int .i64 a0_3) := (blk_cell BK103.out 3).trans rfl; have hcz31_4 : w30.cell? ⟨gb103, 4, none⟩ = some (.int .i64 a0_4) := (blk_cell BK103.out 4).trans rfl; have hcz31_5 : w30.cell? ⟨gb103, 5, none⟩ = some (.int .i64 a0_5) := (blk_cell BK103.out 5).trans rfl; have hfz31_0 := blk_frozen BK103.out 0; have hfz31_1 := blk_frozen BK103.out 1; have hfz31_2 := blk_frozen BK103.out 2; have hfz31_3 := blk_frozen BK103.out 3; have hfz31_4 := blk_frozen BK103.out 4; have hfz31_5 := blk_frozen BK103.out 5) | ((with_reducible refine gate_callee (f := 102) rfl ?_); refine goesL_ (some 53) rfl rfl Try.func102 (by kernel_rfl) rfl #[.string (⟨#[83, 105, 122, 101]⟩ : ByteArray), .int .i64 a0_0] rfl (by (try simp only [List.map_toArray, List.map_cons, List.map_nil]); first | done | rfl | (simp only [List.length_drop, List.length_take]; rfl)) ?_; (with_reducible refine (trailer_number.calls (⟨#[83, 105, 122, 101]⟩ : ByteArray) a0_0 t138 t139 t140 t141 t142 t143 t146 _ A11.out).mono ?_); rintro e w32 ⟨v144, v147, rfl, ho0, ho1, hb⟩; refine ⟨_, rfl, ?_⟩; have n0_ := Aside0.mk (Kd.N_mono (Kd.N_told (Kd.N_told (Kd.N_old (by (with_reducible repeat (first | apply Kd.N_alloc | apply Kd.N_drewN | apply Kd.N_drew)); exact HO137.out) hb) (Kd.R_base ho0)) (Kd.R_base ho1)) (fun _ h_ => h_.1)); have n1_ := Aside0.mk (Kd.N_lower (Kd.N_mono (ok' := fun k_ => (w.heap.size ≤ k_) ∧ some k_ ≠ (v147 : Value).ownBlock ∧ some k_ ≠ (v136 : Value).ownBlock ∧ k_ ≠ gb103) (Kd.R_N (Kd.R_bound ho0)) (fun k_ hk_ => ⟨(Nat.le_trans (below_size (by repeat (first | (with_reducible first | exact HB.out | apply below_alloc | apply pw_below_drewN | apply below_drew1 | refine below_set ?_ GE103.out) | exact HB.out))) hk_.2.1), hk_.1, (Kd.fresh' (Kd.N_lt (by (with_reducible repeat (first | apply Kd.N_alloc | apply Kd.N_drewN | apply Kd.N_drew)); exact HO137.out)) k_ hk_.2.1), (Kd.freshB (g := gb103) (o := .cells #[.int .i64 a0_0, .int .i64 a0_1, .int .i64 a0_2, .int .i64 a0_3, .int .i64 a0_4, .int .i64 a0_5] 72 (0, 0)) (by (with_reducible repeat (first | refine blk_drewN ?_ _ | refine blk_drew ?_ | refine blk_alloc ?_ _)); exact BK103.out) k_ hk_.2.1)⟩)) (below_size (by repeat (first | (with_reducible first | exact HB.out | apply below_alloc | apply pw_below_drewN | apply below_drew1 | refine below_set ?_ GE103.out) | exact HB.out)))); have n2_ := Aside0.mk (Kd.N_lower (Kd.N_mono (ok' := fun k_ => (w.heap.size ≤ k_) ∧ some k_ ≠ (v144 : Value).ownBlock ∧ some k_ ≠ (v136 : Value).ownBlock ∧ k_ ≠ gb103) (Kd.R_N (Kd.R_bound ho1)) (fun k_ hk_ => ⟨(Nat.le_trans (below_size (by repeat (first | (with_reducible first | exact HB.out | apply below_alloc | apply pw_below_drewN | apply below_drew1 | refine below_set ?_ GE103.out) | exact HB.out))) hk_.2.1), hk_.1, (Kd.fresh' (Kd.N_lt (by (with_reducible repeat (first | apply Kd.N_alloc | apply Kd.N_drewN | apply Kd.N_drew)); exact HO137.out)) k_ hk_.2.1), (Kd.freshB (g := gb103) (o := .cells #[.int .i64 a0_0, .int .i64 a0_1, .int .i64 a0_2, .int .i64 a0_3, .int .i64 a0_4, .int .i64 a0_5] 72 (0, 0)) (by (with_reducible repeat (first | refine blk_drewN ?_ _ | refine blk_drew ?_ | refine blk_alloc ?_ _)); exact BK103.out) k_ hk_.2.1)⟩)) (below_size (by repeat (first | (with_reducible first | exact HB.out | apply below_alloc | apply pw_below_drewN | apply below_drew1 | refine below_set ?_ GE103.out) | exact HB.out)))); have n3_ := Aside0.mk (blk_below (g := gb103) (o := .cells #[.int .i64 a0_0, .int .i64 a0_1, .int .i64 a0_2, .int .i64 a0_3, .int .i64 a0_4, .int .i64 a0_5] 72 (0, 0)) (by (with_reducible repeat (first | refine blk_drewN ?_ _ | refine blk_drew ?_ | refine blk_alloc ?_ _)); exact BK103.out) hb); have n4_ := Aside0.mk (below_step (by repeat (first | (with_reducible first | exact HB.out | apply below_alloc | apply pw_below_drewN | apply below_drew1 | refine below_set ?_ GE103.out) | exact HB.out)) hb); clear HO137; clear BK103; clear HB; have HO137 := n0_; have HO145 := n1_; have HO148 := n2_; have BK103 := n3_; have HB := n4_; clear n0_ n1_ n2_ n3_ n4_; (try clear hb); (try clear hb2); (try clear hk); (try clear hi); (try clear ho0); (try clear ho1); obtain ⟨Ao34, co34, eo34⟩ := Kd.N_slice HO145.out; subst eo34; obtain ⟨Ao35, co35, eo35⟩ := Kd.N_slice HO148.out; subst eo35) | ((with_reducible refine gate_builtin (b := .append) (xs := #[.tmp 50, .tmp 54]) rfl ?_); at_builtin; refine Kd.N_append k89 (w0 := w) w.heap.size rfl (.tmp 50) (.tmp 54) 33 89 (.agg #[(.string ⟨#[]⟩), (.int .i64 0), (.int .i64 0), (.int .i64 0), (.string ⟨#[]⟩), (.slice none 0 0), (.slice none 0 0)]) 104 rfl Try.underlying33 info89 rfl (by decide) (by omega) v136 y135 (⟨t138, (⟨t139, t140, t141, t142, t143, t146⟩ : S35)⟩ : S89) [.string t138, .int .i64 t139, .int .i64 t140, .int .i64 t141, .string t142, .slice Ao34 t143.length co34, .slice Ao35 t146.length co35] (fun k_ => (w.heap.size ≤ k_) ∧ k_ ≠ gb103) (fun k_ => ((fun k_ => (w.heap.size ≤ k_) ∧ k_ ≠ gb103)) k_ ∧ some k_ ≠ (v136 : Value).ownBlock) rfl rfl ?aP (fun _ hk => hk) ?aF ?aO ?aB ?aS ?aL ?_; (case aP => exact (k89_mkF _ _ (⟨t138, (⟨t139, t140, t141, t142, t143, t146⟩ : S35)⟩ : S89) (Kd.N_reads' (Kd.N_mono (ok' := (fun k_ => ((fun k_ => (w.heap.size ≤ k_) ∧ k_ ≠ gb103)) k_ ∧ some k_ ≠ (v136 : Value).ownBlock)) (HO145.out) (fun k_ hk => ⟨⟨hk.1, hk.2.2.2⟩, hk.2.2.1⟩))).2.1 (Kd.N_F (Kd.N_mono (ok' := (fun k_ => ((fun k_ => (w.heap.size ≤ k_) ∧ k_ ≠ gb103)) k_ ∧ some k_ ≠ (v136 : Value).ownBlock)) (HO145.out) (fun k_ hk => ⟨⟨hk.1, hk.2.2.2⟩, hk.2.2.1⟩))) (Kd.N_reads' (Kd.N_mono (ok' := (fun k_ => ((fun k_ => (w.heap.size ≤ k_) ∧ k_ ≠ gb103)) k_ ∧ some k_ ≠ (v136 : Value).ownBlock)) (HO148.out) (fun k_ hk => ⟨⟨hk.1, hk.2.2.2⟩, hk.2.2.1⟩))).2.1 (Kd.N_F (Kd.N_mono (ok' := (fun k_ => ((fun k_ => (w.heap.size ≤ k_) ∧ k_ ≠ gb103)) k_ ∧ some k_ ≠ (v136 : Value).ownBlock)) (HO148.out) (fun k_ hk => ⟨⟨hk.1, hk.2.2.2⟩, hk.2.2.1⟩))))); (case aB => exact (by repeat (first | (with_reducible first | exact HB.out | apply below_alloc | apply pw_below_drewN | apply below_drew1 | refine below_set ?_ GE103.out) | exact HB.out))); (case aF => exact (fun k_ hk => ⟨(Nat.le_trans (below_size (by repeat (first | (with_reducible first | exact HB.out | apply below_alloc | apply pw_below_drewN | apply below_drew1 | refine below_set ?_ GE103.out) | exact HB.out))) hk), Kd.freshB (g := gb103) (o := .cells #[.int .i64 a0_0, .int .i64 a0_1, .int .i64 a0_2, .int .i64 a0_3, .int .i64 a0_4, .int .i64 a0_5] 72 (0, 0)) (by (with_reducible repeat (first | refine blk_drewN ?_ _ | refine blk_drew ?_ | refine blk_alloc ?_ _)); exact BK103.out) k_ hk⟩)); (case aO => exact (by (with_reducible repeat (first | apply Kd.N_alloc | apply Kd.N_drewN | apply Kd.N_drew)); exact Kd.N_mono HO137.out (fun _ hk => ⟨hk.1.1.1, hk.1.1.2⟩))); (case aS => exact (below_size (by repeat (first | (with_reducible first | exact HB.out | apply below_alloc | apply pw_below_drewN | apply below_drew1 | refine below_set ?_ GE103.out) | exact HB.out)))); (case aL => have := LMc12.out; omega); intro v150 w33 ho hb hg hat; rw [← Ny149.out] at ho; have n0_ := Aside0.mk (blk_grown (g := gb103) (o := .cells #[.int .i64 a0_0, .int .i64 a0_1, .int .i64 a0_2, .int .i64 a0_3, .int .i64 a0_4, .int .i64 a0_5] 72 (0, 0)) (by (with_reducible repeat (first | refine blk_drewN ?_ _ | refine blk_drew ?_ | refine blk_alloc ?_ _)); exact BK103.out) hg (Kd.N_ne HO137.out BK103.out (by decide))); have n1_ := Aside0.mk (hb); have n2_ := Aside0.mk (ho); clear BK103; clear HB; clear HO137; clear HO145; clear HO148; have BK103 := n0_; have HB := n1_; have HO151 := n2_; clear n0_ n1_ n2_; clear ho hb hg hat))
              go_ret2
              exact ⟨_, by first | rfl | (simp [errW_none, errW_some] <;> rfl) | (simp [*, errW_none, errW_some] <;> rfl), by (with_reducible repeat (first | apply Kd.N_alloc | apply Kd.N_drewN | apply Kd.N_drew)); exact Kd.N_mono HO151.out (fun _ hk => hk.1), by repeat (first | (with_reducible first | exact HB.out | apply below_alloc | apply pw_below_drewN | apply below_drew1 | refine below_set ?_ GE103.out) | exact HB.out)⟩
            · rw [if_neg c12] at H
              exact absurd H (by simp)
          · rw [if_neg c10] at H
            exact absurd H (by simp)
        · rw [if_neg c9] at H
          have c9b0 : decide (0 < a0_2) = false := decide_eq_false c9
          clear c9
          replace H := Option.bind_eq_some_iff.mp H
          obtain ⟨⟨t152, t153, t154, t155, t156, t157, t160⟩, A360, H⟩ := H
          replace H : (if y132.length < 1353245080339 then (some ((y132 ++ [(⟨t152, (⟨t153, t154, t155, t156, t157, t160⟩ : S35)⟩ : S89)]), 0)) else (none)) = some (r1, r2) := H
          have A36 := Aside0.mk A360
          clear A360
          by_cases c37 : y132.length < 1353245080339
          · rw [if_pos c37] at H
            have LMc37 := Aside0.mk c37
            clear c37
            obtain ⟨y163, hy163⟩ : ∃ y_ : List (S89), y_ = (y132 ++ [(⟨t152, (⟨t153, t154, t155, t156, t157, t160⟩ : S35)⟩ : S89)]) := ⟨_, rfl⟩
            replace H : (some (y163, 0)) = some (r1, r2) := by first | (rw [hy163]; with_reducible exact H) | (have H2_ := (Option.bind_some _ _).symm.trans H; rw [hy163]; with_reducible exact H2_) | (have H2_ := (Option.bind_some _ _).symm.trans H; with_reducible exact H2_) | with_reducible exact H | (rw [hy163]; exact H) | exact H
            have Ny163 := Aside0.mk hy163
            clear hy163
            simp only [Option.some.injEq, Prod.mk.injEq] at H
            obtain ⟨rfl, rfl⟩ := H
            go_enter Try.func39, Try.ntmps39
            go_wp2_with (first | ((with_reducible refine gate_dst (N := 1) rfl ?_); refine box_event ?hg (N := 1) ?hd (cs := #[.int .i64 a0_0, .int .i64 a0_1, .int .i64 a0_2, .int .i64 a0_3, .int .i64 a0_4, .int .i64 a0_5]) (t := 72) ?hr ?_; (case hd => rfl); (case hg => rfl); (case hr => first | (go_simp; done) | (go_simp; rfl)); intro gb103 hg w38 hbox hb; have n0_ := Aside0.mk (below_step (by repeat (first | (with_reducible first | exact HB.out | apply below_alloc | apply pw_below_drewN | apply below_drew1) | exact HB.out)) hb); have n1_ := Aside0.mk (hbox); have n2_ := Aside0.mk ((by rw [hg]; exact (below_size (by repeat (first | (with_reducible first | exact HB.out | apply below_alloc | apply pw_below_drewN | apply below_drew1) | exact HB.out))) : w.heap.size ≤ gb103)); have n3_ := Aside0.mk ((by rw [hg]; exact (below_size (by repeat (first | (with_reducible first | exact HB.out | apply below_alloc | apply pw_below_drewN | apply below_drew1) | exact HB.out))) : w.heap.size ≤ gb103)); clear HB; have HB := n0_; have BK103 := n1_; have GW103 := n2_; have GE103 := n3_; clear n0_ n1_ n2_ n3_; clear hb hbox hg; have hcz39_0 : w38.cell? ⟨gb103, 0, none⟩ = some (.int .i64 a0_0) := (blk_cell BK103.out 0).trans rfl; have hcz39_1 : w38.cell? ⟨gb103, 1, none⟩ = some (.int .i64 a0_1) := (blk_cell BK103.out 1).trans rfl; have hcz39_2 : w38.cell? ⟨gb103, 2, none⟩ = some (.int .i64 a0_2) := (blk_cell BK103.out 2).trans rfl; have hcz39_3 : w38.cell? ⟨gb103, 3, none⟩ = some (.int .i64 a0_3) := (blk_cell BK103.out 3).trans rfl; have hcz39_4 : w38.cell? ⟨gb103, 4, none⟩ = some (.int .i64 a0_4) := (blk_cell BK103.out 4).trans rfl; have hcz39_5 : w38.cell? ⟨gb103, 5, none⟩ = some (.int .i64 a0_5) := (blk_cell BK103.out 5).trans rfl; have hfz39_0 := blk_frozen BK103.out 0; have hfz39_1 := blk_frozen BK103.out 1; have hfz39_2 := blk_frozen BK103.out 2; have hfz39_3 := blk_frozen BK103.out 3; have hfz39_4 := blk_frozen BK103.out 4; have hfz39_5 := blk_frozen BK103.out 5) | ((with_reducible refine gate_callee (f := 42) rfl ?_); refine goesL_ (some 9) rfl rfl Try.func42 (by kernel_rfl) rfl #[.agg #[.int .i64 a0_0, .int .i64 a0_1, .int .i64 a0_2, .int .i64 a0_3, .int .i64 a0_4, .int .i64 a0_5]] rfl (by (try simp only [List.map_toArray, List.map_cons, List.map_nil]); first | done | rfl | (simp only [List.length_drop, List.length_take]; rfl)) ?_; (with_reducible refine (trailer_Check.calls k a0_0 a0_1 a0_2 a0_3 a0_4 a0_5 t104 _ A2.out).mono ?_); rintro e w40 ⟨rfl, hb⟩; refine ⟨_, rfl, ?_⟩; have n0_ := Aside0.mk (blk_below (g := gb103) (o := .cells #[.int .i64 a0_0, .int .i64 a0_1, .int .i64 a0_2, .int .i64 a0_3, .int .i64 a0_4, .int .i64 a0_5] 72 (0, 0)) (by (with_reducible repeat (first | refine blk_drewN ?_ _ | refine blk_drew ?_ | refine blk_alloc ?_ _)); exact BK103.out) hb); have n1_ := Aside0.mk (below_step (by repeat (first | (with_reducible first | exact HB.out | apply below_alloc | apply pw_below_drewN | apply below_drew1 | refine below_set ?_ GE103.out) | exact HB.out)) hb); clear BK103; clear HB; have BK103 := n0_; have HB := n1_; clear n0_ n1_; (try clear hb); (try clear hb2); (try clear hk); (try clear hi); have hcz41_0 : w40.cell? ⟨gb103, 0, none⟩ = some (.int .i64 a0_0) := (blk_cell BK103.out 0).trans rfl; have hcz41_1 : w40.cell? ⟨gb103, 1, none⟩ = some (.int .i64 a0_1) := (blk_cell BK103.out 1).trans rfl; have hcz41_2 : w40.cell? ⟨gb103, 2, none⟩ = some (.int .i64 a0_2) := (blk_cell BK103.out 2).trans rfl; have hcz41_3 : w40.cell? ⟨gb103, 3, none⟩ = some (.int .i64 a0_3) := (blk_cell BK103.out 3).trans rfl; have hcz41_4 : w40.cell? ⟨gb103, 4, none⟩ = some (.int .i64 a0_4) := (blk_cell BK103.out 4).trans rfl; have hcz41_5 : w40.cell? ⟨gb103, 5, none⟩ = some (.int .i64 a0_5) := (blk_cell BK103.out 5).trans rfl; have hfz41_0 := blk_frozen BK103.out 0; have hfz41_1 := blk_frozen BK103.out 1; have hfz41_2 := blk_frozen BK103.out 2; have hfz41_3 := blk_frozen BK103.out 3; have hfz41_4 := blk_frozen BK103.out 4; have hfz41_5 := blk_frozen BK103.out 5) | ((with_reducible refine gate_callee (f := 101) rfl ?_); refine goesL_ (some 16) rfl rfl Try.func101 (by kernel_rfl) rfl #[.int .i64 a0_5, .int .i64 4] rfl (by (try simp only [List.map_toArray, List.map_cons, List.map_nil]); first | done | rfl | (simp only [List.length_drop, List.length_take]; rfl)) ?_; (with_reducible refine (fields_Put.calls a0_5 4 t105 t106 _ A4.out).mono ?_); rintro e w42 ⟨rfl, hb⟩; refine ⟨_, rfl, ?_⟩; have n0_ := Aside0.mk (blk_below (g := gb103) (o := .cells #[.int .i64 a0_0, .int .i64 a0_1, .int .i64 a0_2, .int .i64 a0_3, .int .i64 a0_4, .int .i64 a0_5] 72 (0, 0)) (by (with_reducible repeat (first | refine blk_drewN ?_ _ | refine blk_drew ?_ | refine blk_alloc ?_ _)); exact BK103.out) hb); have n1_ := Aside0.mk (below_step (by repeat (first | (with_reducible first | exact HB.out | apply below_alloc | apply pw_below_drewN | apply below_drew1 | refine below_set ?_ GE103.out) | exact HB.out)) hb); clear BK103; clear HB; have BK103 := n0_; have HB := n1_; clear n0_ n1_; (try clear hb); (try clear hb2); (try clear hk); (try clear hi); have hcz43_0 : w42.cell? ⟨gb103, 0, none⟩ = some (.int .i64 a0_0) := (blk_cell BK103.out 0).trans rfl; have hcz43_1 : w42.cell? ⟨gb103, 1, none⟩ = some (.int .i64 a0_1) := (blk_cell BK103.out 1).trans rfl; have hcz43_2 : w42.cell? ⟨gb103, 2, none⟩ = some (.int .i64 a0_2) := (blk_cell BK103.out 2).trans rfl; have hcz43_3 : w42.cell? ⟨gb103, 3, none⟩ = some (.int .i64 a0_3) := (blk_cell BK103.out 3).trans rfl; have hcz43_4 : w42.cell? ⟨gb103, 4, none⟩ = some (.int .i64 a0_4) := (blk_cell BK103.out 4).trans rfl; have hcz43_5 : w42.cell? ⟨gb103, 5, none⟩ = some (.int .i64 a0_5) := (blk_cell BK103.out 5).trans rfl; have hfz43_0 := blk_frozen BK103.out 0; have hfz43_1 := blk_frozen BK103.out 1; have hfz43_2 := blk_frozen BK103.out 2; have hfz43_3 := blk_frozen BK103.out 3; have hfz43_4 := blk_frozen BK103.out 4; have hfz43_5 := blk_frozen BK103.out 5) | ((with_reducible refine gate_callee (f := 102) rfl ?_); refine goesL_ (some 24) rfl rfl Try.func102 (by kernel_rfl) rfl #[.string (⟨#[76, 101, 110]⟩ : ByteArray), .int .i64 a0_4] rfl (by (try simp only [List.map_toArray, List.map_cons, List.map_nil]); first | done | rfl | (simp only [List.length_drop, List.length_take]; rfl)) ?_; (with_reducible refine (trailer_number.calls (⟨#[76, 101, 110]⟩ : ByteArray) a0_4 t107 t108 t109 t110 t111 t112 t115 _ A5.out).mono ?_); rintro e w44 ⟨v113, v116, rfl, ho0, ho1, hb⟩; refine ⟨_, rfl, ?_⟩; have n0_ := Aside0.mk (Kd.N_lower (Kd.N_mono (ok' := fun k_ => (w.heap.size ≤ k_) ∧ some k_ ≠ (v116 : Value).ownBlock ∧ k_ ≠ gb103) (Kd.R_N (Kd.R_bound ho0)) (fun k_ hk_ => ⟨(Nat.le_trans (below_size (by repeat (first | (with_reducible first | exact HB.out | apply below_alloc | apply pw_below_drewN | apply below_drew1 | refine below_set ?_ GE103.out) | exact HB.out))) hk_.2.1), hk_.1, (Kd.freshB (g := gb103) (o := .cells #[.int .i64 a0_0, .int .i64 a0_1, .int .i64 a0_2, .int .i64 a0_3, .int .i64 a0_4, .int .i64 a0_5] 72 (0, 0)) (by (with_reducible repeat (first | refine blk_drewN ?_ _ | refine blk_drew ?_ | refine blk_alloc ?_ _)); exact BK103.out) k_ hk_.2.1)⟩)) (below_size (by repeat (first | (with_reducible first | exact HB.out | apply below_alloc | apply pw_below_drewN | apply below_drew1 | refine below_set ?_ GE103.out) | exact HB.out)))); have n1_ := Aside0.mk (Kd.N_lower (Kd.N_mono (ok' := fun k_ => (w.heap.size ≤ k_) ∧ some k_ ≠ (v113 : Value).ownBlock ∧ k_ ≠ gb103) (Kd.R_N (Kd.R_bound ho1)) (fun k_ hk_ => ⟨(Nat.le_trans (below_size (by repeat (first | (with_reducible first | exact HB.out | apply below_alloc | apply pw_below_drewN | apply below_drew1 | refine below_set ?_ GE103.out) | exact HB.out))) hk_.2.1), hk_.1, (Kd.freshB (g := gb103) (o := .cells #[.int .i64 a0_0, .int .i64 a0_1, .int .i64 a0_2, .int .i64 a0_3, .int .i64 a0_4, .int .i64 a0_5] 72 (0, 0)) (by (with_reducible repeat (first | refine blk_drewN ?_ _ | refine blk_drew ?_ | refine blk_alloc ?_ _)); exact BK103.out) k_ hk_.2.1)⟩)) (below_size (by repeat (first | (with_reducible first | exact HB.out | apply below_alloc | apply pw_below_drewN | apply below_drew1 | refine below_set ?_ GE103.out) | exact HB.out)))); have n2_ := Aside0.mk (blk_below (g := gb103) (o := .cells #[.int .i64 a0_0, .int .i64 a0_1, .int .i64 a0_2, .int .i64 a0_3, .int .i64 a0_4, .int .i64 a0_5] 72 (0, 0)) (by (with_reducible repeat (first | refine blk_drewN ?_ _ | refine blk_drew ?_ | refine blk_alloc ?_ _)); exact BK103.out) hb); have n3_ := Aside0.mk (below_step (by repeat (first | (with_reducible first | exact HB.out | apply below_alloc | apply pw_below_drewN | apply below_drew1 | refine below_set ?_ GE103.out) | exact HB.out)) hb); clear BK103; clear HB; have HO114 := n0_; have HO117 := n1_; have BK103 := n2_; have HB := n3_; clear n0_ n1_ n2_ n3_; (try clear hb); (try clear hb2); (try clear hk); (try clear hi); (try clear ho0); (try clear ho1); obtain ⟨Ao45, co45, eo45⟩ := Kd.N_slice HO114.out; subst eo45; obtain ⟨Ao46, co46, eo46⟩ := Kd.N_slice HO117.out; subst eo46) | ((with_reducible refine gate_dst (N := 25) rfl ?_); refine Kd.N_lit k89 _ 89 ?hg (N' := 25) ?hd (xs := ([(⟨(⟨#[67, 114, 99]⟩ : ByteArray), (⟨4, 0, 0, t105, ([] : List (S35)), ([] : List (S89))⟩ : S35)⟩ : S89), (⟨t107, (⟨t108, t109, t110, t111, t112, t115⟩ : S35)⟩ : S89)] : List (S89))) (inner := [.string (⟨#[67, 114, 99]⟩ : ByteArray), .int .i64 4, .int .i64 0, .int .i64 0, .string t105, .slice none 0 0, .slice none 0 0, .string t107, .int .i64 t108, .int .i64 t109, .int .i64 t110, .string t111, .slice Ao45 t112.length co45, .slice Ao46 t115.length co46]) (ok := (fun k_ => (w.heap.size ≤ k_) ∧ k_ ≠ gb103)) (okp := (fun k_ => (w.heap.size ≤ k_) ∧ k_ ≠ gb103)) ?hr ?hp (fun _ hk => hk) ((show ∀ k_, w44.heap.size ≤ k_ → (fun k_ => (w.heap.size ≤ k_) ∧ k_ ≠ gb103) k_ from fun k_ hk => ⟨(Nat.le_trans (below_size (by repeat (first | (with_reducible first | exact HB.out | apply below_alloc | apply pw_below_drewN | apply below_drew1 | refine below_set ?_ GE103.out) | exact HB.out))) hk), Kd.freshB (g := gb103) (o := .cells #[.int .i64 a0_0, .int .i64 a0_1, .int .i64 a0_2, .int .i64 a0_3, .int .i64 a0_4, .int .i64 a0_5] 72 (0, 0)) (by (with_reducible repeat (first | refine blk_drewN ?_ _ | refine blk_drew ?_ | refine blk_alloc ?_ _)); exact BK103.out) k_ hk⟩) _ (Nat.le_refl _)) (Below.refl _ _) (Nat.le_refl _) (by simp) ?_; (case hd => rfl); (case hg => rfl); (case hr => first | (go_simp; done) | (go_simp; rfl)); (case hp => exact (Reps.c7 (show Kd.FK k89 _ _ (⟨(⟨#[67, 114, 99]⟩ : ByteArray), (⟨4, 0, 0, t105, ([] : List (S35)), ([] : List (S89))⟩ : S35)⟩ : S89) [.string (⟨#[67, 114, 99]⟩ : ByteArray), .int .i64 4, .int .i64 0, .int .i64 0, .string t105, .slice none 0 0, .slice none 0 0] from (k89_mkF _ _ (⟨(⟨#[67, 114, 99]⟩ : ByteArray), (⟨4, 0, 0, t105, ([] : List (S35)), ([] : List (S89))⟩ : S35)⟩ : S89) (Nat.le_refl _) (Kd.F_nil _ _ _) (Nat.le_refl _) (Kd.F_nil _ _ _))) (Reps.c7 (show Kd.FK k89 _ _ (⟨t107, (⟨t108, t109, t110, t111, t112, t115⟩ : S35)⟩ : S89) [.string t107, .int .i64 t108, .int .i64 t109, .int .i64 t110, .string t111, .slice Ao45 t112.length co45, .slice Ao46 t115.length co46] from (k89_mkF _ _ (⟨t107, (⟨t108, t109, t110, t111, t112, t115⟩ : S35)⟩ : S89) (Kd.N_reads' (Kd.N_mono (ok' := (fun k_ => (w.heap.size ≤ k_) ∧ k_ ≠ gb103)) (HO114.out) (fun k_ hk => ⟨hk.1, hk.2.2⟩))).2.1 (Kd.N_F (Kd.N_mono (ok' := (fun k_ => (w.heap.size ≤ k_) ∧ k_ ≠ gb103)) (HO114.out) (fun k_ hk => ⟨hk.1, hk.2.2⟩))) (Kd.N_reads' (Kd.N_mono (ok' := (fun k_ => (w.heap.size ≤ k_) ∧ k_ ≠ gb103)) (HO117.out) (fun k_ hk => ⟨hk.1, hk.2.2⟩))).2.1 (Kd.N_F (Kd.N_mono (ok' := (fun k_ => (w.heap.size ≤ k_) ∧ k_ ≠ gb103)) (HO117.out) (fun k_ hk => ⟨hk.1, hk.2.2⟩))))) (Reps.none _ _)))); intro v119 w47 ho48 hb hg_ hnew_; clear hg_ hnew_; (first | rw [← Ny118.out] at ho48 | (simp only [Int.reduceToNat] at ho48; rw [← Ny118.out] at ho48)); have n0_ := Aside0.mk (Kd.N_lower ho48 (below_size (by repeat (first | (with_reducible first | exact HB.out | apply below_alloc | apply pw_below_drewN | apply below_drew1 | refine below_set ?_ GE103.out) | exact HB.out)))); have n1_ := Aside0.mk (blk_below (g := gb103) (o := .cells #[.int .i64 a0_0, .int .i64 a0_1, .int .i64 a0_2, .int .i64 a0_3, .int .i64 a0_4, .int .i64 a0_5] 72 (0, 0)) (by (with_reducible repeat (first | refine blk_drewN ?_ _ | refine blk_drew ?_ | refine blk_alloc ?_ _)); exact BK103.out) hb); have n2_ := Aside0.mk (below_step (by repeat (first | (with_reducible first | exact HB.out | apply below_alloc | apply pw_below_drewN | apply below_drew1 | refine below_set ?_ GE103.out) | exact HB.out)) hb); clear BK103; clear HB; clear HO114; clear HO117; have HO120 := n0_; have BK103 := n1_; have HB := n2_; clear n0_ n1_ n2_; clear hb ho48; have hcz49_0 : w47.cell? ⟨gb103, 0, none⟩ = some (.int .i64 a0_0) := (blk_cell BK103.out 0).trans rfl; have hcz49_1 : w47.cell? ⟨gb103, 1, none⟩ = some (.int .i64 a0_1) := (blk_cell BK103.out 1).trans rfl; have hcz49_2 : w47.cell? ⟨gb103, 2, none⟩ = some (.int .i64 a0_2) := (blk_cell BK103.out 2).trans rfl; have hcz49_3 : w47.cell? ⟨gb103, 3, none⟩ = some (.int .i64 a0_3) := (blk_cell BK103.out 3).trans rfl; have hcz49_4 : w47.cell? ⟨gb103, 4, none⟩ = some (.int .i64 a0_4) := (blk_cell BK103.out 4).trans rfl; have hcz49_5 : w47.cell? ⟨gb103, 5, none⟩ = some (.int .i64 a0_5) := (blk_cell BK103.out 5).trans rfl; have hfz49_0 := blk_frozen BK103.out 0; have hfz49_1 := blk_frozen BK103.out 1; have hfz49_2 := blk_frozen BK103.out 2; have hfz49_3 := blk_frozen BK103.out 3; have hfz49_4 := blk_frozen BK103.out 4; have hfz49_5 := blk_frozen BK103.out 5) | ((with_reducible refine gate_callee (f := 102) rfl ?_); refine goesL_ (some 32) rfl rfl Try.func102 (by kernel_rfl) rfl #[.string (⟨#[80, 114, 101, 118]⟩ : ByteArray), .int .i64 a0_1] rfl (by (try simp only [List.map_toArray, List.map_cons, List.map_nil]); first | done | rfl | (simp only [List.length_drop, List.length_take]; rfl)) ?_; (with_reducible refine (trailer_number.calls (⟨#[80, 114, 101, 118]⟩ : ByteArray) a0_1 t121 t122 t123 t124 t125 t126 t129 _ A7.out).mono ?_); rintro e w50 ⟨v127, v130, rfl, ho0, ho1, hb⟩; refine ⟨_, rfl, ?_⟩; have n0_ := Aside0.mk (Kd.N_mono (Kd.N_told (Kd.N_told (Kd.N_old (by (with_reducible repeat (first | apply Kd.N_alloc | apply Kd.N_drewN | apply Kd.N_drew)); exact HO120.out) hb) (Kd.R_base ho0)) (Kd.R_base ho1)) (fun _ h_ => h_.1)); have n1_ := Aside0.mk (Kd.N_lower (Kd.N_mono (ok' := fun k_ => (w.heap.size ≤ k_) ∧ some k_ ≠ (v130 : Value).ownBlock ∧ some k_ ≠ (v119 : Value).ownBlock ∧ k_ ≠ gb103) (Kd.R_N (Kd.R_bound ho0)) (fun k_ hk_ => ⟨(Nat.le_trans (below_size (by repeat (first | (with_reducible first | exact HB.out | apply below_alloc | apply pw_below_drewN | apply below_drew1 | refine below_set ?_ GE103.out) | exact HB.out))) hk_.2.1), hk_.1, (Kd.fresh' (Kd.N_lt (by (with_reducible repeat (first | apply Kd.N_alloc | apply Kd.N_drewN | apply Kd.N_drew)); exact HO120.out)) k_ hk_.2.1), (Kd.freshB (g := gb103) (o := .cells #[.int .i64 a0_0, .int .i64 a0_1, .int .i64 a0_2, .int .i64 a0_3, .int .i64 a0_4, .int .i64 a0_5] 72 (0, 0)) (by (with_reducible repeat (first | refine blk_drewN ?_ _ | refine blk_drew ?_ | refine blk_alloc ?_ _)); exact BK103.out) k_ hk_.2.1)⟩)) (below_size (by repeat (first | (with_reducible first | exact HB.out | apply below_alloc | apply pw_below_drewN | apply below_drew1 | refine below_set ?_ GE103.out) | exact HB.out)))); have n2_ := Aside0.mk (Kd.N_lower (Kd.N_mono (ok' := fun k_ => (w.heap.size ≤ k_) ∧ some k_ ≠ (v127 : Value).ownBlock ∧ some k_ ≠ (v119 : Value).ownBlock ∧ k_ ≠ gb103) (Kd.R_N (Kd.R_bound ho1)) (fun k_ hk_ => ⟨(Nat.le_trans (below_size (by repeat (first | (with_reducible first | exact HB.out | apply below_alloc | apply pw_below_drewN | apply below_drew1 | refine below_set ?_ GE103.out) | exact HB.out))) hk_.2.1), hk_.1, (Kd.fresh' (Kd.N_lt (by (with_reducible repeat (first | apply Kd.N_alloc | apply Kd.N_drewN | apply Kd.N_drew)); exact HO120.out)) k_ hk_.2.1), (Kd.freshB (g := gb103) (o := .cells #[.int .i64 a0_0, .int .i64 a0_1, .int .i64 a0_2, .int .i64 a0_3, .int .i64 a0_4, .int .i64 a0_5] 72 (0, 0)) (by (with_reducible repeat (first | refine blk_drewN ?_ _ | refine blk_drew ?_ | refine blk_alloc ?_ _)); exact BK103.out) k_ hk_.2.1)⟩)) (below_size (by repeat (first | (with_reducible first | exact HB.out | apply below_alloc | apply pw_below_drewN | apply below_drew1 | refine below_set ?_ GE103.out) | exact HB.out)))); have n3_ := Aside0.mk (blk_below (g := gb103) (o := .cells #[.int .i64 a0_0, .int .i64 a0_1, .int .i64 a0_2, .int .i64 a0_3, .int .i64 a0_4, .int .i64 a0_5] 72 (0, 0)) (by (with_reducible repeat (first | refine blk_drewN ?_ _ | refine blk_drew ?_ | refine blk_alloc ?_ _)); exact BK103.out) hb); have n4_ := Aside0.mk (below_step (by repeat (first | (with_reducible first | exact HB.out | apply below_alloc | apply pw_below_drewN | apply below_drew1 | refine below_set ?_ GE103.out) | exact HB.out)) hb); clear HO120; clear BK103; clear HB; have HO120 := n0_; have HO128 := n1_; have HO131 := n2_; have BK103 := n3_; have HB := n4_; clear n0_ n1_ n2_ n3_ n4_; (try clear hb); (try clear hb2); (try clear hk); (try clear hi); (try clear ho0); (try clear ho1); obtain ⟨Ao52, co52, eo52⟩ := Kd.N_slice HO128.out; subst eo52; obtain ⟨Ao53, co53, eo53⟩ := Kd.N_slice HO131.out; subst eo53) | ((with_reducible refine gate_builtin (b := .append) (xs := #[.tmp 29, .tmp 33]) rfl ?_); at_builtin; refine Kd.N_append k89 (w0 := w) w.heap.size rfl (.tmp 29) (.tmp 33) 33 89 (.agg #[(.string ⟨#[]⟩), (.int .i64 0), (.int .i64 0), (.int .i64 0), (.string ⟨#[]⟩), (.slice none 0 0), (.slice none 0 0)]) 104 rfl Try.underlying33 info89 rfl (by decide) (by omega) v119 y118 (⟨t121, (⟨t122, t123, t124, t125, t126, t129⟩ : S35)⟩ : S89) [.string t121, .int .i64 t122, .int .i64 t123, .int .i64 t124, .string t125, .slice Ao52 t126.length co52, .slice Ao53 t129.length co53] (fun k_ => (w.heap.size ≤ k_) ∧ k_ ≠ gb103) (fun k_ => ((fun k_ => (w.heap.size ≤ k_) ∧ k_ ≠ gb103)) k_ ∧ some k_ ≠ (v119 : Value).ownBlock) rfl rfl ?aP (fun _ hk => hk) ?aF ?aO ?aB ?aS ?aL ?_; (case aP => exact (k89_mkF _ _ (⟨t121, (⟨t122, t123, t124, t125, t126, t129⟩ : S35)⟩ : S89) (Kd.N_reads' (Kd.N_mono (ok' := (fun k_ => ((fun k_ => (w.heap.size ≤ k_) ∧ k_ ≠ gb103)) k_ ∧ some k_ ≠ (v119 : Value).ownBlock)) (HO128.out) (fun k_ hk => ⟨⟨hk.1, hk.2.2.2⟩, hk.2.2.1⟩))).2.1 (Kd.N_F (Kd.N_mono (ok' := (fun k_ => ((fun k_ => (w.heap.size ≤ k_) ∧ k_ ≠ gb103)) k_ ∧ some k_ ≠ (v119 : Value).ownBlock)) (HO128.out) (fun k_ hk => ⟨⟨hk.1, hk.2.2.2⟩, hk.2.2.1⟩))) (Kd.N_reads' (Kd.N_mono (ok' := (fun k_ => ((fun k_ => (w.heap.size ≤ k_) ∧ k_ ≠ gb103)) k_ ∧ some k_ ≠ (v119 : Value).ownBlock)) (HO131.out) (fun k_ hk => ⟨⟨hk.1, hk.2.2.2⟩, hk.2.2.1⟩))).2.1 (Kd.N_F (Kd.N_mono (ok' := (fun k_ => ((fun k_ => (w.heap.size ≤ k_) ∧ k_ ≠ gb103)) k_ ∧ some k_ ≠ (v119 : Value).ownBlock)) (HO131.out) (fun k_ hk => ⟨⟨hk.1, hk.2.2.2⟩, hk.2.2.1⟩))))); (case aB => exact (by repeat (first | (with_reducible first | exact HB.out | apply below_alloc | apply pw_below_drewN | apply below_drew1 | refine below_set ?_ GE103.out) | exact HB.out))); (case aF => exact (fun k_ hk => ⟨(Nat.le_trans (below_size (by repeat (first | (with_reducible first | exact HB.out | apply below_alloc | apply pw_below_drewN | apply below_drew1 | refine below_set ?_ GE103.out) | exact HB.out))) hk), Kd.freshB (g := gb103) (o := .cells #[.int .i64 a0_0, .int .i64 a0_1, .int .i64 a0_2, .int .i64 a0_3, .int .i64 a0_4, .int .i64 a0_5] 72 (0, 0)) (by (with_reducible repeat (first | refine blk_drewN ?_ _ | refine blk_drew ?_ | refine blk_alloc ?_ _)); exact BK103.out) k_ hk⟩)); (case aO => exact (by (with_reducible repeat (first | apply Kd.N_alloc | apply Kd.N_drewN | apply Kd.N_drew)); exact Kd.N_mono HO120.out (fun _ hk => ⟨hk.1.1.1, hk.1.1.2⟩))); (case aS => exact (below_size (by repeat (first | (with_reducible first | exact HB.out | apply below_alloc | apply pw_below_drewN | apply below_drew1 | refine below_set ?_ GE103.out) | exact HB.out)))); (case aL => have := LMc8.out; omega); intro v133 w51 ho hb hg hat; rw [← Ny132.out] at ho; have n0_ := Aside0.mk (blk_grown (g := gb103) (o := .cells #[.int .i64 a0_0, .int .i64 a0_1, .int .i64 a0_2, .int .i64 a0_3, .int .i64 a0_4, .int .i64 a0_5] 72 (0, 0)) (by (with_reducible repeat (first | refine blk_drewN ?_ _ | refine blk_drew ?_ | refine blk_alloc ?_ _)); exact BK103.out) hg (Kd.N_ne HO120.out BK103.out (by decide))); have n1_ := Aside0.mk (hb); have n2_ := Aside0.mk (ho); clear BK103; clear HB; clear HO120; clear HO128; clear HO131; have BK103 := n0_; have HB := n1_; have HO134 := n2_; clear n0_ n1_ n2_; clear ho hb hg hat; have hcz54_0 : w51.cell? ⟨gb103, 0, none⟩ = some (.int .i64 a0_0) := (blk_cell BK103.out 0).trans rfl; have hcz54_1 : w51.cell? ⟨gb103, 1, none⟩ = some (.int .i64 a0_1) := (blk_cell BK103.out 1).trans rfl; have hcz54_2 : w51.cell? ⟨gb103, 2, none⟩ = some (.int .i64 a0_2) := (blk_cell BK103.out 2).trans rfl; have hcz54_3 : w51.cell? ⟨gb103, 3, none⟩ = some (.int .i64 a0_3) := (blk_cell BK103.out 3).trans rfl; have hcz54_4 : w51.cell? ⟨gb103, 4, none⟩ = some (.int .i64 a0_4) := (blk_cell BK103.out 4).trans rfl; have hcz54_5 : w51.cell? ⟨gb103, 5, none⟩ = some (.int .i64 a0_5) := (blk_cell BK103.out 5).trans rfl; have hfz54_0 := blk_frozen BK103.out 0; have hfz54_1 := blk_frozen BK103.out 1; have hfz54_2 := blk_frozen BK103.out 2; have hfz54_3 := blk_frozen BK103.out 3; have hfz54_4 := blk_frozen BK103.out 4; have hfz54_5 := blk_frozen BK103.out 5) | ((with_reducible refine gate_callee (f := 102) rfl ?_); refine goesL_ (some 53) rfl rfl Try.func102 (by kernel_rfl) rfl #[.string (⟨#[83, 105, 122, 101]⟩ : ByteArray), .int .i64 a0_0] rfl (by (try simp only [List.map_toArray, List.map_cons, List.map_nil]); first | done | rfl | (simp only [List.length_drop, List.length_take]; rfl)) ?_; (with_reducible refine (trailer_number.calls (⟨#[83, 105, 122, 101]⟩ : ByteArray) a0_0 t152 t153 t154 t155 t156 t157 t160 _ A36.out).mono ?_); rintro e w55 ⟨v158, v161, rfl, ho0, ho1, hb⟩; refine ⟨_, rfl, ?_⟩; have n0_ := Aside0.mk (Kd.N_mono (Kd.N_told (Kd.N_told (Kd.N_old (by (with_reducible repeat (first | apply Kd.N_alloc | apply Kd.N_drewN | apply Kd.N_drew)); exact HO134.out) hb) (Kd.R_base ho0)) (Kd.R_base ho1)) (fun _ h_ => h_.1)); have n1_ := Aside0.mk (Kd.N_lower (Kd.N_mono (ok' := fun k_ => (w.heap.size ≤ k_) ∧ some k_ ≠ (v161 : Value).ownBlock ∧ some k_ ≠ (v133 : Value).ownBlock ∧ k_ ≠ gb103) (Kd.R_N (Kd.R_bound ho0)) (fun k_ hk_ => ⟨(Nat.le_trans (below_size (by repeat (first | (with_reducible first | exact HB.out | apply below_alloc | apply pw_below_drewN | apply below_drew1 | refine below_set ?_ GE103.out) | exact HB.out))) hk_.2.1), hk_.1, (Kd.fresh' (Kd.N_lt (by (with_reducible repeat (first | apply Kd.N_alloc | apply Kd.N_drewN | apply Kd.N_drew)); exact HO134.out)) k_ hk_.2.1), (Kd.freshB (g := gb103) (o := .cells #[.int .i64 a0_0, .int .i64 a0_1, .int .i64 a0_2, .int .i64 a0_3, .int .i64 a0_4, .int .i64 a0_5] 72 (0, 0)) (by (with_reducible repeat (first | refine blk_drewN ?_ _ | refine blk_drew ?_ | refine blk_alloc ?_ _)); exact BK103.out) k_ hk_.2.1)⟩)) (below_size (by repeat (first | (with_reducible first | exact HB.out | apply below_alloc | apply pw_below_drewN | apply below_drew1 | refine below_set ?_ GE103.out) | exact HB.out)))); have n2_ := Aside0.mk (Kd.N_lower (Kd.N_mono (ok' := fun k_ => (w.heap.size ≤ k_) ∧ some k_ ≠ (v158 : Value).ownBlock ∧ some k_ ≠ (v133 : Value).ownBlock ∧ k_ ≠ gb103) (Kd.R_N (Kd.R_bound ho1)) (fun k_ hk_ => ⟨(Nat.le_trans (below_size (by repeat (first | (with_reducible first | exact HB.out | apply below_alloc | apply pw_below_drewN | apply below_drew1 | refine below_set ?_ GE103.out) | exact HB.out))) hk_.2.1), hk_.1, (Kd.fresh' (Kd.N_lt (by (with_reducible repeat (first | apply Kd.N_alloc | apply Kd.N_drewN | apply Kd.N_drew)); exact HO134.out)) k_ hk_.2.1), (Kd.freshB (g := gb103) (o := .cells #[.int .i64 a0_0, .int .i64 a0_1, .int .i64 a0_2, .int .i64 a0_3, .int .i64 a0_4, .int .i64 a0_5] 72 (0, 0)) (by (with_reducible repeat (first | refine blk_drewN ?_ _ | refine blk_drew ?_ | refine blk_alloc ?_ _)); exact BK103.out) k_ hk_.2.1)⟩)) (below_size (by repeat (first | (with_reducible first | exact HB.out | apply below_alloc | apply pw_below_drewN | apply below_drew1 | refine below_set ?_ GE103.out) | exact HB.out)))); have n3_ := Aside0.mk (blk_below (g := gb103) (o := .cells #[.int .i64 a0_0, .int .i64 a0_1, .int .i64 a0_2, .int .i64 a0_3, .int .i64 a0_4, .int .i64 a0_5] 72 (0, 0)) (by (with_reducible repeat (first | refine blk_drewN ?_ _ | refine blk_drew ?_ | refine blk_alloc ?_ _)); exact BK103.out) hb); have n4_ := Aside0.mk (below_step (by repeat (first | (with_reducible first | exact HB.out | apply below_alloc | apply pw_below_drewN | apply below_drew1 | refine below_set ?_ GE103.out) | exact HB.out)) hb); clear HO134; clear BK103; clear HB; have HO134 := n0_; have HO159 := n1_; have HO162 := n2_; have BK103 := n3_; have HB := n4_; clear n0_ n1_ n2_ n3_ n4_; (try clear hb); (try clear hb2); (try clear hk); (try clear hi); (try clear ho0); (try clear ho1); obtain ⟨Ao57, co57, eo57⟩ := Kd.N_slice HO159.out; subst eo57; obtain ⟨Ao58, co58, eo58⟩ := Kd.N_slice HO162.out; subst eo58) | ((with_reducible refine gate_builtin (b := .append) (xs := #[.tmp 50, .tmp 54]) rfl ?_); at_builtin; refine Kd.N_append k89 (w0 := w) w.heap.size rfl (.tmp 50) (.tmp 54) 33 89 (.agg #[(.string ⟨#[]⟩), (.int .i64 0), (.int .i64 0), (.int .i64 0), (.string ⟨#[]⟩), (.slice none 0 0), (.slice none 0 0)]) 104 rfl Try.underlying33 info89 rfl (by decide) (by omega) v133 y132 (⟨t152, (⟨t153, t154, t155, t156, t157, t160⟩ : S35)⟩ : S89) [.string t152, .int .i64 t153, .int .i64 t154, .int .i64 t155, .string t156, .slice Ao57 t157.length co57, .slice Ao58 t160.length co58] (fun k_ => (w.heap.size ≤ k_) ∧ k_ ≠ gb103) (fun k_ => ((fun k_ => (w.heap.size ≤ k_) ∧ k_ ≠ gb103)) k_ ∧ some k_ ≠ (v133 : Value).ownBlock) rfl rfl ?aP (fun _ hk => hk) ?aF ?aO ?aB ?aS ?aL ?_; (case aP => exact (k89_mkF _ _ (⟨t152, (⟨t153, t154, t155, t156, t157, t160⟩ : S35)⟩ : S89) (Kd.N_reads' (Kd.N_mono (ok' := (fun k_ => ((fun k_ => (w.heap.size ≤ k_) ∧ k_ ≠ gb103)) k_ ∧ some k_ ≠ (v133 : Value).ownBlock)) (HO159.out) (fun k_ hk => ⟨⟨hk.1, hk.2.2.2⟩, hk.2.2.1⟩))).2.1 (Kd.N_F (Kd.N_mono (ok' := (fun k_ => ((fun k_ => (w.heap.size ≤ k_) ∧ k_ ≠ gb103)) k_ ∧ some k_ ≠ (v133 : Value).ownBlock)) (HO159.out) (fun k_ hk => ⟨⟨hk.1, hk.2.2.2⟩, hk.2.2.1⟩))) (Kd.N_reads' (Kd.N_mono (ok' := (fun k_ => ((fun k_ => (w.heap.size ≤ k_) ∧ k_ ≠ gb103)) k_ ∧ some k_ ≠ (v133 : Value).ownBlock)) (HO162.out) (fun k_ hk => ⟨⟨hk.1, hk.2.2.2⟩, hk.2.2.1⟩))).2.1 (Kd.N_F (Kd.N_mono (ok' := (fun k_ => ((fun k_ => (w.heap.size ≤ k_) ∧ k_ ≠ gb103)) k_ ∧ some k_ ≠ (v133 : Value).ownBlock)) (HO162.out) (fun k_ hk => ⟨⟨hk.1, hk.2.2.2⟩, hk.2.2.1⟩))))); (case aB => exact (by repeat (first | (with_reducible first | exact HB.out | apply below_alloc | apply pw_below_drewN | apply below_drew1 | refine below_set ?_ GE103.out) | exact HB.out))); (case aF => exact (fun k_ hk => ⟨(Nat.le_trans (below_size (by repeat (first | (with_reducible first | exact HB.out | apply below_alloc | apply pw_below_drewN | apply below_drew1 | refine below_set ?_ GE103.out) | exact HB.out))) hk), Kd.freshB (g := gb103) (o := .cells #[.int .i64 a0_0, .int .i64 a0_1, .int .i64 a0_2, .int .i64 a0_3, .int .i64 a0_4, .int .i64 a0_5] 72 (0, 0)) (by (with_reducible repeat (first | refine blk_drewN ?_ _ | refine blk_drew ?_ | refine blk_alloc ?_ _)); exact BK103.out) k_ hk⟩)); (case aO => exact (by (with_reducible repeat (first | apply Kd.N_alloc | apply Kd.N_drewN | apply Kd.N_drew)); exact Kd.N_mono HO134.out (fun _ hk => ⟨hk.1.1.1, hk.1.1.2⟩))); (case aS => exact (below_size (by repeat (first | (with_reducible first | exact HB.out | apply below_alloc | apply pw_below_drewN | apply below_drew1 | refine below_set ?_ GE103.out) | exact HB.out)))); (case aL => have := LMc37.out; omega); intro v164 w56 ho hb hg hat; rw [← Ny163.out] at ho; have n0_ := Aside0.mk (blk_grown (g := gb103) (o := .cells #[.int .i64 a0_0, .int .i64 a0_1, .int .i64 a0_2, .int .i64 a0_3, .int .i64 a0_4, .int .i64 a0_5] 72 (0, 0)) (by (with_reducible repeat (first | refine blk_drewN ?_ _ | refine blk_drew ?_ | refine blk_alloc ?_ _)); exact BK103.out) hg (Kd.N_ne HO134.out BK103.out (by decide))); have n1_ := Aside0.mk (hb); have n2_ := Aside0.mk (ho); clear BK103; clear HB; clear HO134; clear HO159; clear HO162; have BK103 := n0_; have HB := n1_; have HO165 := n2_; clear n0_ n1_ n2_; clear ho hb hg hat))
            go_ret2
            exact ⟨_, by first | rfl | (simp [errW_none, errW_some] <;> rfl) | (simp [*, errW_none, errW_some] <;> rfl), by (with_reducible repeat (first | apply Kd.N_alloc | apply Kd.N_drewN | apply Kd.N_drew)); exact Kd.N_mono HO165.out (fun _ hk => hk.1), by repeat (first | (with_reducible first | exact HB.out | apply below_alloc | apply pw_below_drewN | apply below_drew1 | refine below_set ?_ GE103.out) | exact HB.out)⟩
          · rw [if_neg c37] at H
            exact absurd H (by simp)
      · rw [if_neg c8] at H
        exact absurd H (by simp)
    · rw [if_neg c6] at H
      have c6b0 : decide (0 ≤ a0_1) = false := decide_eq_false c6
      clear c6
      by_cases c59 : a0_2 > 0
      · rw [if_pos c59] at H
        have c59b0 : decide (0 < a0_2) = true := decide_eq_true c59
        clear c59
        by_cases c60 : y118.length < 1353245080339
        · rw [if_pos c60] at H
          have LMc60 := Aside0.mk c60
          clear c60
          obtain ⟨y166, hy166⟩ : ∃ y_ : List (S89), y_ = (y118 ++ [(⟨(⟨#[82, 111, 111, 116]⟩ : ByteArray), (⟨7, a0_2, a0_3, (⟨#[]⟩ : ByteArray), ([] : List (S35)), ([] : List (S89))⟩ : S35)⟩ : S89)]) := ⟨_, rfl⟩
          replace H : ((trailer_number.f (⟨#[83, 105, 122, 101]⟩ : ByteArray) a0_0).bind fun bt169 => (if y166.length < 1353245080339 then (some ((y166 ++ [(⟨bt169.1, (⟨bt169.2.1, bt169.2.2.1, bt169.2.2.2.1, bt169.2.2.2.2.1, bt169.2.2.2.2.2.1, bt169.2.2.2.2.2.2⟩ : S35)⟩ : S89)]), 0)) else (none))) = some (r1, r2) := by first | (rw [hy166]; with_reducible exact H) | (have H2_ := (Option.bind_some _ _).symm.trans H; rw [hy166]; with_reducible exact H2_) | (have H2_ := (Option.bind_some _ _).symm.trans H; with_reducible exact H2_) | with_reducible exact H | (rw [hy166]; exact H) | exact H
          have Ny166 := Aside0.mk hy166
          clear hy166
          replace H := Option.bind_eq_some_iff.mp H
          obtain ⟨⟨t169, t170, t171, t172, t173, t174, t177⟩, A610, H⟩ := H
          replace H : (if y166.length < 1353245080339 then (some ((y166 ++ [(⟨t169, (⟨t170, t171, t172, t173, t174, t177⟩ : S35)⟩ : S89)]), 0)) else (none)) = some (r1, r2) := H
          have A61 := Aside0.mk A610
          clear A610
          by_cases c62 : y166.length < 1353245080339
          · rw [if_pos c62] at H
            have LMc62 := Aside0.mk c62
            clear c62
            obtain ⟨y180, hy180⟩ : ∃ y_ : List (S89), y_ = (y166 ++ [(⟨t169, (⟨t170, t171, t172, t173, t174, t177⟩ : S35)⟩ : S89)]) := ⟨_, rfl⟩
            replace H : (some (y180, 0)) = some (r1, r2) := by first | (rw [hy180]; with_reducible exact H) | (have H2_ := (Option.bind_some _ _).symm.trans H; rw [hy180]; with_reducible exact H2_) | (have H2_ := (Option.bind_some _ _).symm.trans H; with_reducible exact H2_) | with_reducible exact H | (rw [hy180]; exact H) | exact H
            have Ny180 := Aside0.mk hy180
            clear hy180
            simp only [Option.some.injEq, Prod.mk.injEq] at H
            obtain ⟨rfl, rfl⟩ := H
            go_enter Try.func39, Try.ntmps39
            go_wp2_with (first | ((with_reducible refine gate_dst (N := 1) rfl ?_); refine box_event ?hg (N := 1) ?hd (cs := #[.int .i64 a0_0, .int .i64 a0_1, .int .i64 a0_2, .int .i64 a0_3, .int .i64 a0_4, .int .i64 a0_5]) (t := 72) ?hr ?_; (case hd => rfl); (case hg => rfl); (case hr => first | (go_simp; done) | (go_simp; rfl)); intro gb103 hg w63 hbox hb; have n0_ := Aside0.mk (below_step (by repeat (first | (with_reducible first | exact HB.out | apply below_alloc | apply pw_below_drewN | apply below_drew1) | exact HB.out)) hb); have n1_ := Aside0.mk (hbox); have n2_ := Aside0.mk ((by rw [hg]; exact (below_size (by repeat (first | (with_reducible first | exact HB.out | apply below_alloc | apply pw_below_drewN | apply below_drew1) | exact HB.out))) : w.heap.size ≤ gb103)); have n3_ := Aside0.mk ((by rw [hg]; exact (below_size (by repeat (first | (with_reducible first | exact HB.out | apply below_alloc | apply pw_below_drewN | apply below_drew1) | exact HB.out))) : w.heap.size ≤ gb103)); clear HB; have HB := n0_; have BK103 := n1_; have GW103 := n2_; have GE103 := n3_; clear n0_ n1_ n2_ n3_; clear hb hbox hg; have hcz64_0 : w63.cell? ⟨gb103, 0, none⟩ = some (.int .i64 a0_0) := (blk_cell BK103.out 0).trans rfl; have hcz64_1 : w63.cell? ⟨gb103, 1, none⟩ = some (.int .i64 a0_1) := (blk_cell BK103.out 1).trans rfl; have hcz64_2 : w63.cell? ⟨gb103, 2, none⟩ = some (.int .i64 a0_2) := (blk_cell BK103.out 2).trans rfl; have hcz64_3 : w63.cell? ⟨gb103, 3, none⟩ = some (.int .i64 a0_3) := (blk_cell BK103.out 3).trans rfl; have hcz64_4 : w63.cell? ⟨gb103, 4, none⟩ = some (.int .i64 a0_4) := (blk_cell BK103.out 4).trans rfl; have hcz64_5 : w63.cell? ⟨gb103, 5, none⟩ = some (.int .i64 a0_5) := (blk_cell BK103.out 5).trans rfl; have hfz64_0 := blk_frozen BK103.out 0; have hfz64_1 := blk_frozen BK103.out 1; have hfz64_2 := blk_frozen BK103.out 2; have hfz64_3 := blk_frozen BK103.out 3; have hfz64_4 := blk_frozen BK103.out 4; have hfz64_5 := blk_frozen BK103.out 5) | ((with_reducible refine gate_callee (f := 42) rfl ?_); refine goesL_ (some 9) rfl rfl Try.func42 (by kernel_rfl) rfl #[.agg #[.int .i64 a0_0, .int .i64 a0_1, .int .i64 a0_2, .int .i64 a0_3, .int .i64 a0_4, .int .i64 a0_5]] rfl (by (try simp only [List.map_toArray, List.map_cons, List.map_nil]); first | done | rfl | (simp only [List.length_drop, List.length_take]; rfl)) ?_; (with_reducible refine (trailer_Check.calls k a0_0 a0_1 a0_2 a0_3 a0_4 a0_5 t104 _ A2.out).mono ?_); rintro e w65 ⟨rfl, hb⟩; refine ⟨_, rfl, ?_⟩; have n0_ := Aside0.mk (blk_below (g := gb103) (o := .cells #[.int .i64 a0_0, .int .i64 a0_1, .int .i64 a0_2, .int .i64 a0_3, .int .i64 a0_4, .int .i64 a0_5] 72 (0, 0)) (by (with_reducible repeat (first | refine blk_drewN ?_ _ | refine blk_drew ?_ | refine blk_alloc ?_ _)); exact BK103.out) hb); have n1_ := Aside0.mk (below_step (by repeat (first | (with_reducible first | exact HB.out | apply below_alloc | apply pw_below_drewN | apply below_drew1 | refine below_set ?_ GE103.out) | exact HB.out)) hb); clear BK103; clear HB; have BK103 := n0_; have HB := n1_; clear n0_ n1_; (try clear hb); (try clear hb2); (try clear hk); (try clear hi); have hcz66_0 : w65.cell? ⟨gb103, 0, none⟩ = some (.int .i64 a0_0) := (blk_cell BK103.out 0).trans rfl; have hcz66_1 : w65.cell? ⟨gb103, 1, none⟩ = some (.int .i64 a0_1) := (blk_cell BK103.out 1).trans rfl; have hcz66_2 : w65.cell? ⟨gb103, 2, none⟩ = some (.int .i64 a0_2) := (blk_cell BK103.out 2).trans rfl; have hcz66_3 : w65.cell? ⟨gb103, 3, none⟩ = some (.int .i64 a0_3) := (blk_cell BK103.out 3).trans rfl; have hcz66_4 : w65.cell? ⟨gb103, 4, none⟩ = some (.int .i64 a0_4) := (blk_cell BK103.out 4).trans rfl; have hcz66_5 : w65.cell? ⟨gb103, 5, none⟩ = some (.int .i64 a0_5) := (blk_cell BK103.out 5).trans rfl; have hfz66_0 := blk_frozen BK103.out 0; have hfz66_1 := blk_frozen BK103.out 1; have hfz66_2 := blk_frozen BK103.out 2; have hfz66_3 := blk_frozen BK103.out 3; have hfz66_4 := blk_frozen BK103.out 4; have hfz66_5 := blk_frozen BK103.out 5) | ((with_reducible refine gate_callee (f := 101) rfl ?_); refine goesL_ (some 16) rfl rfl Try.func101 (by kernel_rfl) rfl #[.int .i64 a0_5, .int .i64 4] rfl (by (try simp only [List.map_toArray, List.map_cons, List.map_nil]); first | done | rfl | (simp only [List.length_drop, List.length_take]; rfl)) ?_; (with_reducible refine (fields_Put.calls a0_5 4 t105 t106 _ A4.out).mono ?_); rintro e w67 ⟨rfl, hb⟩; refine ⟨_, rfl, ?_⟩; have n0_ := Aside0.mk (blk_below (g := gb103) (o := .cells #[.int .i64 a0_0, .int .i64 a0_1, .int .i64 a0_2, .int .i64 a0_3, .int .i64 a0_4, .int .i64 a0_5] 72 (0, 0)) (by (with_reducible repeat (first | refine blk_drewN ?_ _ | refine blk_drew ?_ | refine blk_alloc ?_ _)); exact BK103.out) hb); have n1_ := Aside0.mk (below_step (by repeat (first | (with_reducible first | exact HB.out | apply below_alloc | apply pw_below_drewN | apply below_drew1 | refine below_set ?_ GE103.out) | exact HB.out)) hb); clear BK103; clear HB; have BK103 := n0_; have HB := n1_; clear n0_ n1_; (try clear hb); (try clear hb2); (try clear hk); (try clear hi); have hcz68_0 : w67.cell? ⟨gb103, 0, none⟩ = some (.int .i64 a0_0) := (blk_cell BK103.out 0).trans rfl; have hcz68_1 : w67.cell? ⟨gb103, 1, none⟩ = some (.int .i64 a0_1) := (blk_cell BK103.out 1).trans rfl; have hcz68_2 : w67.cell? ⟨gb103, 2, none⟩ = some (.int .i64 a0_2) := (blk_cell BK103.out 2).trans rfl; have hcz68_3 : w67.cell? ⟨gb103, 3, none⟩ = some (.int .i64 a0_3) := (blk_cell BK103.out 3).trans rfl; have hcz68_4 : w67.cell? ⟨gb103, 4, none⟩ = some (.int .i64 a0_4) := (blk_cell BK103.out 4).trans rfl; have hcz68_5 : w67.cell? ⟨gb103, 5, none⟩ = some (.int .i64 a0_5) := (blk_cell BK103.out 5).trans rfl; have hfz68_0 := blk_frozen BK103.out 0; have hfz68_1 := blk_frozen BK103.out 1; have hfz68_2 := blk_frozen BK103.out 2; have hfz68_3 := blk_frozen BK103.out 3; have hfz68_4 := blk_frozen BK103.out 4; have hfz68_5 := blk_frozen BK103.out 5) | ((with_reducible refine gate_callee (f := 102) rfl ?_); refine goesL_ (some 24) rfl rfl Try.func102 (by kernel_rfl) rfl #[.string (⟨#[76, 101, 110]⟩ : ByteArray), .int .i64 a0_4] rfl (by (try simp only [List.map_toArray, List.map_cons, List.map_nil]); first | done | rfl | (simp only [List.length_drop, List.length_take]; rfl)) ?_; (with_reducible refine (trailer_number.calls (⟨#[76, 101, 110]⟩ : ByteArray) a0_4 t107 t108 t109 t110 t111 t112 t115 _ A5.out).mono ?_); rintro e w69 ⟨v113, v116, rfl, ho0, ho1, hb⟩; refine ⟨_, rfl, ?_⟩; have n0_ := Aside0.mk (Kd.N_lower (Kd.N_mono (ok' := fun k_ => (w.heap.size ≤ k_) ∧ some k_ ≠ (v116 : Value).ownBlock ∧ k_ ≠ gb103) (Kd.R_N (Kd.R_bound ho0)) (fun k_ hk_ => ⟨(Nat.le_trans (below_size (by repeat (first | (with_reducible first | exact HB.out | apply below_alloc | apply pw_below_drewN | apply below_drew1 | refine below_set ?_ GE103.out) | exact HB.out))) hk_.2.1), hk_.1, (Kd.freshB (g := gb103) (o := .cells #[.int .i64 a0_0, .int .i64 a0_1, .int .i64 a0_2, .int .i64 a0_3, .int .i64 a0_4, .int .i64 a0_5] 72 (0, 0)) (by (with_reducible repeat (first | refine blk_drewN ?_ _ | refine blk_drew ?_ | refine blk_alloc ?_ _)); exact BK103.out) k_ hk_.2.1)⟩)) (below_size (by repeat (first | (with_reducible first | exact HB.out | apply below_alloc | apply pw_below_drewN | apply below_drew1 | refine below_set ?_ GE103.out) | exact HB.out)))); have n1_ := Aside0.mk (Kd.N_lower (Kd.N_mono (ok' := fun k_ => (w.heap.size ≤ k_) ∧ some k_ ≠ (v113 : Value).ownBlock ∧ k_ ≠ gb103) (Kd.R_N (Kd.R_bound ho1)) (fun k_ hk_ => ⟨(Nat.le_trans (below_size (by repeat (first | (with_reducible first | exact HB.out | apply below_alloc | apply pw_below_drewN | apply below_drew1 | refine below_set ?_ GE103.out) | exact HB.out))) hk_.2.1), hk_.1, (Kd.freshB (g := gb103) (o := .cells #[.int .i64 a0_0, .int .i64 a0_1, .int .i64 a0_2, .int .i64 a0_3, .int .i64 a0_4, .int .i64 a0_5] 72 (0, 0)) (by (with_reducible repeat (first | refine blk_drewN ?_ _ | refine blk_drew ?_ | refine blk_alloc ?_ _)); exact BK103.out) k_ hk_.2.1)⟩)) (below_size (by repeat (first | (with_reducible first | exact HB.out | apply below_alloc | apply pw_below_drewN | apply below_drew1 | refine below_set ?_ GE103.out) | exact HB.out)))); have n2_ := Aside0.mk (blk_below (g := gb103) (o := .cells #[.int .i64 a0_0, .int .i64 a0_1, .int .i64 a0_2, .int .i64 a0_3, .int .i64 a0_4, .int .i64 a0_5] 72 (0, 0)) (by (with_reducible repeat (first | refine blk_drewN ?_ _ | refine blk_drew ?_ | refine blk_alloc ?_ _)); exact BK103.out) hb); have n3_ := Aside0.mk (below_step (by repeat (first | (with_reducible first | exact HB.out | apply below_alloc | apply pw_below_drewN | apply below_drew1 | refine below_set ?_ GE103.out) | exact HB.out)) hb); clear BK103; clear HB; have HO114 := n0_; have HO117 := n1_; have BK103 := n2_; have HB := n3_; clear n0_ n1_ n2_ n3_; (try clear hb); (try clear hb2); (try clear hk); (try clear hi); (try clear ho0); (try clear ho1); obtain ⟨Ao70, co70, eo70⟩ := Kd.N_slice HO114.out; subst eo70; obtain ⟨Ao71, co71, eo71⟩ := Kd.N_slice HO117.out; subst eo71) | ((with_reducible refine gate_dst (N := 25) rfl ?_); refine Kd.N_lit k89 _ 89 ?hg (N' := 25) ?hd (xs := ([(⟨(⟨#[67, 114, 99]⟩ : ByteArray), (⟨4, 0, 0, t105, ([] : List (S35)), ([] : List (S89))⟩ : S35)⟩ : S89), (⟨t107, (⟨t108, t109, t110, t111, t112, t115⟩ : S35)⟩ : S89)] : List (S89))) (inner := [.string (⟨#[67, 114, 99]⟩ : ByteArray), .int .i64 4, .int .i64 0, .int .i64 0, .string t105, .slice none 0 0, .slice none 0 0, .string t107, .int .i64 t108, .int .i64 t109, .int .i64 t110, .string t111, .slice Ao70 t112.length co70, .slice Ao71 t115.length co71]) (ok := (fun k_ => (w.heap.size ≤ k_) ∧ k_ ≠ gb103)) (okp := (fun k_ => (w.heap.size ≤ k_) ∧ k_ ≠ gb103)) ?hr ?hp (fun _ hk => hk) ((show ∀ k_, w69.heap.size ≤ k_ → (fun k_ => (w.heap.size ≤ k_) ∧ k_ ≠ gb103) k_ from fun k_ hk => ⟨(Nat.le_trans (below_size (by repeat (first | (with_reducible first | exact HB.out | apply below_alloc | apply pw_below_drewN | apply below_drew1 | refine below_set ?_ GE103.out) | exact HB.out))) hk), Kd.freshB (g := gb103) (o := .cells #[.int .i64 a0_0, .int .i64 a0_1, .int .i64 a0_2, .int .i64 a0_3, .int .i64 a0_4, .int .i64 a0_5] 72 (0, 0)) (by (with_reducible repeat (first | refine blk_drewN ?_ _ | refine blk_drew ?_ | refine blk_alloc ?_ _)); exact BK103.out) k_ hk⟩) _ (Nat.le_refl _)) (Below.refl _ _) (Nat.le_refl _) (by simp) ?_; (case hd => rfl); (case hg => rfl); (case hr => first | (go_simp; done) | (go_simp; rfl)); (case hp => exact (Reps.c7 (show Kd.FK k89 _ _ (⟨(⟨#[67, 114, 99]⟩ : ByteArray), (⟨4, 0, 0, t105, ([] : List (S35)), ([] : List (S89))⟩ : S35)⟩ : S89) [.string (⟨#[67, 114, 99]⟩ : ByteArray), .int .i64 4, .int .i64 0, .int .i64 0, .string t105, .slice none 0 0, .slice none 0 0] from (k89_mkF _ _ (⟨(⟨#[67, 114, 99]⟩ : ByteArray), (⟨4, 0, 0, t105, ([] : List (S35)), ([] : List (S89))⟩ : S35)⟩ : S89) (Nat.le_refl _) (Kd.F_nil _ _ _) (Nat.le_refl _) (Kd.F_nil _ _ _))) (Reps.c7 (show Kd.FK k89 _ _ (⟨t107, (⟨t108, t109, t110, t111, t112, t115⟩ : S35)⟩ : S89) [.string t107, .int .i64 t108, .int .i64 t109, .int .i64 t110, .string t111, .slice Ao70 t112.length co70, .slice Ao71 t115.length co71] from (k89_mkF _ _ (⟨t107, (⟨t108, t109, t110, t111, t112, t115⟩ : S35)⟩ : S89) (Kd.N_reads' (Kd.N_mono (ok' := (fun k_ => (w.heap.size ≤ k_) ∧ k_ ≠ gb103)) (HO114.out) (fun k_ hk => ⟨hk.1, hk.2.2⟩))).2.1 (Kd.N_F (Kd.N_mono (ok' := (fun k_ => (w.heap.size ≤ k_) ∧ k_ ≠ gb103)) (HO114.out) (fun k_ hk => ⟨hk.1, hk.2.2⟩))) (Kd.N_reads' (Kd.N_mono (ok' := (fun k_ => (w.heap.size ≤ k_) ∧ k_ ≠ gb103)) (HO117.out) (fun k_ hk => ⟨hk.1, hk.2.2⟩))).2.1 (Kd.N_F (Kd.N_mono (ok' := (fun k_ => (w.heap.size ≤ k_) ∧ k_ ≠ gb103)) (HO117.out) (fun k_ hk => ⟨hk.1, hk.2.2⟩))))) (Reps.none _ _)))); intro v119 w72 ho73 hb hg_ hnew_; clear hg_ hnew_; (first | rw [← Ny118.out] at ho73 | (simp only [Int.reduceToNat] at ho73; rw [← Ny118.out] at ho73)); have n0_ := Aside0.mk (Kd.N_lower ho73 (below_size (by repeat (first | (with_reducible first | exact HB.out | apply below_alloc | apply pw_below_drewN | apply below_drew1 | refine below_set ?_ GE103.out) | exact HB.out)))); have n1_ := Aside0.mk (blk_below (g := gb103) (o := .cells #[.int .i64 a0_0, .int .i64 a0_1, .int .i64 a0_2, .int .i64 a0_3, .int .i64 a0_4, .int .i64 a0_5] 72 (0, 0)) (by (with_reducible repeat (first | refine blk_drewN ?_ _ | refine blk_drew ?_ | refine blk_alloc ?_ _)); exact BK103.out) hb); have n2_ := Aside0.mk (below_step (by repeat (first | (with_reducible first | exact HB.out | apply below_alloc | apply pw_below_drewN | apply below_drew1 | refine below_set ?_ GE103.out) | exact HB.out)) hb); clear BK103; clear HB; clear HO114; clear HO117; have HO120 := n0_; have BK103 := n1_; have HB := n2_; clear n0_ n1_ n2_; clear hb ho73; have hcz74_0 : w72.cell? ⟨gb103, 0, none⟩ = some (.int .i64 a0_0) := (blk_cell BK103.out 0).trans rfl; have hcz74_1 : w72.cell? ⟨gb103, 1, none⟩ = some (.int .i64 a0_1) := (blk_cell BK103.out 1).trans rfl; have hcz74_2 : w72.cell? ⟨gb103, 2, none⟩ = some (.int .i64 a0_2) := (blk_cell BK103.out 2).trans rfl; have hcz74_3 : w72.cell? ⟨gb103, 3, none⟩ = some (.int .i64 a0_3) := (blk_cell BK103.out 3).trans rfl; have hcz74_4 : w72.cell? ⟨gb103, 4, none⟩ = some (.int .i64 a0_4) := (blk_cell BK103.out 4).trans rfl; have hcz74_5 : w72.cell? ⟨gb103, 5, none⟩ = some (.int .i64 a0_5) := (blk_cell BK103.out 5).trans rfl; have hfz74_0 := blk_frozen BK103.out 0; have hfz74_1 := blk_frozen BK103.out 1; have hfz74_2 := blk_frozen BK103.out 2; have hfz74_3 := blk_frozen BK103.out 3; have hfz74_4 := blk_frozen BK103.out 4; have hfz74_5 := blk_frozen BK103.out 5) | ((with_reducible refine gate_builtin (b := .append) (xs := #[.tmp 39, .tmp 48]) rfl ?_); at_builtin; refine Kd.N_append k89 (w0 := w) w.heap.size rfl (.tmp 39) (.tmp 48) 33 89 (.agg #[(.string ⟨#[]⟩), (.int .i64 0), (.int .i64 0), (.int .i64 0), (.string ⟨#[]⟩), (.slice none 0 0), (.slice none 0 0)]) 104 rfl Try.underlying33 info89 rfl (by decide) (by omega) v119 y118 (⟨(⟨#[82, 111, 111, 116]⟩ : ByteArray), (⟨7, a0_2, a0_3, (⟨#[]⟩ : ByteArray), ([] : List (S35)), ([] : List (S89))⟩ : S35)⟩ : S89) [.string (⟨#[82, 111, 111, 116]⟩ : ByteArray), .int .i64 7, .int .i64 a0_2, .int .i64 a0_3, .string (⟨#[]⟩ : ByteArray), .slice none 0 0, .slice none 0 0] (fun k_ => (w.heap.size ≤ k_) ∧ k_ ≠ gb103) (fun k_ => ((fun k_ => (w.heap.size ≤ k_) ∧ k_ ≠ gb103)) k_ ∧ some k_ ≠ (v119 : Value).ownBlock) rfl rfl ?aP (fun _ hk => hk) ?aF ?aO ?aB ?aS ?aL ?_; (case aP => exact (k89_mkF _ _ (⟨(⟨#[82, 111, 111, 116]⟩ : ByteArray), (⟨7, a0_2, a0_3, (⟨#[]⟩ : ByteArray), ([] : List (S35)), ([] : List (S89))⟩ : S35)⟩ : S89) (Nat.le_refl _) (Kd.F_nil _ _ _) (Nat.le_refl _) (Kd.F_nil _ _ _))); (case aB => exact (by repeat (first | (with_reducible first | exact HB.out | apply below_alloc | apply pw_below_drewN | apply below_drew1 | refine below_set ?_ GE103.out) | exact HB.out))); (case aF => exact (fun k_ hk => ⟨(Nat.le_trans (below_size (by repeat (first | (with_reducible first | exact HB.out | apply below_alloc | apply pw_below_drewN | apply below_drew1 | refine below_set ?_ GE103.out) | exact HB.out))) hk), Kd.freshB (g := gb103) (o := .cells #[.int .i64 a0_0, .int .i64 a0_1, .int .i64 a0_2, .int .i64 a0_3, .int .i64 a0_4, .int .i64 a0_5] 72 (0, 0)) (by (with_reducible repeat (first | refine blk_drewN ?_ _ | refine blk_drew ?_ | refine blk_alloc ?_ _)); exact BK103.out) k_ hk⟩)); (case aO => exact (by (with_reducible repeat (first | apply Kd.N_alloc | apply Kd.N_drewN | apply Kd.N_drew)); exact HO120.out)); (case aS => exact (below_size (by repeat (first | (with_reducible first | exact HB.out | apply below_alloc | apply pw_below_drewN | apply below_drew1 | refine below_set ?_ GE103.out) | exact HB.out)))); (case aL => have := LMc60.out; omega); intro v167 w75 ho hb hg hat; rw [← Ny166.out] at ho; have n0_ := Aside0.mk (blk_grown (g := gb103) (o := .cells #[.int .i64 a0_0, .int .i64 a0_1, .int .i64 a0_2, .int .i64 a0_3, .int .i64 a0_4, .int .i64 a0_5] 72 (0, 0)) (by (with_reducible repeat (first | refine blk_drewN ?_ _ | refine blk_drew ?_ | refine blk_alloc ?_ _)); exact BK103.out) hg (Kd.N_ne HO120.out BK103.out (by decide))); have n1_ := Aside0.mk (hb); have n2_ := Aside0.mk (ho); clear BK103; clear HB; clear HO120; have BK103 := n0_; have HB := n1_; have HO168 := n2_; clear n0_ n1_ n2_; clear ho hb hg hat; have hcz76_0 : w75.cell? ⟨gb103, 0, none⟩ = some (.int .i64 a0_0) := (blk_cell BK103.out 0).trans rfl; have hcz76_1 : w75.cell? ⟨gb103, 1, none⟩ = some (.int .i64 a0_1) := (blk_cell BK103.out 1).trans rfl; have hcz76_2 : w75.cell? ⟨gb103, 2, none⟩ = some (.int .i64 a0_2) := (blk_cell BK103.out 2).trans rfl; have hcz76_3 : w75.cell? ⟨gb103, 3, none⟩ = some (.int .i64 a0_3) := (blk_cell BK103.out 3).trans rfl; have hcz76_4 : w75.cell? ⟨gb103, 4, none⟩ = some (.int .i64 a0_4) := (blk_cell BK103.out 4).trans rfl; have hcz76_5 : w75.cell? ⟨gb103, 5, none⟩ = some (.int .i64 a0_5) := (blk_cell BK103.out 5).trans rfl; have hfz76_0 := blk_frozen BK103.out 0; have hfz76_1 := blk_frozen BK103.out 1; have hfz76_2 := blk_frozen BK103.out 2; have hfz76_3 := blk_frozen BK103.out 3; have hfz76_4 := blk_frozen BK103.out 4; have hfz76_5 := blk_frozen BK103.out 5) | ((with_reducible refine gate_callee (f := 102) rfl ?_); refine goesL_ (some 53) rfl rfl Try.func102 (by kernel_rfl) rfl #[.string (⟨#[83, 105, 122, 101]⟩ : ByteArray), .int .i64 a0_0] rfl (by (try simp only [List.map_toArray, List.map_cons, List.map_nil]); first | done | rfl | (simp only [List.length_drop, List.length_take]; rfl)) ?_; (with_reducible refine (trailer_number.calls (⟨#[83, 105, 122, 101]⟩ : ByteArray) a0_0 t169 t170 t171 t172 t173 t174 t177 _ A61.out).mono ?_); rintro e w77 ⟨v175, v178, rfl, ho0, ho1, hb⟩; refine ⟨_, rfl, ?_⟩; have n0_ := Aside0.mk (Kd.N_mono (Kd.N_told (Kd.N_told (Kd.N_old (by (with_reducible repeat (first | apply Kd.N_alloc | apply Kd.N_drewN | apply Kd.N_drew)); exact HO168.out) hb) (Kd.R_base ho0)) (Kd.R_base ho1)) (fun _ h_ => h_.1)); have n1_ := Aside0.mk (Kd.N_lower (Kd.N_mono (ok' := fun k_ => (w.heap.size ≤ k_) ∧ some k_ ≠ (v178 : Value).ownBlock ∧ some k_ ≠ (v167 : Value).ownBlock ∧ k_ ≠ gb103) (Kd.R_N (Kd.R_bound ho0)) (fun k_ hk_ => ⟨(Nat.le_trans (below_size (by repeat (first | (with_reducible first | exact HB.out | apply below_alloc | apply pw_below_drewN | apply below_drew1 | refine below_set ?_ GE103.out) | exact HB.out))) hk_.2.1), hk_.1, (Kd.fresh' (Kd.N_lt (by (with_reducible repeat (first | apply Kd.N_alloc | apply Kd.N_drewN | apply Kd.N_drew)); exact HO168.out)) k_ hk_.2.1), (Kd.freshB (g := gb103) (o := .cells #[.int .i64 a0_0, .int .i64 a0_1, .int .i64 a0_2, .int .i64 a0_3, .int .i64 a0_4, .int .i64 a0_5] 72 (0, 0)) (by (with_reducible repeat (first | refine blk_drewN ?_ _ | refine blk_drew ?_ | refine blk_alloc ?_ _)); exact BK103.out) k_ hk_.2.1)⟩)) (below_size (by repeat (first | (with_reducible first | exact HB.out | apply below_alloc | apply pw_below_drewN | apply below_drew1 | refine below_set ?_ GE103.out) | exact HB.out)))); have n2_ := Aside0.mk (Kd.N_lower (Kd.N_mono (ok' := fun k_ => (w.heap.size ≤ k_) ∧ some k_ ≠ (v175 : Value).ownBlock ∧ some k_ ≠ (v167 : Value).ownBlock ∧ k_ ≠ gb103) (Kd.R_N (Kd.R_bound ho1)) (fun k_ hk_ => ⟨(Nat.le_trans (below_size (by repeat (first | (with_reducible first | exact HB.out | apply below_alloc | apply pw_below_drewN | apply below_drew1 | refine below_set ?_ GE103.out) | exact HB.out))) hk_.2.1), hk_.1, (Kd.fresh' (Kd.N_lt (by (with_reducible repeat (first | apply Kd.N_alloc | apply Kd.N_drewN | apply Kd.N_drew)); exact HO168.out)) k_ hk_.2.1), (Kd.freshB (g := gb103) (o := .cells #[.int .i64 a0_0, .int .i64 a0_1, .int .i64 a0_2, .int .i64 a0_3, .int .i64 a0_4, .int .i64 a0_5] 72 (0, 0)) (by (with_reducible repeat (first | refine blk_drewN ?_ _ | refine blk_drew ?_ | refine blk_alloc ?_ _)); exact BK103.out) k_ hk_.2.1)⟩)) (below_size (by repeat (first | (with_reducible first | exact HB.out | apply below_alloc | apply pw_below_drewN | apply below_drew1 | refine below_set ?_ GE103.out) | exact HB.out)))); have n3_ := Aside0.mk (blk_below (g := gb103) (o := .cells #[.int .i64 a0_0, .int .i64 a0_1, .int .i64 a0_2, .int .i64 a0_3, .int .i64 a0_4, .int .i64 a0_5] 72 (0, 0)) (by (with_reducible repeat (first | refine blk_drewN ?_ _ | refine blk_drew ?_ | refine blk_alloc ?_ _)); exact BK103.out) hb); have n4_ := Aside0.mk (below_step (by repeat (first | (with_reducible first | exact HB.out | apply below_alloc | apply pw_below_drewN | apply below_drew1 | refine below_set ?_ GE103.out) | exact HB.out)) hb); clear HO168; clear BK103; clear HB; have HO168 := n0_; have HO176 := n1_; have HO179 := n2_; have BK103 := n3_; have HB := n4_; clear n0_ n1_ n2_ n3_ n4_; (try clear hb); (try clear hb2); (try clear hk); (try clear hi); (try clear ho0); (try clear ho1); obtain ⟨Ao79, co79, eo79⟩ := Kd.N_slice HO176.out; subst eo79; obtain ⟨Ao80, co80, eo80⟩ := Kd.N_slice HO179.out; subst eo80) | ((with_reducible refine gate_builtin (b := .append) (xs := #[.tmp 50, .tmp 54]) rfl ?_); at_builtin; refine Kd.N_append k89 (w0 := w) w.heap.size rfl (.tmp 50) (.tmp 54) 33 89 (.agg #[(.string ⟨#[]⟩), (.int .i64 0), (.int .i64 0), (.int .i64 0), (.string ⟨#[]⟩), (.slice none 0 0), (.slice none 0 0)]) 104 rfl Try.underlying33 info89 rfl (by decide) (by omega) v167 y166 (⟨t169, (⟨t170, t171, t172, t173, t174, t177⟩ : S35)⟩ : S89) [.string t169, .int .i64 t170, .int .i64 t171, .int .i64 t172, .string t173, .slice Ao79 t174.length co79, .slice Ao80 t177.length co80] (fun k_ => (w.heap.size ≤ k_) ∧ k_ ≠ gb103) (fun k_ => ((fun k_ => (w.heap.size ≤ k_) ∧ k_ ≠ gb103)) k_ ∧ some k_ ≠ (v167 : Value).ownBlock) rfl rfl ?aP (fun _ hk => hk) ?aF ?aO ?aB ?aS ?aL ?_; (case aP => exact (k89_mkF _ _ (⟨t169, (⟨t170, t171, t172, t173, t174, t177⟩ : S35)⟩ : S89) (Kd.N_reads' (Kd.N_mono (ok' := (fun k_ => ((fun k_ => (w.heap.size ≤ k_) ∧ k_ ≠ gb103)) k_ ∧ some k_ ≠ (v167 : Value).ownBlock)) (HO176.out) (fun k_ hk => ⟨⟨hk.1, hk.2.2.2⟩, hk.2.2.1⟩))).2.1 (Kd.N_F (Kd.N_mono (ok' := (fun k_ => ((fun k_ => (w.heap.size ≤ k_) ∧ k_ ≠ gb103)) k_ ∧ some k_ ≠ (v167 : Value).ownBlock)) (HO176.out) (fun k_ hk => ⟨⟨hk.1, hk.2.2.2⟩, hk.2.2.1⟩))) (Kd.N_reads' (Kd.N_mono (ok' := (fun k_ => ((fun k_ => (w.heap.size ≤ k_) ∧ k_ ≠ gb103)) k_ ∧ some k_ ≠ (v167 : Value).ownBlock)) (HO179.out) (fun k_ hk => ⟨⟨hk.1, hk.2.2.2⟩, hk.2.2.1⟩))).2.1 (Kd.N_F (Kd.N_mono (ok' := (fun k_ => ((fun k_ => (w.heap.size ≤ k_) ∧ k_ ≠ gb103)) k_ ∧ some k_ ≠ (v167 : Value).ownBlock)) (HO179.out) (fun k_ hk => ⟨⟨hk.1, hk.2.2.2⟩, hk.2.2.1⟩))))); (case aB => exact (by repeat (first | (with_reducible first | exact HB.out | apply below_alloc | apply pw_below_drewN | apply below_drew1 | refine below_set ?_ GE103.out) | exact HB.out))); (case aF => exact (fun k_ hk => ⟨(Nat.le_trans (below_size (by repeat (first | (with_reducible first | exact HB.out | apply below_alloc | apply pw_below_drewN | apply below_drew1 | refine below_set ?_ GE103.out) | exact HB.out))) hk), Kd.freshB (g := gb103) (o := .cells #[.int .i64 a0_0, .int .i64 a0_1, .int .i64 a0_2, .int .i64 a0_3, .int .i64 a0_4, .int .i64 a0_5] 72 (0, 0)) (by (with_reducible repeat (first | refine blk_drewN ?_ _ | refine blk_drew ?_ | refine blk_alloc ?_ _)); exact BK103.out) k_ hk⟩)); (case aO => exact (by (with_reducible repeat (first | apply Kd.N_alloc | apply Kd.N_drewN | apply Kd.N_drew)); exact Kd.N_mono HO168.out (fun _ hk => ⟨hk.1.1.1, hk.1.1.2⟩))); (case aS => exact (below_size (by repeat (first | (with_reducible first | exact HB.out | apply below_alloc | apply pw_below_drewN | apply below_drew1 | refine below_set ?_ GE103.out) | exact HB.out)))); (case aL => have := LMc62.out; omega); intro v181 w78 ho hb hg hat; rw [← Ny180.out] at ho; have n0_ := Aside0.mk (blk_grown (g := gb103) (o := .cells #[.int .i64 a0_0, .int .i64 a0_1, .int .i64 a0_2, .int .i64 a0_3, .int .i64 a0_4, .int .i64 a0_5] 72 (0, 0)) (by (with_reducible repeat (first | refine blk_drewN ?_ _ | refine blk_drew ?_ | refine blk_alloc ?_ _)); exact BK103.out) hg (Kd.N_ne HO168.out BK103.out (by decide))); have n1_ := Aside0.mk (hb); have n2_ := Aside0.mk (ho); clear BK103; clear HB; clear HO168; clear HO176; clear HO179; have BK103 := n0_; have HB := n1_; have HO182 := n2_; clear n0_ n1_ n2_; clear ho hb hg hat))
            go_ret2
            exact ⟨_, by first | rfl | (simp [errW_none, errW_some] <;> rfl) | (simp [*, errW_none, errW_some] <;> rfl), by (with_reducible repeat (first | apply Kd.N_alloc | apply Kd.N_drewN | apply Kd.N_drew)); exact Kd.N_mono HO182.out (fun _ hk => hk.1), by repeat (first | (with_reducible first | exact HB.out | apply below_alloc | apply pw_below_drewN | apply below_drew1 | refine below_set ?_ GE103.out) | exact HB.out)⟩
          · rw [if_neg c62] at H
            exact absurd H (by simp)
        · rw [if_neg c60] at H
          exact absurd H (by simp)
      · rw [if_neg c59] at H
        have c59b0 : decide (0 < a0_2) = false := decide_eq_false c59
        clear c59
        replace H := Option.bind_eq_some_iff.mp H
        obtain ⟨⟨t183, t184, t185, t186, t187, t188, t191⟩, A810, H⟩ := H
        replace H : (if y118.length < 1353245080339 then (some ((y118 ++ [(⟨t183, (⟨t184, t185, t186, t187, t188, t191⟩ : S35)⟩ : S89)]), 0)) else (none)) = some (r1, r2) := H
        have A81 := Aside0.mk A810
        clear A810
        by_cases c82 : y118.length < 1353245080339
        · rw [if_pos c82] at H
          have LMc82 := Aside0.mk c82
          clear c82
          obtain ⟨y194, hy194⟩ : ∃ y_ : List (S89), y_ = (y118 ++ [(⟨t183, (⟨t184, t185, t186, t187, t188, t191⟩ : S35)⟩ : S89)]) := ⟨_, rfl⟩
          replace H : (some (y194, 0)) = some (r1, r2) := by first | (rw [hy194]; with_reducible exact H) | (have H2_ := (Option.bind_some _ _).symm.trans H; rw [hy194]; with_reducible exact H2_) | (have H2_ := (Option.bind_some _ _).symm.trans H; with_reducible exact H2_) | with_reducible exact H | (rw [hy194]; exact H) | exact H
          have Ny194 := Aside0.mk hy194
          clear hy194
          simp only [Option.some.injEq, Prod.mk.injEq] at H
          obtain ⟨rfl, rfl⟩ := H
          go_enter Try.func39, Try.ntmps39
          go_wp2_with (first | ((with_reducible refine gate_dst (N := 1) rfl ?_); refine box_event ?hg (N := 1) ?hd (cs := #[.int .i64 a0_0, .int .i64 a0_1, .int .i64 a0_2, .int .i64 a0_3, .int .i64 a0_4, .int .i64 a0_5]) (t := 72) ?hr ?_; (case hd => rfl); (case hg => rfl); (case hr => first | (go_simp; done) | (go_simp; rfl)); intro gb103 hg w83 hbox hb; have n0_ := Aside0.mk (below_step (by repeat (first | (with_reducible first | exact HB.out | apply below_alloc | apply pw_below_drewN | apply below_drew1) | exact HB.out)) hb); have n1_ := Aside0.mk (hbox); have n2_ := Aside0.mk ((by rw [hg]; exact (below_size (by repeat (first | (with_reducible first | exact HB.out | apply below_alloc | apply pw_below_drewN | apply below_drew1) | exact HB.out))) : w.heap.size ≤ gb103)); have n3_ := Aside0.mk ((by rw [hg]; exact (below_size (by repeat (first | (with_reducible first | exact HB.out | apply below_alloc | apply pw_below_drewN | apply below_drew1) | exact HB.out))) : w.heap.size ≤ gb103)); clear HB; have HB := n0_; have BK103 := n1_; have GW103 := n2_; have GE103 := n3_; clear n0_ n1_ n2_ n3_; clear hb hbox hg; have hcz84_0 : w83.cell? ⟨gb103, 0, none⟩ = some (.int .i64 a0_0) := (blk_cell BK103.out 0).trans rfl; have hcz84_1 : w83.cell? ⟨gb103, 1, none⟩ = some (.int .i64 a0_1) := (blk_cell BK103.out 1).trans rfl; have hcz84_2 : w83.cell? ⟨gb103, 2, none⟩ = some (.int .i64 a0_2) := (blk_cell BK103.out 2).trans rfl; have hcz84_3 : w83.cell? ⟨gb103, 3, none⟩ = some (.int .i64 a0_3) := (blk_cell BK103.out 3).trans rfl; have hcz84_4 : w83.cell? ⟨gb103, 4, none⟩ = some (.int .i64 a0_4) := (blk_cell BK103.out 4).trans rfl; have hcz84_5 : w83.cell? ⟨gb103, 5, none⟩ = some (.int .i64 a0_5) := (blk_cell BK103.out 5).trans rfl; have hfz84_0 := blk_frozen BK103.out 0; have hfz84_1 := blk_frozen BK103.out 1; have hfz84_2 := blk_frozen BK103.out 2; have hfz84_3 := blk_frozen BK103.out 3; have hfz84_4 := blk_frozen BK103.out 4; have hfz84_5 := blk_frozen BK103.out 5) | ((with_reducible refine gate_callee (f := 42) rfl ?_); refine goesL_ (some 9) rfl rfl Try.func42 (by kernel_rfl) rfl #[.agg #[.int .i64 a0_0, .int .i64 a0_1, .int .i64 a0_2, .int .i64 a0_3, .int .i64 a0_4, .int .i64 a0_5]] rfl (by (try simp only [List.map_toArray, List.map_cons, List.map_nil]); first | done | rfl | (simp only [List.length_drop, List.length_take]; rfl)) ?_; (with_reducible refine (trailer_Check.calls k a0_0 a0_1 a0_2 a0_3 a0_4 a0_5 t104 _ A2.out).mono ?_); rintro e w85 ⟨rfl, hb⟩; refine ⟨_, rfl, ?_⟩; have n0_ := Aside0.mk (blk_below (g := gb103) (o := .cells #[.int .i64 a0_0, .int .i64 a0_1, .int .i64 a0_2, .int .i64 a0_3, .int .i64 a0_4, .int .i64 a0_5] 72 (0, 0)) (by (with_reducible repeat (first | refine blk_drewN ?_ _ | refine blk_drew ?_ | refine blk_alloc ?_ _)); exact BK103.out) hb); have n1_ := Aside0.mk (below_step (by repeat (first | (with_reducible first | exact HB.out | apply below_alloc | apply pw_below_drewN | apply below_drew1 | refine below_set ?_ GE103.out) | exact HB.out)) hb); clear BK103; clear HB; have BK103 := n0_; have HB := n1_; clear n0_ n1_; (try clear hb); (try clear hb2); (try clear hk); (try clear hi); have hcz86_0 : w85.cell? ⟨gb103, 0, none⟩ = some (.int .i64 a0_0) := (blk_cell BK103.out 0).trans rfl; have hcz86_1 : w85.cell? ⟨gb103, 1, none⟩ = some (.int .i64 a0_1) := (blk_cell BK103.out 1).trans rfl; have hcz86_2 : w85.cell? ⟨gb103, 2, none⟩ = some (.int .i64 a0_2) := (blk_cell BK103.out 2).trans rfl; have hcz86_3 : w85.cell? ⟨gb103, 3, none⟩ = some (.int .i64 a0_3) := (blk_cell BK103.out 3).trans rfl; have hcz86_4 : w85.cell? ⟨gb103, 4, none⟩ = some (.int .i64 a0_4) := (blk_cell BK103.out 4).trans rfl; have hcz86_5 : w85.cell? ⟨gb103, 5, none⟩ = some (.int .i64 a0_5) := (blk_cell BK103.out 5).trans rfl; have hfz86_0 := blk_frozen BK103.out 0; have hfz86_1 := blk_frozen BK103.out 1; have hfz86_2 := blk_frozen BK103.out 2; have hfz86_3 := blk_frozen BK103.out 3; have hfz86_4 := blk_frozen BK103.out 4; have hfz86_5 := blk_frozen BK103.out 5) | ((with_reducible refine gate_callee (f := 101) rfl ?_); refine goesL_ (some 16) rfl rfl Try.func101 (by kernel_rfl) rfl #[.int .i64 a0_5, .int .i64 4] rfl (by (try simp only [List.map_toArray, List.map_cons, List.map_nil]); first | done | rfl | (simp only [List.length_drop, List.length_take]; rfl)) ?_; (with_reducible refine (fields_Put.calls a0_5 4 t105 t106 _ A4.out).mono ?_); rintro e w87 ⟨rfl, hb⟩; refine ⟨_, rfl, ?_⟩; have n0_ := Aside0.mk (blk_below (g := gb103) (o := .cells #[.int .i64 a0_0, .int .i64 a0_1, .int .i64 a0_2, .int .i64 a0_3, .int .i64 a0_4, .int .i64 a0_5] 72 (0, 0)) (by (with_reducible repeat (first | refine blk_drewN ?_ _ | refine blk_drew ?_ | refine blk_alloc ?_ _)); exact BK103.out) hb); have n1_ := Aside0.mk (below_step (by repeat (first | (with_reducible first | exact HB.out | apply below_alloc | apply pw_below_drewN | apply below_drew1 | refine below_set ?_ GE103.out) | exact HB.out)) hb); clear BK103; clear HB; have BK103 := n0_; have HB := n1_; clear n0_ n1_; (try clear hb); (try clear hb2); (try clear hk); (try clear hi); have hcz88_0 : w87.cell? ⟨gb103, 0, none⟩ = some (.int .i64 a0_0) := (blk_cell BK103.out 0).trans rfl; have hcz88_1 : w87.cell? ⟨gb103, 1, none⟩ = some (.int .i64 a0_1) := (blk_cell BK103.out 1).trans rfl; have hcz88_2 : w87.cell? ⟨gb103, 2, none⟩ = some (.int .i64 a0_2) := (blk_cell BK103.out 2).trans rfl; have hcz88_3 : w87.cell? ⟨gb103, 3, none⟩ = some (.int .i64 a0_3) := (blk_cell BK103.out 3).trans rfl; have hcz88_4 : w87.cell? ⟨gb103, 4, none⟩ = some (.int .i64 a0_4) := (blk_cell BK103.out 4).trans rfl; have hcz88_5 : w87.cell? ⟨gb103, 5, none⟩ = some (.int .i64 a0_5) := (blk_cell BK103.out 5).trans rfl; have hfz88_0 := blk_frozen BK103.out 0; have hfz88_1 := blk_frozen BK103.out 1; have hfz88_2 := blk_frozen BK103.out 2; have hfz88_3 := blk_frozen BK103.out 3; have hfz88_4 := blk_frozen BK103.out 4; have hfz88_5 := blk_frozen BK103.out 5) | ((with_reducible refine gate_callee (f := 102) rfl ?_); refine goesL_ (some 24) rfl rfl Try.func102 (by kernel_rfl) rfl #[.string (⟨#[76, 101, 110]⟩ : ByteArray), .int .i64 a0_4] rfl (by (try simp only [List.map_toArray, List.map_cons, List.map_nil]); first | done | rfl | (simp only [List.length_drop, List.length_take]; rfl)) ?_; (with_reducible refine (trailer_number.calls (⟨#[76, 101, 110]⟩ : ByteArray) a0_4 t107 t108 t109 t110 t111 t112 t115 _ A5.out).mono ?_); rintro e w89 ⟨v113, v116, rfl, ho0, ho1, hb⟩; refine ⟨_, rfl, ?_⟩; have n0_ := Aside0.mk (Kd.N_lower (Kd.N_mono (ok' := fun k_ => (w.heap.size ≤ k_) ∧ some k_ ≠ (v116 : Value).ownBlock ∧ k_ ≠ gb103) (Kd.R_N (Kd.R_bound ho0)) (fun k_ hk_ => ⟨(Nat.le_trans (below_size (by repeat (first | (with_reducible first | exact HB.out | apply below_alloc | apply pw_below_drewN | apply below_drew1 | refine below_set ?_ GE103.out) | exact HB.out))) hk_.2.1), hk_.1, (Kd.freshB (g := gb103) (o := .cells #[.int .i64 a0_0, .int .i64 a0_1, .int .i64 a0_2, .int .i64 a0_3, .int .i64 a0_4, .int .i64 a0_5] 72 (0, 0)) (by (with_reducible repeat (first | refine blk_drewN ?_ _ | refine blk_drew ?_ | refine blk_alloc ?_ _)); exact BK103.out) k_ hk_.2.1)⟩)) (below_size (by repeat (first | (with_reducible first | exact HB.out | apply below_alloc | apply pw_below_drewN | apply below_drew1 | refine below_set ?_ GE103.out) | exact HB.out)))); have n1_ := Aside0.mk (Kd.N_lower (Kd.N_mono (ok' := fun k_ => (w.heap.size ≤ k_) ∧ some k_ ≠ (v113 : Value).ownBlock ∧ k_ ≠ gb103) (Kd.R_N (Kd.R_bound ho1)) (fun k_ hk_ => ⟨(Nat.le_trans (below_size (by repeat (first | (with_reducible first | exact HB.out | apply below_alloc | apply pw_below_drewN | apply below_drew1 | refine below_set ?_ GE103.out) | exact HB.out))) hk_.2.1), hk_.1, (Kd.freshB (g := gb103) (o := .cells #[.int .i64 a0_0, .int .i64 a0_1, .int .i64 a0_2, .int .i64 a0_3, .int .i64 a0_4, .int .i64 a0_5] 72 (0, 0)) (by (with_reducible repeat (first | refine blk_drewN ?_ _ | refine blk_drew ?_ | refine blk_alloc ?_ _)); exact BK103.out) k_ hk_.2.1)⟩)) (below_size (by repeat (first | (with_reducible first | exact HB.out | apply below_alloc | apply pw_below_drewN | apply below_drew1 | refine below_set ?_ GE103.out) | exact HB.out)))); have n2_ := Aside0.mk (blk_below (g := gb103) (o := .cells #[.int .i64 a0_0, .int .i64 a0_1, .int .i64 a0_2, .int .i64 a0_3, .int .i64 a0_4, .int .i64 a0_5] 72 (0, 0)) (by (with_reducible repeat (first | refine blk_drewN ?_ _ | refine blk_drew ?_ | refine blk_alloc ?_ _)); exact BK103.out) hb); have n3_ := Aside0.mk (below_step (by repeat (first | (with_reducible first | exact HB.out | apply below_alloc | apply pw_below_drewN | apply below_drew1 | refine below_set ?_ GE103.out) | exact HB.out)) hb); clear BK103; clear HB; have HO114 := n0_; have HO117 := n1_; have BK103 := n2_; have HB := n3_; clear n0_ n1_ n2_ n3_; (try clear hb); (try clear hb2); (try clear hk); (try clear hi); (try clear ho0); (try clear ho1); obtain ⟨Ao90, co90, eo90⟩ := Kd.N_slice HO114.out; subst eo90; obtain ⟨Ao91, co91, eo91⟩ := Kd.N_slice HO117.out; subst eo91) | ((with_reducible refine gate_dst (N := 25) rfl ?_); refine Kd.N_lit k89 _ 89 ?hg (N' := 25) ?hd (xs := ([(⟨(⟨#[67, 114, 99]⟩ : ByteArray), (⟨4, 0, 0, t105, ([] : List (S35)), ([] : List (S89))⟩ : S35)⟩ : S89), (⟨t107, (⟨t108, t109, t110, t111, t112, t115⟩ : S35)⟩ : S89)] : List (S89))) (inner := [.string (⟨#[67, 114, 99]⟩ : ByteArray), .int .i64 4, .int .i64 0, .int .i64 0, .string t105, .slice none 0 0, .slice none 0 0, .string t107, .int .i64 t108, .int .i64 t109, .int .i64 t110, .string t111, .slice Ao90 t112.length co90, .slice Ao91 t115.length co91]) (ok := (fun k_ => (w.heap.size ≤ k_) ∧ k_ ≠ gb103)) (okp := (fun k_ => (w.heap.size ≤ k_) ∧ k_ ≠ gb103)) ?hr ?hp (fun _ hk => hk) ((show ∀ k_, w89.heap.size ≤ k_ → (fun k_ => (w.heap.size ≤ k_) ∧ k_ ≠ gb103) k_ from fun k_ hk => ⟨(Nat.le_trans (below_size (by repeat (first | (with_reducible first | exact HB.out | apply below_alloc | apply pw_below_drewN | apply below_drew1 | refine below_set ?_ GE103.out) | exact HB.out))) hk), Kd.freshB (g := gb103) (o := .cells #[.int .i64 a0_0, .int .i64 a0_1, .int .i64 a0_2, .int .i64 a0_3, .int .i64 a0_4, .int .i64 a0_5] 72 (0, 0)) (by (with_reducible repeat (first | refine blk_drewN ?_ _ | refine blk_drew ?_ | refine blk_alloc ?_ _)); exact BK103.out) k_ hk⟩) _ (Nat.le_refl _)) (Below.refl _ _) (Nat.le_refl _) (by simp) ?_; (case hd => rfl); (case hg => rfl); (case hr => first | (go_simp; done) | (go_simp; rfl)); (case hp => exact (Reps.c7 (show Kd.FK k89 _ _ (⟨(⟨#[67, 114, 99]⟩ : ByteArray), (⟨4, 0, 0, t105, ([] : List (S35)), ([] : List (S89))⟩ : S35)⟩ : S89) [.string (⟨#[67, 114, 99]⟩ : ByteArray), .int .i64 4, .int .i64 0, .int .i64 0, .string t105, .slice none 0 0, .slice none 0 0] from (k89_mkF _ _ (⟨(⟨#[67, 114, 99]⟩ : ByteArray), (⟨4, 0, 0, t105, ([] : List (S35)), ([] : List (S89))⟩ : S35)⟩ : S89) (Nat.le_refl _) (Kd.F_nil _ _ _) (Nat.le_refl _) (Kd.F_nil _ _ _))) (Reps.c7 (show Kd.FK k89 _ _ (⟨t107, (⟨t108, t109, t110, t111, t112, t115⟩ : S35)⟩ : S89) [.string t107, .int .i64 t108, .int .i64 t109, .int .i64 t110, .string t111, .slice Ao90 t112.length co90, .slice Ao91 t115.length co91] from (k89_mkF _ _ (⟨t107, (⟨t108, t109, t110, t111, t112, t115⟩ : S35)⟩ : S89) (Kd.N_reads' (Kd.N_mono (ok' := (fun k_ => (w.heap.size ≤ k_) ∧ k_ ≠ gb103)) (HO114.out) (fun k_ hk => ⟨hk.1, hk.2.2⟩))).2.1 (Kd.N_F (Kd.N_mono (ok' := (fun k_ => (w.heap.size ≤ k_) ∧ k_ ≠ gb103)) (HO114.out) (fun k_ hk => ⟨hk.1, hk.2.2⟩))) (Kd.N_reads' (Kd.N_mono (ok' := (fun k_ => (w.heap.size ≤ k_) ∧ k_ ≠ gb103)) (HO117.out) (fun k_ hk => ⟨hk.1, hk.2.2⟩))).2.1 (Kd.N_F (Kd.N_mono (ok' := (fun k_ => (w.heap.size ≤ k_) ∧ k_ ≠ gb103)) (HO117.out) (fun k_ hk => ⟨hk.1, hk.2.2⟩))))) (Reps.none _ _)))); intro v119 w92 ho93 hb hg_ hnew_; clear hg_ hnew_; (first | rw [← Ny118.out] at ho93 | (simp only [Int.reduceToNat] at ho93; rw [← Ny118.out] at ho93)); have n0_ := Aside0.mk (Kd.N_lower ho93 (below_size (by repeat (first | (with_reducible first | exact HB.out | apply below_alloc | apply pw_below_drewN | apply below_drew1 | refine below_set ?_ GE103.out) | exact HB.out)))); have n1_ := Aside0.mk (blk_below (g := gb103) (o := .cells #[.int .i64 a0_0, .int .i64 a0_1, .int .i64 a0_2, .int .i64 a0_3, .int .i64 a0_4, .int .i64 a0_5] 72 (0, 0)) (by (with_reducible repeat (first | refine blk_drewN ?_ _ | refine blk_drew ?_ | refine blk_alloc ?_ _)); exact BK103.out) hb); have n2_ := Aside0.mk (below_step (by repeat (first | (with_reducible first | exact HB.out | apply below_alloc | apply pw_below_drewN | apply below_drew1 | refine below_set ?_ GE103.out) | exact HB.out)) hb); clear BK103; clear HB; clear HO114; clear HO117; have HO120 := n0_; have BK103 := n1_; have HB := n2_; clear n0_ n1_ n2_; clear hb ho93; have hcz94_0 : w92.cell? ⟨gb103, 0, none⟩ = some (.int .i64 a0_0) := (blk_cell BK103.out 0).trans rfl; have hcz94_1 : w92.cell? ⟨gb103, 1, none⟩ = some (.int .i64 a0_1) := (blk_cell BK103.out 1).trans rfl; have hcz94_2 : w92.cell? ⟨gb103, 2, none⟩ = some (.int .i64 a0_2) := (blk_cell BK103.out 2).trans rfl; have hcz94_3 : w92.cell? ⟨gb103, 3, none⟩ = some (.int .i64 a0_3) := (blk_cell BK103.out 3).trans rfl; have hcz94_4 : w92.cell? ⟨gb103, 4, none⟩ = some (.int .i64 a0_4) := (blk_cell BK103.out 4).trans rfl; have hcz94_5 : w92.cell? ⟨gb103, 5, none⟩ = some (.int .i64 a0_5) := (blk_cell BK103.out 5).trans rfl; have hfz94_0 := blk_frozen BK103.out 0; have hfz94_1 := blk_frozen BK103.out 1; have hfz94_2 := blk_frozen BK103.out 2; have hfz94_3 := blk_frozen BK103.out 3; have hfz94_4 := blk_frozen BK103.out 4; have hfz94_5 := blk_frozen BK103.out 5) | ((with_reducible refine gate_callee (f := 102) rfl ?_); refine goesL_ (some 53) rfl rfl Try.func102 (by kernel_rfl) rfl #[.string (⟨#[83, 105, 122, 101]⟩ : ByteArray), .int .i64 a0_0] rfl (by (try simp only [List.map_toArray, List.map_cons, List.map_nil]); first | done | rfl | (simp only [List.length_drop, List.length_take]; rfl)) ?_; (with_reducible refine (trailer_number.calls (⟨#[83, 105, 122, 101]⟩ : ByteArray) a0_0 t183 t184 t185 t186 t187 t188 t191 _ A81.out).mono ?_); rintro e w95 ⟨v189, v192, rfl, ho0, ho1, hb⟩; refine ⟨_, rfl, ?_⟩; have n0_ := Aside0.mk (Kd.N_mono (Kd.N_told (Kd.N_told (Kd.N_old (by (with_reducible repeat (first | apply Kd.N_alloc | apply Kd.N_drewN | apply Kd.N_drew)); exact HO120.out) hb) (Kd.R_base ho0)) (Kd.R_base ho1)) (fun _ h_ => h_.1)); have n1_ := Aside0.mk (Kd.N_lower (Kd.N_mono (ok' := fun k_ => (w.heap.size ≤ k_) ∧ some k_ ≠ (v192 : Value).ownBlock ∧ some k_ ≠ (v119 : Value).ownBlock ∧ k_ ≠ gb103) (Kd.R_N (Kd.R_bound ho0)) (fun k_ hk_ => ⟨(Nat.le_trans (below_size (by repeat (first | (with_reducible first | exact HB.out | apply below_alloc | apply pw_below_drewN | apply below_drew1 | refine below_set ?_ GE103.out) | exact HB.out))) hk_.2.1), hk_.1, (Kd.fresh' (Kd.N_lt (by (with_reducible repeat (first | apply Kd.N_alloc | apply Kd.N_drewN | apply Kd.N_drew)); exact HO120.out)) k_ hk_.2.1), (Kd.freshB (g := gb103) (o := .cells #[.int .i64 a0_0, .int .i64 a0_1, .int .i64 a0_2, .int .i64 a0_3, .int .i64 a0_4, .int .i64 a0_5] 72 (0, 0)) (by (with_reducible repeat (first | refine blk_drewN ?_ _ | refine blk_drew ?_ | refine blk_alloc ?_ _)); exact BK103.out) k_ hk_.2.1)⟩)) (below_size (by repeat (first | (with_reducible first | exact HB.out | apply below_alloc | apply pw_below_drewN | apply below_drew1 | refine below_set ?_ GE103.out) | exact HB.out)))); have n2_ := Aside0.mk (Kd.N_lower (Kd.N_mono (ok' := fun k_ => (w.heap.size ≤ k_) ∧ some k_ ≠ (v189 : Value).ownBlock ∧ some k_ ≠ (v119 : Value).ownBlock ∧ k_ ≠ gb103) (Kd.R_N (Kd.R_bound ho1)) (fun k_ hk_ => ⟨(Nat.le_trans (below_size (by repeat (first | (with_reducible first | exact HB.out | apply below_alloc | apply pw_below_drewN | apply below_drew1 | refine below_set ?_ GE103.out) | exact HB.out))) hk_.2.1), hk_.1, (Kd.fresh' (Kd.N_lt (by (with_reducible repeat (first | apply Kd.N_alloc | apply Kd.N_drewN | apply Kd.N_drew)); exact HO120.out)) k_ hk_.2.1), (Kd.freshB (g := gb103) (o := .cells #[.int .i64 a0_0, .int .i64 a0_1, .int .i64 a0_2, .int .i64 a0_3, .int .i64 a0_4, .int .i64 a0_5] 72 (0, 0)) (by (with_reducible repeat (first | refine blk_drewN ?_ _ | refine blk_drew ?_ | refine blk_alloc ?_ _)); exact BK103.out) k_ hk_.2.1)⟩)) (below_size (by repeat (first | (with_reducible first | exact HB.out | apply below_alloc | apply pw_below_drewN | apply below_drew1 | refine below_set ?_ GE103.out) | exact HB.out)))); have n3_ := Aside0.mk (blk_below (g := gb103) (o := .cells #[.int .i64 a0_0, .int .i64 a0_1, .int .i64 a0_2, .int .i64 a0_3, .int .i64 a0_4, .int .i64 a0_5] 72 (0, 0)) (by (with_reducible repeat (first | refine blk_drewN ?_ _ | refine blk_drew ?_ | refine blk_alloc ?_ _)); exact BK103.out) hb); have n4_ := Aside0.mk (below_step (by repeat (first | (with_reducible first | exact HB.out | apply below_alloc | apply pw_below_drewN | apply below_drew1 | refine below_set ?_ GE103.out) | exact HB.out)) hb); clear HO120; clear BK103; clear HB; have HO120 := n0_; have HO190 := n1_; have HO193 := n2_; have BK103 := n3_; have HB := n4_; clear n0_ n1_ n2_ n3_ n4_; (try clear hb); (try clear hb2); (try clear hk); (try clear hi); (try clear ho0); (try clear ho1); obtain ⟨Ao97, co97, eo97⟩ := Kd.N_slice HO190.out; subst eo97; obtain ⟨Ao98, co98, eo98⟩ := Kd.N_slice HO193.out; subst eo98) | ((with_reducible refine gate_builtin (b := .append) (xs := #[.tmp 50, .tmp 54]) rfl ?_); at_builtin; refine Kd.N_append k89 (w0 := w) w.heap.size rfl (.tmp 50) (.tmp 54) 33 89 (.agg #[(.string ⟨#[]⟩), (.int .i64 0), (.int .i64 0), (.int .i64 0), (.string ⟨#[]⟩), (.slice none 0 0), (.slice none 0 0)]) 104 rfl Try.underlying33 info89 rfl (by decide) (by omega) v119 y118 (⟨t183, (⟨t184, t185, t186, t187, t188, t191⟩ : S35)⟩ : S89) [.string t183, .int .i64 t184, .int .i64 t185, .int .i64 t186, .string t187, .slice Ao97 t188.length co97, .slice Ao98 t191.length co98] (fun k_ => (w.heap.size ≤ k_) ∧ k_ ≠ gb103) (fun k_ => ((fun k_ => (w.heap.size ≤ k_) ∧ k_ ≠ gb103)) k_ ∧ some k_ ≠ (v119 : Value).ownBlock) rfl rfl ?aP (fun _ hk => hk) ?aF ?aO ?aB ?aS ?aL ?_; (case aP => exact (k89_mkF _ _ (⟨t183, (⟨t184, t185, t186, t187, t188, t191⟩ : S35)⟩ : S89) (Kd.N_reads' (Kd.N_mono (ok' := (fun k_ => ((fun k_ => (w.heap.size ≤ k_) ∧ k_ ≠ gb103)) k_ ∧ some k_ ≠ (v119 : Value).ownBlock)) (HO190.out) (fun k_ hk => ⟨⟨hk.1, hk.2.2.2⟩, hk.2.2.1⟩))).2.1 (Kd.N_F (Kd.N_mono (ok' := (fun k_ => ((fun k_ => (w.heap.size ≤ k_) ∧ k_ ≠ gb103)) k_ ∧ some k_ ≠ (v119 : Value).ownBlock)) (HO190.out) (fun k_ hk => ⟨⟨hk.1, hk.2.2.2⟩, hk.2.2.1⟩))) (Kd.N_reads' (Kd.N_mono (ok' := (fun k_ => ((fun k_ => (w.heap.size ≤ k_) ∧ k_ ≠ gb103)) k_ ∧ some k_ ≠ (v119 : Value).ownBlock)) (HO193.out) (fun k_ hk => ⟨⟨hk.1, hk.2.2.2⟩, hk.2.2.1⟩))).2.1 (Kd.N_F (Kd.N_mono (ok' := (fun k_ => ((fun k_ => (w.heap.size ≤ k_) ∧ k_ ≠ gb103)) k_ ∧ some k_ ≠ (v119 : Value).ownBlock)) (HO193.out) (fun k_ hk => ⟨⟨hk.1, hk.2.2.2⟩, hk.2.2.1⟩))))); (case aB => exact (by repeat (first | (with_reducible first | exact HB.out | apply below_alloc | apply pw_below_drewN | apply below_drew1 | refine below_set ?_ GE103.out) | exact HB.out))); (case aF => exact (fun k_ hk => ⟨(Nat.le_trans (below_size (by repeat (first | (with_reducible first | exact HB.out | apply below_alloc | apply pw_below_drewN | apply below_drew1 | refine below_set ?_ GE103.out) | exact HB.out))) hk), Kd.freshB (g := gb103) (o := .cells #[.int .i64 a0_0, .int .i64 a0_1, .int .i64 a0_2, .int .i64 a0_3, .int .i64 a0_4, .int .i64 a0_5] 72 (0, 0)) (by (with_reducible repeat (first | refine blk_drewN ?_ _ | refine blk_drew ?_ | refine blk_alloc ?_ _)); exact BK103.out) k_ hk⟩)); (case aO => exact (by (with_reducible repeat (first | apply Kd.N_alloc | apply Kd.N_drewN | apply Kd.N_drew)); exact Kd.N_mono HO120.out (fun _ hk => ⟨hk.1.1.1, hk.1.1.2⟩))); (case aS => exact (below_size (by repeat (first | (with_reducible first | exact HB.out | apply below_alloc | apply pw_below_drewN | apply below_drew1 | refine below_set ?_ GE103.out) | exact HB.out)))); (case aL => have := LMc82.out; omega); intro v195 w96 ho hb hg hat; rw [← Ny194.out] at ho; have n0_ := Aside0.mk (blk_grown (g := gb103) (o := .cells #[.int .i64 a0_0, .int .i64 a0_1, .int .i64 a0_2, .int .i64 a0_3, .int .i64 a0_4, .int .i64 a0_5] 72 (0, 0)) (by (with_reducible repeat (first | refine blk_drewN ?_ _ | refine blk_drew ?_ | refine blk_alloc ?_ _)); exact BK103.out) hg (Kd.N_ne HO120.out BK103.out (by decide))); have n1_ := Aside0.mk (hb); have n2_ := Aside0.mk (ho); clear BK103; clear HB; clear HO120; clear HO190; clear HO193; have BK103 := n0_; have HB := n1_; have HO196 := n2_; clear n0_ n1_ n2_; clear ho hb hg hat))
          go_ret2
          exact ⟨_, by first | rfl | (simp [errW_none, errW_some] <;> rfl) | (simp [*, errW_none, errW_some] <;> rfl), by (with_reducible repeat (first | apply Kd.N_alloc | apply Kd.N_drewN | apply Kd.N_drew)); exact Kd.N_mono HO196.out (fun _ hk => hk.1), by repeat (first | (with_reducible first | exact HB.out | apply below_alloc | apply pw_below_drewN | apply below_drew1 | refine below_set ?_ GE103.out) | exact HB.out)⟩
        · rw [if_neg c82] at H
          exact absurd H (by simp)
  · rw [if_neg c3] at H
    have c3b0 : (t104 == 0) = false := beq_eq_false_iff_ne.mpr c3
    have c3b1 : (t104 != 0) = true := bne_iff_ne.mpr c3
    simp only [Option.some.injEq, Prod.mk.injEq] at H
    obtain ⟨rfl, rfl⟩ := H
    go_enter Try.func39, Try.ntmps39
    go_wp2_with (first | ((with_reducible refine gate_dst (N := 1) rfl ?_); refine box_event ?hg (N := 1) ?hd (cs := #[.int .i64 a0_0, .int .i64 a0_1, .int .i64 a0_2, .int .i64 a0_3, .int .i64 a0_4, .int .i64 a0_5]) (t := 72) ?hr ?_; (case hd => rfl); (case hg => rfl); (case hr => first | (go_simp; done) | (go_simp; rfl)); intro gb103 hg w99 hbox hb; have n0_ := Aside0.mk (below_step (by repeat (first | (with_reducible first | exact HB.out | apply below_alloc | apply pw_below_drewN | apply below_drew1) | exact HB.out)) hb); have n1_ := Aside0.mk (hbox); have n2_ := Aside0.mk ((by rw [hg]; exact (below_size (by repeat (first | (with_reducible first | exact HB.out | apply below_alloc | apply pw_below_drewN | apply below_drew1) | exact HB.out))) : w.heap.size ≤ gb103)); have n3_ := Aside0.mk ((by rw [hg]; exact (below_size (by repeat (first | (with_reducible first | exact HB.out | apply below_alloc | apply pw_below_drewN | apply below_drew1) | exact HB.out))) : w.heap.size ≤ gb103)); clear HB; have HB := n0_; have BK103 := n1_; have GW103 := n2_; have GE103 := n3_; clear n0_ n1_ n2_ n3_; clear hb hbox hg; have hcz100_0 : w99.cell? ⟨gb103, 0, none⟩ = some (.int .i64 a0_0) := (blk_cell BK103.out 0).trans rfl; have hcz100_1 : w99.cell? ⟨gb103, 1, none⟩ = some (.int .i64 a0_1) := (blk_cell BK103.out 1).trans rfl; have hcz100_2 : w99.cell? ⟨gb103, 2, none⟩ = some (.int .i64 a0_2) := (blk_cell BK103.out 2).trans rfl; have hcz100_3 : w99.cell? ⟨gb103, 3, none⟩ = some (.int .i64 a0_3) := (blk_cell BK103.out 3).trans rfl; have hcz100_4 : w99.cell? ⟨gb103, 4, none⟩ = some (.int .i64 a0_4) := (blk_cell BK103.out 4).trans rfl; have hcz100_5 : w99.cell? ⟨gb103, 5, none⟩ = some (.int .i64 a0_5) := (blk_cell BK103.out 5).trans rfl; have hfz100_0 := blk_frozen BK103.out 0; have hfz100_1 := blk_frozen BK103.out 1; have hfz100_2 := blk_frozen BK103.out 2; have hfz100_3 := blk_frozen BK103.out 3; have hfz100_4 := blk_frozen BK103.out 4; have hfz100_5 := blk_frozen BK103.out 5) | ((with_reducible refine gate_callee (f := 42) rfl ?_); refine goesL_ (some 9) rfl rfl Try.func42 (by kernel_rfl) rfl #[.agg #[.int .i64 a0_0, .int .i64 a0_1, .int .i64 a0_2, .int .i64 a0_3, .int .i64 a0_4, .int .i64 a0_5]] rfl (by (try simp only [List.map_toArray, List.map_cons, List.map_nil]); first | done | rfl | (simp only [List.length_drop, List.length_take]; rfl)) ?_; (with_reducible refine (trailer_Check.calls k a0_0 a0_1 a0_2 a0_3 a0_4 a0_5 t104 _ A2.out).mono ?_); rintro e w101 ⟨rfl, hb⟩; refine ⟨_, rfl, ?_⟩; have n0_ := Aside0.mk (blk_below (g := gb103) (o := .cells #[.int .i64 a0_0, .int .i64 a0_1, .int .i64 a0_2, .int .i64 a0_3, .int .i64 a0_4, .int .i64 a0_5] 72 (0, 0)) (by (with_reducible repeat (first | refine blk_drewN ?_ _ | refine blk_drew ?_ | refine blk_alloc ?_ _)); exact BK103.out) hb); have n1_ := Aside0.mk (below_step (by repeat (first | (with_reducible first | exact HB.out | apply below_alloc | apply pw_below_drewN | apply below_drew1 | refine below_set ?_ GE103.out) | exact HB.out)) hb); clear BK103; clear HB; have BK103 := n0_; have HB := n1_; clear n0_ n1_; (try clear hb); (try clear hb2); (try clear hk); (try clear hi)))
    go_ret2
    exact ⟨_, by first | rfl | (simp [errW_none, errW_some] <;> rfl) | (simp [*, errW_none, errW_some] <;> rfl), by first | exact Kd.R_nil _ _ _ _ _ | exact Kd.N_nil _ _ _ _ _ | exact Kd.V_nil _ _ _ _ _ | exact Kd.Q_nil _ _ _ _ _ | exact Kd.S_nil _ _ _ _ _, by repeat (first | (with_reducible first | exact HB.out | apply below_alloc | apply pw_below_drewN | apply below_drew1 | refine below_set ?_ GE103.out) | exact HB.out)⟩
noncomputable def binderyref16_Equal.f (a0_0 : Int) (a0_1 : Int) (a0_2 : Int) (a0_3 : ByteArray) (l0_4 : List (S35)) (l0_5 : List (S89)) (a1_0 : Int) (a1_1 : Int) (a1_2 : Int) (a1_3 : ByteArray) (l1_4 : List (S35)) (l1_5 : List (S89)) : Option (Bool) := some (Go.Proofs.Ytogpnkkoablmiaa.V.eqB (⟨a0_0, a0_1, a0_2, a0_3, l0_4, l0_5⟩ : S35) (⟨a1_0, a1_1, a1_2, a1_3, l1_4, l1_5⟩ : S35))
theorem binderyref16_Equal.calls (a0_0 : Int) (a0_1 : Int) (a0_2 : Int) (a0_3 : ByteArray) (A0_4 : Option Addr) (c0_4 : Nat) (l0_4 : List (S35)) (A0_5 : Option Addr) (c0_5 : Nat) (l0_5 : List (S89)) (a1_0 : Int) (a1_1 : Int) (a1_2 : Int) (a1_3 : ByteArray) (A1_4 : Option Addr) (c1_4 : Nat) (l1_4 : List (S35)) (A1_5 : Option Addr) (c1_5 : Nat) (l1_5 : List (S89)) (r : Bool) (w : World) (hr0_4 : Kd.C k35 w A0_4 l0_4.length l0_4) (hc0_4 : l0_4.length ≤ c0_4) (hr0_5 : Kd.C k89 w A0_5 l0_5.length l0_5) (hc0_5 : l0_5.length ≤ c0_5) (hr1_4 : Kd.C k35 w A1_4 l1_4.length l1_4) (hc1_4 : l1_4.length ≤ c1_4) (hr1_5 : Kd.C k89 w A1_5 l1_5.length l1_5) (hc1_5 : l1_5.length ≤ c1_5) (h : binderyref16_Equal.f a0_0 a0_1 a0_2 a0_3 l0_4 l0_5 a1_0 a1_1 a1_2 a1_3 l1_4 l1_5 = some r) :
    Calls Try.prog 58 #[.agg #[.int .i64 a0_0, .int .i64 a0_1, .int .i64 a0_2, .string a0_3, .slice A0_4 l0_4.length c0_4, .slice A0_5 l0_5.length c0_5], .agg #[.int .i64 a1_0, .int .i64 a1_1, .int .i64 a1_2, .string a1_3, .slice A1_4 l1_4.length c1_4, .slice A1_5 l1_5.length c1_5]] w fun e w' => e = .returned (.bool r) ∧ Below w.heap.size w w' := by
  unfold binderyref16_Equal.f at h
  simp only [Option.some.injEq, Prod.mk.injEq] at h
  obtain rfl := h
  exact Go.Proofs.Ytogpnkkoablmiaa.V.equal_all (⟨a0_0, a0_1, a0_2, a0_3, l0_4, l0_5⟩ : S35) (⟨a1_0, a1_1, a1_2, a1_3, l1_4, l1_5⟩ : S35) A0_4 c0_4 A0_5 c0_5 A1_4 c1_4 A1_5 c1_5 w hc0_4 hr0_4 hc0_5 hr0_5 hc1_4 hr1_4 hc1_5 hr1_5
noncomputable def binderylaw23_Pairs.f (l0 : List (S89)) (l1 : List (S89)) : Option (Bool) := (binderyref16_Equal.f 6 0 0 (⟨#[]⟩ : ByteArray) ([] : List (S35)) l0 6 0 0 (⟨#[]⟩ : ByteArray) ([] : List (S35)) l1).bind fun t225 => (some t225)
set_option maxHeartbeats 8000000 in
set_option maxRecDepth 100000 in
theorem binderylaw23_Pairs.calls (A0 : Option Addr) (c0 : Nat) (l0 : List (S89)) (A1 : Option Addr) (c1 : Nat) (l1 : List (S89)) (r : Bool) (w : World) (hr0 : Kd.C k89 w A0 l0.length l0) (hc0 : l0.length ≤ c0) (hr1 : Kd.C k89 w A1 l1.length l1) (hc1 : l1.length ≤ c1) (h : binderylaw23_Pairs.f l0 l1 = some r) :
    Calls Try.prog 41 #[.slice A0 l0.length c0, .slice A1 l1.length c1] w fun e w' => e = .returned (.bool r) ∧ Below w.heap.size w w' := by
  have hu35 := Try.underlying35
  have HR0 := Aside0.mk hr0
  have HC0 := Aside0.mk hc0
  clear hr0 hc0
  have HR1 := Aside0.mk hr1
  have HC1 := Aside0.mk hc1
  clear hr1 hc1
  have HB := Aside0.mk (Below.refl w.heap.size w)
  have H : ((binderyref16_Equal.f 6 0 0 (⟨#[]⟩ : ByteArray) ([] : List (S35)) l0 6 0 0 (⟨#[]⟩ : ByteArray) ([] : List (S35)) l1).bind fun t225 => (some t225)) = some r := h
  clear h
  replace H := Option.bind_eq_some_iff.mp H
  obtain ⟨t225, A30, H⟩ := H
  replace H : (some t225) = some r := H
  have A3 := Aside0.mk A30
  clear A30
  obtain rfl := Option.some.inj H
  go_enter Try.func41, Try.ntmps41
  go_wp2_with (first | ((with_reducible refine gate_callee (f := 58) rfl ?_); refine goesL_ (some 9) rfl rfl Try.func58 (by kernel_rfl) rfl #[.agg #[.int .i64 6, .int .i64 0, .int .i64 0, .string (⟨#[]⟩ : ByteArray), .slice none 0 0, .slice A0 l0.length c0], .agg #[.int .i64 6, .int .i64 0, .int .i64 0, .string (⟨#[]⟩ : ByteArray), .slice none 0 0, .slice A1 l1.length c1]] rfl (by (try simp only [List.map_toArray, List.map_cons, List.map_nil]); first | done | rfl | (simp only [List.length_drop, List.length_take]; rfl)) ?_; (refine (binderyref16_Equal.calls 6 0 0 (⟨#[]⟩ : ByteArray) _ _ ([] : List (S35)) _ _ l0 6 0 0 (⟨#[]⟩ : ByteArray) _ _ ([] : List (S35)) _ _ l1 t225 _ ?side1 ?side2 ?side3 ?side4 ?side5 ?side6 ?side7 ?side8 A3.out).mono ?_); (case side1 => exact Kd.C_nil _ _); (case side2 => exact Nat.le_refl _); (case side3 => repeat (first | exact HR0.out | (with_reducible refine Kd.C_alloc ?_ _) | (with_reducible refine Kd.C_drewN ?_ _) | (with_reducible refine Kd.C_drew ?_))); (case side4 => exact HC0.out); (case side5 => exact Kd.C_nil _ _); (case side6 => exact Nat.le_refl _); (case side7 => repeat (first | exact HR1.out | (with_reducible refine Kd.C_alloc ?_ _) | (with_reducible refine Kd.C_drewN ?_ _) | (with_reducible refine Kd.C_drew ?_))); (case side8 => exact HC1.out); rintro e w4 ⟨rfl, hb⟩; refine ⟨_, rfl, ?_⟩; have n0_ := Aside0.mk (below_step (by repeat (first | (with_reducible first | exact HB.out | apply below_alloc | apply pw_below_drewN | apply below_drew1) | exact HB.out)) hb); clear HB; have HB := n0_; clear n0_; (try clear hb); (try clear hb2); (try clear hk); (try clear hi)))
  go_ret
  exact ⟨by first | rfl | (simp [errW_none, errW_some] <;> rfl) | (simp [*, errW_none, errW_some] <;> rfl), by repeat (first | (with_reducible first | exact HB.out | apply below_alloc | apply pw_below_drewN | apply below_drew1) | exact HB.out)⟩
open Classical in
noncomputable def trailer_Of.f (l0 : List (S89)) : Option (Int × Int × Int × Int × Int × Int × Int) := if Go.Proofs.Ytogpnkkoablmiaa.V.fewV ⟨6, 0, 0, ⟨#[]⟩, [], l0⟩ then some ((Go.Proofs.Ytogpnkkoablmiaa.V.ofS l0).1, (Go.Proofs.Ytogpnkkoablmiaa.V.ofS l0).2.1, (Go.Proofs.Ytogpnkkoablmiaa.V.ofS l0).2.2.1, (Go.Proofs.Ytogpnkkoablmiaa.V.ofS l0).2.2.2.1, (Go.Proofs.Ytogpnkkoablmiaa.V.ofS l0).2.2.2.2.1, (Go.Proofs.Ytogpnkkoablmiaa.V.ofS l0).2.2.2.2.2.1, (Go.Proofs.Ytogpnkkoablmiaa.V.ofS l0).2.2.2.2.2.2) else none
theorem trailer_Of.calls (A0 : Option Addr) (c0 : Nat) (l0 : List (S89)) (r1 : Int) (r2 : Int) (r3 : Int) (r4 : Int) (r5 : Int) (r6 : Int) (r7 : Int) (w : World) (hr0 : Kd.C k89 w A0 l0.length l0) (hc0 : l0.length ≤ c0) (h : trailer_Of.f l0 = some (r1, r2, r3, r4, r5, r6, r7)) :
    Calls Try.prog 46 #[.slice A0 l0.length c0] w fun e w' => e = .returned (.tuple #[.agg #[.int .i64 r1, .int .i64 r2, .int .i64 r3, .int .i64 r4, .int .i64 r5, .int .i64 r6], .int .i64 r7]) ∧ Below w.heap.size w w' := by
  unfold trailer_Of.f at h
  by_cases hc : Go.Proofs.Ytogpnkkoablmiaa.V.fewV ⟨6, 0, 0, ⟨#[]⟩, [], l0⟩
  · rw [if_pos hc] at h
    simp only [Option.some.injEq, Prod.mk.injEq] at h
    obtain ⟨rfl, rfl, rfl, rfl, rfl, rfl, rfl⟩ := h
    exact Go.Proofs.Ytogpnkkoablmiaa.V.of_calls l0 A0 c0 w hc hc0 hr0
  · rw [if_neg hc] at h
    cases h
open Classical in
noncomputable def trailer_Bare.f (l0 : List (S89)) : Option (List (S89)) := if Go.Proofs.Ytogpnkkoablmiaa.V.fewV ⟨6, 0, 0, ⟨#[]⟩, [], l0⟩ then some (Go.Proofs.Ytogpnkkoablmiaa.V.bareD l0) else none
theorem trailer_Bare.calls (A0 : Option Addr) (c0 : Nat) (l0 : List (S89)) (r : List (S89)) (w : World) (hr0 : Kd.C k89 w A0 l0.length l0) (hc0 : l0.length ≤ c0) (h : trailer_Bare.f l0 = some r) :
    Calls Try.prog 48 #[.slice A0 l0.length c0] w fun e w' => ∃ v0_ : Value, e = .returned (v0_) ∧ Kd.V k89 89 w' w.heap.size (fun k_ => (w.heap.size ≤ k_)) v0_ r ∧ Below w.heap.size w w' := by
  unfold trailer_Bare.f at h
  by_cases hc : Go.Proofs.Ytogpnkkoablmiaa.V.fewV ⟨6, 0, 0, ⟨#[]⟩, [], l0⟩
  · rw [if_pos hc] at h
    simp only [Option.some.injEq, Prod.mk.injEq] at h
    obtain rfl := h
    exact (Go.Proofs.Ytogpnkkoablmiaa.V.bare_callsF l0 A0 c0 w hc (by simp [Go.Proofs.Ytogpnkkoablmiaa.Q.z35, Go.Proofs.Ytogpnkkoablmiaa.V.fewV, Go.Proofs.Ytogpnkkoablmiaa.V.fewL, Go.Proofs.Ytogpnkkoablmiaa.V.fewD]) hc0 hr0).mono fun e w' ⟨a, n, he, h1, h2, hb⟩ => ⟨_, he, Kd.V_mk h1 h2, hb⟩
  · rw [if_neg hc] at h
    cases h
end Go.Proofs.Ytogpnkkoablmiaa.R
end
