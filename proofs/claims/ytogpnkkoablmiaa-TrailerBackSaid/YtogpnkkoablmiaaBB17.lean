/- Parts of the proof: what the theorem reaches, put together by a program of this session. -/
import Derived.ArgAppend
import Derived.Below
import Derived.BigGuardPart
import Derived.BigQuiet
import Derived.BigRegion
import Derived.Deep.AppendLies
import Derived.Deep.CutBlock
import Derived.Deep.DeepCutAuto
import Derived.Deep.Draws
import Derived.Deep.LoopGhost
import Derived.Deep.OwnRows
import Derived.Deep.QuietTactic
import Derived.Deep.RegionHeld3
import Derived.Deep.RegionLaw
import Derived.KernelRfl
import Derived.Laws.BitsLemmas
import Derived.Laws.BytesArg
import Derived.Laws.EntriesVeiled
import Derived.Laws.IdiomCopy
import Derived.Laws.MakeOwn
import Derived.Laws.OwnMore
import Derived.Laws.Rows
import Derived.Laws.Slices
import Derived.Laws.StructEq
import Derived.Lib.AppendIntMem
import Derived.Lib.AppendStr
import Derived.Lib.Bytealg
import Derived.Lib.ConvBytes
import Derived.Lib.Hide
import Derived.Lib.OwnBridge
import Derived.Lib.SliceRun
import Derived.Maps.AppendAt
import Derived.Maps.OwnOps
import Derived.Maps.Views
import Derived.OrdersHeld
import Derived.Outline
import Derived.OwnWalk
import Derived.RowKit
import Derived.RowKit3
import Derived.Shelf.SlSortCmp.KitK
import Derived.Shelf.Spec.SlicesInsertGrow
import Derived.Sort.LotA
import Derived.Sort.WalkB12
import Derived.Sort.WalkB2
import Derived.Tactics
import Derived.Test.YtogpnkkoablmiaaProg
import Derived.WalkKit
import Derived.WalkLawsBesides
import Derived.WideLaws
import Derived.Test.YtogpnkkoablmiaaBB1
import Derived.Test.YtogpnkkoablmiaaBB2
import Derived.Test.YtogpnkkoablmiaaBB3
import Derived.Test.YtogpnkkoablmiaaBB4
import Derived.Test.YtogpnkkoablmiaaBB5
import Derived.Test.YtogpnkkoablmiaaBB6
import Derived.Test.YtogpnkkoablmiaaBB7
import Derived.Test.YtogpnkkoablmiaaBB9
import Derived.Test.YtogpnkkoablmiaaBB10
import Derived.Test.YtogpnkkoablmiaaBB11
import Derived.Test.YtogpnkkoablmiaaBB12
import Derived.Test.YtogpnkkoablmiaaBB13
import Derived.Test.YtogpnkkoablmiaaBB14
import Derived.Test.YtogpnkkoablmiaaBB15
import Derived.Test.YtogpnkkoablmiaaBB16
namespace Go.Proofs.Ytogpnkkoablmiaa.V
open Go.Shelf Go.RowKit Go.Lib Go.Sort Go.Proofs.Ytogpnkkoablmiaa.Q Go.Proofs.YtogpnkkoablmiaaW.PrintWords Go.Proofs.YtogpnkkoablmiaaW.PrintLast Go.Proofs.YtogpnkkoablmiaaW.PrintMore
set_option linter.unusedVariables false
set_option linter.unusedSimpArgs false
def chkT (t0 t1 t2 t3 t4 t5 : Int) : Int :=
  if ((t2 = 0 ∧ t3 = 0) ∨ ((1 ≤ t2 ∧ t2 ≤ 8388607) ∧ 0 ≤ t3 ∧ t3 ≤ 65535)) ∧ (1 ≤ t0 ∧ t0 ≤ 8388608) ∧ (-1 ≤ t1 ∧ t1 ≤ 67108864) ∧ (0 ≤ t4 ∧ t4 ≤ 67108864) ∧ 0 ≤ t5 ∧ t5 ≤ 4294967295 then 0 else 3
theorem chk_j (b : Bool) (t0 t1 t2 t3 t4 t5 : Int) : trailer_Check.j0 1 b t0 t1 t2 t3 t4 t5 = some (if b = true ∧ (1 ≤ t0 ∧ t0 ≤ 8388608) ∧ (-1 ≤ t1 ∧ t1 ≤ 67108864) ∧ (0 ≤ t4 ∧ t4 ≤ 67108864) ∧ 0 ≤ t5 ∧ t5 ≤ 4294967295 then 0 else 3) := by
  unfold trailer_Check.j0 trailer_in.f
  cases b with
  | false => simp
  | true =>
    by_cases h0 : 1 ≤ t0 ∧ t0 ≤ 8388608
    · by_cases h1 : -1 ≤ t1 ∧ t1 ≤ 67108864
      · by_cases h2 : 0 ≤ t4 ∧ t4 ≤ 67108864
        · by_cases h3 : 0 ≤ t5 ∧ t5 ≤ 4294967295
          · simp [h0, h1, h2, h3]
          · rw [if_neg (fun h => h3 h.2.2.2.2)]
            simp [h0, h1, h2]
            by_cases h4 : 0 ≤ t5 <;> simp [h4]
            omega
        · rw [if_neg (fun h => h2 h.2.2.2.1)]
          simp [h0, h1]
          by_cases h4 : 0 ≤ t4 <;> simp [h4]
          have : ¬ t4 ≤ 67108864 := by omega
          simp [this]
      · rw [if_neg (fun h => h1 h.2.2.1)]
        simp [h0]
        by_cases h4 : -1 ≤ t1 <;> simp [h4]
        have : ¬ t1 ≤ 67108864 := by omega
        simp [this]
    · rw [if_neg (fun h => h0 h.2.1)]
      by_cases h4 : 1 ≤ t0 <;> simp [h4]
      have : ¬ t0 ≤ 8388608 := by omega
      simp [this]
theorem chk_f (t0 t1 t2 t3 t4 t5 : Int) : trailer_Check.f 1 t0 t1 t2 t3 t4 t5 = some (chkT t0 t1 t2 t3 t4 t5) := by
  unfold trailer_Check.f chkT trailer_in.f
  by_cases hz : t2 = 0 ∧ t3 = 0
  · obtain ⟨rfl, rfl⟩ := hz
    simp [chk_j]
  · have hz' : ¬ ((t2 == 0 && (t3 == 0)) = true) := by simpa using hz
    rw [if_neg hz']
    by_cases h1 : 1 ≤ t2 ∧ t2 ≤ 8388607
    · by_cases h2 : 0 ≤ t3
      · simp [h1, h2, chk_j]
        congr 1
        by_cases h3 : t3 ≤ 65535 <;> simp [h3, hz]
        all_goals (intro h4 h5; exact absurd ⟨h4, h5⟩ hz)
      · simp [h1, h2, chk_j]
        intro h4 h5
        exact absurd ⟨h4, h5⟩ hz
    · have hn : ¬ ((t2 = 0 ∧ t3 = 0) ∨ ((1 ≤ t2 ∧ t2 ≤ 8388607) ∧ 0 ≤ t3 ∧ t3 ≤ 65535)) := by rintro (h | h); exact hz h; exact h1 h.1
      by_cases h4 : 1 ≤ t2
      · have : ¬ t2 ≤ 8388607 := by omega
        simp [h4, this, chk_j, hz]
        all_goals (intro h5 h6; exact absurd ⟨h5, h6⟩ hz)
      · simp [h4, chk_j]
        intro h5 h6; exact absurd ⟨h5, h6⟩ hz
def erT (e : Int) : Int × Int × Int × Int × Int × Int × Int := (0, 0, 0, 0, 0, 0, e)
def ofB (x1 x2 x3 x4 x5 : S35) (b1 b2 b3 b4 b5 : Bool) : Int × Int × Int × Int × Int × Int × Int :=
  if b1 = false then erT 11 else if ¬ (x1.f0 = 4 ∧ x1.f3.size = 4) then erT 10 else
  if b2 = false then erT 11 else if x2.f0 ≠ 2 then erT 10 else
  if b3 = true ∧ x3.f0 ≠ 2 then erT 10 else if b4 = true ∧ x4.f0 ≠ 7 then erT 10 else
  if b5 = false then erT 11 else if x5.f0 ≠ 2 then erT 10 else
  if chkT x5.f1 (if b3 = true then x3.f1 else -1) x4.f1 x4.f2 x2.f1 (fl 0 (bytesOf x1.f3)) ≠ 0 then erT (chkT x5.f1 (if b3 = true then x3.f1 else -1) x4.f1 x4.f2 x2.f1 (fl 0 (bytesOf x1.f3))) else
  if b3 = true ∧ x3.f1 < 0 then erT 3 else (x5.f1, (if b3 = true then x3.f1 else -1), x4.f1, x4.f2, x2.f1, fl 0 (bytesOf x1.f3), 0)
def gk (d : List S89) (k : ByteArray) : S35 := getV ⟨6, 0, 0, ⟨#[]⟩, [], d⟩ k
def hk (d : List S89) (k : ByteArray) : Bool := hasK (plain ⟨6, 0, 0, ⟨#[]⟩, [], d⟩).f5 k
def ofS (d : List S89) : Int × Int × Int × Int × Int × Int × Int :=
  ofB (gk d ⟨#[67, 114, 99]⟩) (gk d ⟨#[76, 101, 110]⟩) (gk d ⟨#[80, 114, 101, 118]⟩) (gk d ⟨#[82, 111, 111, 116]⟩) (gk d ⟨#[83, 105, 122, 101]⟩)
    (hk d ⟨#[67, 114, 99]⟩) (hk d ⟨#[76, 101, 110]⟩) (hk d ⟨#[80, 114, 101, 118]⟩) (hk d ⟨#[82, 111, 111, 116]⟩) (hk d ⟨#[83, 105, 122, 101]⟩)
theorem box3 {w : World} {b T : Nat} {c0 c1 c2 : Value} (h : w.heap[b]? = some (.cells #[c0, c1, c2] T (0, 0))) : w.cell? ⟨b, 0, none⟩ = some c0 ∧ w.cell? ⟨b, 1, none⟩ = some c1 ∧ w.cell? ⟨b, 2, none⟩ = some c2 := by
  refine ⟨?_, ?_, ?_⟩ <;> (rw [cell_of_row w b _ _ _ _ h]; rfl)
theorem ext_all {s : ByteArray} (h : s.size = 4) : s.extract 0 (min s.size 4) = s := by
  rw [h]
  have := ByteArray.extract_zero_size (b := s)
  rw [h] at this
  exact this
theorem gk_none {d : List S89} {k : ByteArray} (h : hk d k = false) : gk d k = z35 := by
  unfold gk getV
  rw [find_none h]
theorem box15 {w : World} {b T : Nat} {c0 c1 c2 c3 c4 c5 c6 c7 c8 c9 c10 c11 c12 c13 c14 : Value} (h : w.heap[b]? = some (.cells #[c0, c1, c2, c3, c4, c5, c6, c7, c8, c9, c10, c11, c12, c13, c14] T (0, 0))) :
    (w.cell? ⟨b, 0, none⟩ = some c0 ∧ w.cell? ⟨b, 1, none⟩ = some c1 ∧ w.cell? ⟨b, 2, none⟩ = some c2) ∧ (w.cell? ⟨b, 3, none⟩ = some c3 ∧ w.cell? ⟨b, 4, none⟩ = some c4 ∧ w.cell? ⟨b, 5, none⟩ = some c5) ∧ (w.cell? ⟨b, 6, none⟩ = some c6 ∧ w.cell? ⟨b, 7, none⟩ = some c7 ∧ w.cell? ⟨b, 8, none⟩ = some c8) ∧ (w.cell? ⟨b, 9, none⟩ = some c9 ∧ w.cell? ⟨b, 10, none⟩ = some c10 ∧ w.cell? ⟨b, 11, none⟩ = some c11) ∧ (w.cell? ⟨b, 12, none⟩ = some c12 ∧ w.cell? ⟨b, 13, none⟩ = some c13 ∧ w.cell? ⟨b, 14, none⟩ = some c14) := by
  refine ⟨⟨?_, ?_, ?_⟩, ⟨?_, ?_, ?_⟩, ⟨?_, ?_, ?_⟩, ⟨?_, ?_, ?_⟩, ⟨?_, ?_, ?_⟩⟩ <;> (rw [cell_of_row w b _ _ _ _ h]; rfl)
set_option maxHeartbeats 16000000 in
set_option maxRecDepth 100000 in
theorem of_calls (d : List S89) (A : Option Addr) (c : Nat) (w : World) (fd : fewV ⟨6, 0, 0, ⟨#[]⟩, [], d⟩) (hl : d.length ≤ c) (hC : k89.C w A d.length d) :
    Calls Try.prog 46 #[.slice A d.length c] w fun e w' => e = .returned (.tuple #[.agg #[.int .i64 (ofS d).1, .int .i64 (ofS d).2.1, .int .i64 (ofS d).2.2.1, .int .i64 (ofS d).2.2.2.1, .int .i64 (ofS d).2.2.2.2.1, .int .i64 (ofS d).2.2.2.2.2.1], .int .i64 (ofS d).2.2.2.2.2.2]) ∧ RowKit.Below w.heap.size w w' := by
  have hu35 := Try.underlying35
  have hu33 := Try.underlying33
  have hu152 := Try.underlying152
  have hu150 := Try.underlying150
  have hu72 := Try.underlying72
  have hu28 := Try.underlying28
  have hu153 := Try.underlying153
  obtain ⟨res, hres⟩ : ∃ res, res = ofS d := ⟨_, rfl⟩
  rw [← hres]
  unfold ofS at hres
  have h0 : ∀ (w : World), k35.C w none ([] : List S35).length [] := fun w => ⟨rfl, by simp, fun h => absurd h (by simp)⟩
  have GA := fun (key : ByteArray) (w1 : World) (hb : RowKit.Below w.heap.size w w1) => get_calls ⟨6, 0, 0, ⟨#[]⟩, [], d⟩ key none 0 A c w1 fd (Nat.le_refl _) (h0 w1) hl (Kd.C_below hC hb)
  have HC : ∀ (t0 t1 t2 t3 t4 t5 : Int) (w : World), Calls Try.prog 42 #[.agg #[.int .i64 t0, .int .i64 t1, .int .i64 t2, .int .i64 t3, .int .i64 t4, .int .i64 t5]] w fun e w' => e = .returned (.int .i64 (chkT t0 t1 t2 t3 t4 t5)) ∧ RowKit.Below w.heap.size w w' := fun t0 t1 t2 t3 t4 t5 w => trailer_Check.calls 1 t0 t1 t2 t3 t4 t5 _ w (chk_f t0 t1 t2 t3 t4 t5)
  have HC := Aside0.mk HC
  have G1 := GA ⟨#[67, 114, 99]⟩
  change ∀ (w1 : World), RowKit.Below w.heap.size w w1 → Calls Try.prog 63 #[.agg #[.int .i64 6, .int .i64 0, .int .i64 0, .string ⟨#[]⟩, .slice none 0 0, .slice A d.length c], .string ⟨#[67, 114, 99]⟩] w1 fun e w' => ∃ v4 v5, e = .returned (.tuple #[.agg #[.int .i64 (gk d ⟨#[67, 114, 99]⟩).f0, .int .i64 (gk d ⟨#[67, 114, 99]⟩).f1, .int .i64 (gk d ⟨#[67, 114, 99]⟩).f2, .string (gk d ⟨#[67, 114, 99]⟩).f3, v4, v5], .bool (hk d ⟨#[67, 114, 99]⟩)]) ∧ k35.R 35 w' w1.heap.size (fun _ => True) v4 (gk d ⟨#[67, 114, 99]⟩).f4 ∧ k89.R 89 w' w1.heap.size (fun _ => True) v5 (gk d ⟨#[67, 114, 99]⟩).f5 ∧ RowKit.Below w1.heap.size w1 w' at G1
  generalize gk d ⟨#[67, 114, 99]⟩ = x1 at G1 hres
  generalize hk d ⟨#[67, 114, 99]⟩ = b1 at G1 hres
  have G1 := Aside0.mk G1
  have G2 := GA ⟨#[76, 101, 110]⟩
  change ∀ (w1 : World), RowKit.Below w.heap.size w w1 → Calls Try.prog 63 #[.agg #[.int .i64 6, .int .i64 0, .int .i64 0, .string ⟨#[]⟩, .slice none 0 0, .slice A d.length c], .string ⟨#[76, 101, 110]⟩] w1 fun e w' => ∃ v4 v5, e = .returned (.tuple #[.agg #[.int .i64 (gk d ⟨#[76, 101, 110]⟩).f0, .int .i64 (gk d ⟨#[76, 101, 110]⟩).f1, .int .i64 (gk d ⟨#[76, 101, 110]⟩).f2, .string (gk d ⟨#[76, 101, 110]⟩).f3, v4, v5], .bool (hk d ⟨#[76, 101, 110]⟩)]) ∧ k35.R 35 w' w1.heap.size (fun _ => True) v4 (gk d ⟨#[76, 101, 110]⟩).f4 ∧ k89.R 89 w' w1.heap.size (fun _ => True) v5 (gk d ⟨#[76, 101, 110]⟩).f5 ∧ RowKit.Below w1.heap.size w1 w' at G2
  generalize gk d ⟨#[76, 101, 110]⟩ = x2 at G2 hres
  generalize hk d ⟨#[76, 101, 110]⟩ = b2 at G2 hres
  have G2 := Aside0.mk G2
  have G3 := GA ⟨#[80, 114, 101, 118]⟩
  change ∀ (w1 : World), RowKit.Below w.heap.size w w1 → Calls Try.prog 63 #[.agg #[.int .i64 6, .int .i64 0, .int .i64 0, .string ⟨#[]⟩, .slice none 0 0, .slice A d.length c], .string ⟨#[80, 114, 101, 118]⟩] w1 fun e w' => ∃ v4 v5, e = .returned (.tuple #[.agg #[.int .i64 (gk d ⟨#[80, 114, 101, 118]⟩).f0, .int .i64 (gk d ⟨#[80, 114, 101, 118]⟩).f1, .int .i64 (gk d ⟨#[80, 114, 101, 118]⟩).f2, .string (gk d ⟨#[80, 114, 101, 118]⟩).f3, v4, v5], .bool (hk d ⟨#[80, 114, 101, 118]⟩)]) ∧ k35.R 35 w' w1.heap.size (fun _ => True) v4 (gk d ⟨#[80, 114, 101, 118]⟩).f4 ∧ k89.R 89 w' w1.heap.size (fun _ => True) v5 (gk d ⟨#[80, 114, 101, 118]⟩).f5 ∧ RowKit.Below w1.heap.size w1 w' at G3
  generalize gk d ⟨#[80, 114, 101, 118]⟩ = x3 at G3 hres
  generalize hk d ⟨#[80, 114, 101, 118]⟩ = b3 at G3 hres
  have G3 := Aside0.mk G3
  have G4 := GA ⟨#[82, 111, 111, 116]⟩
  change ∀ (w1 : World), RowKit.Below w.heap.size w w1 → Calls Try.prog 63 #[.agg #[.int .i64 6, .int .i64 0, .int .i64 0, .string ⟨#[]⟩, .slice none 0 0, .slice A d.length c], .string ⟨#[82, 111, 111, 116]⟩] w1 fun e w' => ∃ v4 v5, e = .returned (.tuple #[.agg #[.int .i64 (gk d ⟨#[82, 111, 111, 116]⟩).f0, .int .i64 (gk d ⟨#[82, 111, 111, 116]⟩).f1, .int .i64 (gk d ⟨#[82, 111, 111, 116]⟩).f2, .string (gk d ⟨#[82, 111, 111, 116]⟩).f3, v4, v5], .bool (hk d ⟨#[82, 111, 111, 116]⟩)]) ∧ k35.R 35 w' w1.heap.size (fun _ => True) v4 (gk d ⟨#[82, 111, 111, 116]⟩).f4 ∧ k89.R 89 w' w1.heap.size (fun _ => True) v5 (gk d ⟨#[82, 111, 111, 116]⟩).f5 ∧ RowKit.Below w1.heap.size w1 w' at G4
  have Z4 : hk d ⟨#[82, 111, 111, 116]⟩ = true ∨ gk d ⟨#[82, 111, 111, 116]⟩ = z35 := by
    cases h : hk d ⟨#[82, 111, 111, 116]⟩ with
    | true => exact .inl rfl
    | false => exact .inr (gk_none h)
  generalize gk d ⟨#[82, 111, 111, 116]⟩ = x4 at G4 hres Z4
  generalize hk d ⟨#[82, 111, 111, 116]⟩ = b4 at G4 hres Z4
  have G4 := Aside0.mk G4
  have G5 := GA ⟨#[83, 105, 122, 101]⟩
  change ∀ (w1 : World), RowKit.Below w.heap.size w w1 → Calls Try.prog 63 #[.agg #[.int .i64 6, .int .i64 0, .int .i64 0, .string ⟨#[]⟩, .slice none 0 0, .slice A d.length c], .string ⟨#[83, 105, 122, 101]⟩] w1 fun e w' => ∃ v4 v5, e = .returned (.tuple #[.agg #[.int .i64 (gk d ⟨#[83, 105, 122, 101]⟩).f0, .int .i64 (gk d ⟨#[83, 105, 122, 101]⟩).f1, .int .i64 (gk d ⟨#[83, 105, 122, 101]⟩).f2, .string (gk d ⟨#[83, 105, 122, 101]⟩).f3, v4, v5], .bool (hk d ⟨#[83, 105, 122, 101]⟩)]) ∧ k35.R 35 w' w1.heap.size (fun _ => True) v4 (gk d ⟨#[83, 105, 122, 101]⟩).f4 ∧ k89.R 89 w' w1.heap.size (fun _ => True) v5 (gk d ⟨#[83, 105, 122, 101]⟩).f5 ∧ RowKit.Below w1.heap.size w1 w' at G5
  generalize gk d ⟨#[83, 105, 122, 101]⟩ = x5 at G5 hres
  generalize hk d ⟨#[83, 105, 122, 101]⟩ = b5 at G5 hres
  have G5 := Aside0.mk G5
  have HR := Aside0.mk hres
  have Z4 := Aside0.mk Z4
  clear fd hl hC hres h0 GA
  go_enter Try.func46, Try.ntmps46
  go_wp2_with fail
  have BZ := Aside0.mk (blk_alloc (blk_alloc (blk_new w (.cells #[.int .i64 0, .int .i64 0, .int .i64 0, .int .i64 0, .int .i64 0, .int .i64 0] 72)) (.cells #[.int .i64 0, .int .i64 (-1), .int .i64 0, .int .i64 0, .int .i64 0, .int .i64 0, .bool false] 150)) (.cells #[.string ⟨#[67, 114, 99]⟩, .bool true, .func (Fn.func 106) #[.pointer (some ⟨w.heap.size + 1, 0, none⟩)] #[], .string ⟨#[76, 101, 110]⟩, .bool true, .func (Fn.func 107) #[.pointer (some ⟨w.heap.size + 1, 0, none⟩)] #[], .string ⟨#[80, 114, 101, 118]⟩, .bool false, .func (Fn.func 108) #[.pointer (some ⟨w.heap.size + 1, 0, none⟩)] #[], .string ⟨#[82, 111, 111, 116]⟩, .bool false, .func (Fn.func 109) #[.pointer (some ⟨w.heap.size + 1, 0, none⟩)] #[], .string ⟨#[83, 105, 122, 101]⟩, .bool true, .func (Fn.func 110) #[.pointer (some ⟨w.heap.size + 1, 0, none⟩)] #[]] 152))
  have BT := Aside0.mk (blk_alloc (blk_new (w.alloc (.cells #[.int .i64 0, .int .i64 0, .int .i64 0, .int .i64 0, .int .i64 0, .int .i64 0] 72)) (.cells #[.int .i64 0, .int .i64 (-1), .int .i64 0, .int .i64 0, .int .i64 0, .int .i64 0, .bool false] 150)) (.cells #[.string ⟨#[67, 114, 99]⟩, .bool true, .func (Fn.func 106) #[.pointer (some ⟨w.heap.size + 1, 0, none⟩)] #[], .string ⟨#[76, 101, 110]⟩, .bool true, .func (Fn.func 107) #[.pointer (some ⟨w.heap.size + 1, 0, none⟩)] #[], .string ⟨#[80, 114, 101, 118]⟩, .bool false, .func (Fn.func 108) #[.pointer (some ⟨w.heap.size + 1, 0, none⟩)] #[], .string ⟨#[82, 111, 111, 116]⟩, .bool false, .func (Fn.func 109) #[.pointer (some ⟨w.heap.size + 1, 0, none⟩)] #[], .string ⟨#[83, 105, 122, 101]⟩, .bool true, .func (Fn.func 110) #[.pointer (some ⟨w.heap.size + 1, 0, none⟩)] #[]] 152))
  have BR := Aside0.mk (blk_new ((w.alloc (.cells #[.int .i64 0, .int .i64 0, .int .i64 0, .int .i64 0, .int .i64 0, .int .i64 0] 72)).alloc (.cells #[.int .i64 0, .int .i64 (-1), .int .i64 0, .int .i64 0, .int .i64 0, .int .i64 0, .bool false] 150)) (.cells #[.string ⟨#[67, 114, 99]⟩, .bool true, .func (Fn.func 106) #[.pointer (some ⟨w.heap.size + 1, 0, none⟩)] #[], .string ⟨#[76, 101, 110]⟩, .bool true, .func (Fn.func 107) #[.pointer (some ⟨w.heap.size + 1, 0, none⟩)] #[], .string ⟨#[80, 114, 101, 118]⟩, .bool false, .func (Fn.func 108) #[.pointer (some ⟨w.heap.size + 1, 0, none⟩)] #[], .string ⟨#[82, 111, 111, 116]⟩, .bool false, .func (Fn.func 109) #[.pointer (some ⟨w.heap.size + 1, 0, none⟩)] #[], .string ⟨#[83, 105, 122, 101]⟩, .bool true, .func (Fn.func 110) #[.pointer (some ⟨w.heap.size + 1, 0, none⟩)] #[]] 152))
  have HB := Aside0.mk (below_alloc (below_alloc (below_alloc (RowKit.Below.refl w.heap.size w) (.cells #[.int .i64 0, .int .i64 0, .int .i64 0, .int .i64 0, .int .i64 0, .int .i64 0] 72)) (.cells #[.int .i64 0, .int .i64 (-1), .int .i64 0, .int .i64 0, .int .i64 0, .int .i64 0, .bool false] 150)) (.cells #[.string ⟨#[67, 114, 99]⟩, .bool true, .func (Fn.func 106) #[.pointer (some ⟨w.heap.size + 1, 0, none⟩)] #[], .string ⟨#[76, 101, 110]⟩, .bool true, .func (Fn.func 107) #[.pointer (some ⟨w.heap.size + 1, 0, none⟩)] #[], .string ⟨#[80, 114, 101, 118]⟩, .bool false, .func (Fn.func 108) #[.pointer (some ⟨w.heap.size + 1, 0, none⟩)] #[], .string ⟨#[82, 111, 111, 116]⟩, .bool false, .func (Fn.func 109) #[.pointer (some ⟨w.heap.size + 1, 0, none⟩)] #[], .string ⟨#[83, 105, 122, 101]⟩, .bool true, .func (Fn.func 110) #[.pointer (some ⟨w.heap.size + 1, 0, none⟩)] #[]] 152))
  have hs2 : w.heap.size + 1 + 1 < (((w.alloc (.cells #[.int .i64 0, .int .i64 0, .int .i64 0, .int .i64 0, .int .i64 0, .int .i64 0] 72)).alloc (.cells #[.int .i64 0, .int .i64 (-1), .int .i64 0, .int .i64 0, .int .i64 0, .int .i64 0, .bool false] 150)).alloc (.cells #[.string ⟨#[67, 114, 99]⟩, .bool true, .func (Fn.func 106) #[.pointer (some ⟨w.heap.size + 1, 0, none⟩)] #[], .string ⟨#[76, 101, 110]⟩, .bool true, .func (Fn.func 107) #[.pointer (some ⟨w.heap.size + 1, 0, none⟩)] #[], .string ⟨#[80, 114, 101, 118]⟩, .bool false, .func (Fn.func 108) #[.pointer (some ⟨w.heap.size + 1, 0, none⟩)] #[], .string ⟨#[82, 111, 111, 116]⟩, .bool false, .func (Fn.func 109) #[.pointer (some ⟨w.heap.size + 1, 0, none⟩)] #[], .string ⟨#[83, 105, 122, 101]⟩, .bool true, .func (Fn.func 110) #[.pointer (some ⟨w.heap.size + 1, 0, none⟩)] #[]] 152)).heap.size := by simp only [World.size_alloc]; omega
  simp only [World.size_alloc] at BZ BT BR
  generalize ((w.alloc (.cells #[.int .i64 0, .int .i64 0, .int .i64 0, .int .i64 0, .int .i64 0, .int .i64 0] 72)).alloc (.cells #[.int .i64 0, .int .i64 (-1), .int .i64 0, .int .i64 0, .int .i64 0, .int .i64 0, .bool false] 150)).alloc (.cells #[.string ⟨#[67, 114, 99]⟩, .bool true, .func (Fn.func 106) #[.pointer (some ⟨w.heap.size + 1, 0, none⟩)] #[], .string ⟨#[76, 101, 110]⟩, .bool true, .func (Fn.func 107) #[.pointer (some ⟨w.heap.size + 1, 0, none⟩)] #[], .string ⟨#[80, 114, 101, 118]⟩, .bool false, .func (Fn.func 108) #[.pointer (some ⟨w.heap.size + 1, 0, none⟩)] #[], .string ⟨#[82, 111, 111, 116]⟩, .bool false, .func (Fn.func 109) #[.pointer (some ⟨w.heap.size + 1, 0, none⟩)] #[], .string ⟨#[83, 105, 122, 101]⟩, .bool true, .func (Fn.func 110) #[.pointer (some ⟨w.heap.size + 1, 0, none⟩)] #[]] 152) = W0 at *
  have hs0 : w.heap.size < W0.heap.size := by omega
  have hs1 : w.heap.size + 1 < W0.heap.size := by omega
  refine wp_loop_rounds 6 ?_
  obtain ⟨⟨q0, q1, q2⟩, ⟨q3, q4, q5⟩, ⟨q6, q7, q8⟩, ⟨q9, q10, q11⟩, ⟨q12, q13, q14⟩⟩ := box15 BR.out
  rw [rounds_succ]
  go_wp2_with fail
  refine Calls.mono (G1.out _ (below_alloc HB.out (.cells #[.string ⟨#[67, 114, 99]⟩, .bool true, .func (Fn.func 106) #[.pointer (some ⟨w.heap.size + 1, 0, none⟩)] #[]] 152))) ?_
  rintro e W1 ⟨v4, v5, rfl, r4, r5, hb⟩
  obtain ⟨a4, n4, hv4⟩ := Kd.R_slice r4
  obtain ⟨a5, n5, hv5⟩ := Kd.R_slice r5
  subst hv4
  subst hv5
  have BQ2 := Aside0.mk (blk_below (blk_new W0 (.cells #[.string ⟨#[67, 114, 99]⟩, .bool true, .func (Fn.func 106) #[.pointer (some ⟨w.heap.size + 1, 0, none⟩)] #[]] 152)) hb)
  have BZ2 := Aside0.mk (blk_below (blk_alloc BZ.out (.cells #[.string ⟨#[67, 114, 99]⟩, .bool true, .func (Fn.func 106) #[.pointer (some ⟨w.heap.size + 1, 0, none⟩)] #[]] 152)) hb)
  have BT2 := Aside0.mk (blk_below (blk_alloc BT.out (.cells #[.string ⟨#[67, 114, 99]⟩, .bool true, .func (Fn.func 106) #[.pointer (some ⟨w.heap.size + 1, 0, none⟩)] #[]] 152)) hb)
  have BR2 := Aside0.mk (blk_below (blk_alloc BR.out (.cells #[.string ⟨#[67, 114, 99]⟩, .bool true, .func (Fn.func 106) #[.pointer (some ⟨w.heap.size + 1, 0, none⟩)] #[]] 152)) hb)
  have HB2 := Aside0.mk (below_step (below_alloc HB.out (.cells #[.string ⟨#[67, 114, 99]⟩, .bool true, .func (Fn.func 106) #[.pointer (some ⟨w.heap.size + 1, 0, none⟩)] #[]] 152)) hb)
  have hz : W0.heap.size < W1.heap.size := by have h := hb.size; rw [World.size_alloc] at h; omega
  have hz0 : w.heap.size < W1.heap.size := by omega
  have hz1 : w.heap.size + 1 < W1.heap.size := by omega
  have hz2 : w.heap.size + 1 + 1 < W1.heap.size := by omega
  clear r4 r5 hb BZ BT BR HB hs0 hs1 hs2 q0 q1 q2 q3 q4 q5 q6 q7 q8 q9 q10 q11 q12 q13 q14
  obtain ⟨p0, p1, p2⟩ := box3 BQ2.out
  obtain ⟨z0, z1, z2, z3, z4, z5⟩ := box35 BZ2.out
  have y0 := frz BZ2.out (n := 0)
  have y1 := frz BZ2.out (n := 1)
  have y2 := frz BZ2.out (n := 2)
  have y3 := frz BZ2.out (n := 3)
  have y4 := frz BZ2.out (n := 4)
  have y5 := frz BZ2.out (n := 5)
  cases b1
  · go_wp2
    have BF := Aside0.mk (blk_alloc (six_set (c0 := .int .i64 0) (c1 := .int .i64 0) (c2 := .int .i64 0) (c3 := .int .i64 0) (c4 := .int .i64 0) (c5 := .int .i64 0) BZ2.out) (.cells #[.int .i64 x1.f0, .int .i64 x1.f1, .int .i64 x1.f2, .string x1.f3, .slice a4 x1.f4.length n4, .slice a5 x1.f5.length n5] 35))
    have LF := Aside0.mk (below_alloc (RowKit.Below.setCell (RowKit.Below.setCell (RowKit.Below.setCell (RowKit.Below.setCell (RowKit.Below.setCell (RowKit.Below.setCell (HB2.out) (p := ⟨w.heap.size, 0, none⟩) (Nat.le_refl _) (.int .i64 0)) (p := ⟨w.heap.size, 1, none⟩) (Nat.le_refl _) (.int .i64 0)) (p := ⟨w.heap.size, 2, none⟩) (Nat.le_refl _) (.int .i64 0)) (p := ⟨w.heap.size, 3, none⟩) (Nat.le_refl _) (.int .i64 0)) (p := ⟨w.heap.size, 4, none⟩) (Nat.le_refl _) (.int .i64 0)) (p := ⟨w.heap.size, 5, none⟩) (Nat.le_refl _) (.int .i64 0)) (.cells #[.int .i64 x1.f0, .int .i64 x1.f1, .int .i64 x1.f2, .string x1.f3, .slice a4 x1.f4.length n4, .slice a5 x1.f5.length n5] 35))
    generalize (((((((W1.setCell ⟨w.heap.size, 0, none⟩ (.int .i64 0)).setCell ⟨w.heap.size, 1, none⟩ (.int .i64 0)).setCell ⟨w.heap.size, 2, none⟩ (.int .i64 0)).setCell ⟨w.heap.size, 3, none⟩ (.int .i64 0)).setCell ⟨w.heap.size, 4, none⟩ (.int .i64 0)).setCell ⟨w.heap.size, 5, none⟩ (.int .i64 0))).alloc (.cells #[.int .i64 x1.f0, .int .i64 x1.f1, .int .i64 x1.f2, .string x1.f3, .slice a4 x1.f4.length n4, .slice a5 x1.f5.length n5] 35) = WF at *
    obtain ⟨o0, o1, o2, o3, o4, o5⟩ := box35 BF.out
    obtain rfl : res = (0, 0, 0, 0, 0, 0, 11) := by rw [HR.out]; unfold ofB; rw [if_pos rfl]; try rfl
    exact bodyPost_ret (v := .tuple #[.agg #[.int .i64 0, .int .i64 0, .int .i64 0, .int .i64 0, .int .i64 0, .int .i64 0], .int .i64 11]) (by simp [results, Try.results46, go_sem, o0, o1, o2, o3, o4, o5]) rfl ⟨rfl, LF.out⟩
  go_wp2_with fail
  obtain ⟨kb, hkb⟩ : ∃ kb, kb = (x1.f0 == 4 && decide (x1.f3.size = 4)) := ⟨_, rfl⟩
  have S := sum_calls x1 a4 n4 a5 n5 (w.heap.size + 1) (0) (-1) (0) (0) (0) (0) (false) _ (blk_alloc BT2.out (.cells #[.int .i64 x1.f0, .int .i64 x1.f1, .int .i64 x1.f2, .string x1.f3, .slice a4 x1.f4.length n4, .slice a5 x1.f5.length n5] 35))
  rw [← hkb] at S
  refine Calls.mono S ?_
  rintro e V1 ⟨rfl, hT, hCg⟩
  have hy : W1.heap.size < V1.heap.size := by have h := hCg.2.1; rw [World.size_alloc] at h; omega
  have hs0 : w.heap.size < V1.heap.size := by omega
  have hs1 : w.heap.size + 1 < V1.heap.size := by omega
  have hs2 : w.heap.size + 1 + 1 < V1.heap.size := by omega
  have BT := Aside0.mk hT
  have BZ := Aside0.mk ((hCg.2.2 w.heap.size (by rw [World.size_alloc]; omega) (by omega)).trans (blk_alloc BZ2.out (.cells #[.int .i64 x1.f0, .int .i64 x1.f1, .int .i64 x1.f2, .string x1.f3, .slice a4 x1.f4.length n4, .slice a5 x1.f5.length n5] 35)))
  have BR := Aside0.mk ((hCg.2.2 (w.heap.size + 1 + 1) (by rw [World.size_alloc]; omega) (by omega)).trans (blk_alloc BR2.out (.cells #[.int .i64 x1.f0, .int .i64 x1.f1, .int .i64 x1.f2, .string x1.f3, .slice a4 x1.f4.length n4, .slice a5 x1.f5.length n5] 35)))
  have HB := Aside0.mk ((below_alloc HB2.out (.cells #[.int .i64 x1.f0, .int .i64 x1.f1, .int .i64 x1.f2, .string x1.f3, .slice a4 x1.f4.length n4, .slice a5 x1.f5.length n5] 35)).trans (hCg.1 w.heap.size (by omega) (by rw [World.size_alloc]; omega)))
  have HK := Aside0.mk hkb
  clear S hT hCg hkb BT2 BZ2 BR2 HB2 BQ2 hz hz0 hz1 hz2 p0 p1 p2 z0 z1 z2 z3 z4 z5 y0 y1 y2 y3 y4 y5
  obtain ⟨z0, z1, z2, z3, z4, z5⟩ := box35 BZ.out
  have y0 := frz BZ.out (n := 0)
  have y1 := frz BZ.out (n := 1)
  have y2 := frz BZ.out (n := 2)
  have y3 := frz BZ.out (n := 3)
  have y4 := frz BZ.out (n := 4)
  have y5 := frz BZ.out (n := 5)
  cases kb
  · go_wp2
    have BF := Aside0.mk (six_set (c0 := .int .i64 0) (c1 := .int .i64 0) (c2 := .int .i64 0) (c3 := .int .i64 0) (c4 := .int .i64 0) (c5 := .int .i64 0) BZ.out)
    have LF := Aside0.mk (RowKit.Below.setCell (RowKit.Below.setCell (RowKit.Below.setCell (RowKit.Below.setCell (RowKit.Below.setCell (RowKit.Below.setCell (HB.out) (p := ⟨w.heap.size, 0, none⟩) (Nat.le_refl _) (.int .i64 0)) (p := ⟨w.heap.size, 1, none⟩) (Nat.le_refl _) (.int .i64 0)) (p := ⟨w.heap.size, 2, none⟩) (Nat.le_refl _) (.int .i64 0)) (p := ⟨w.heap.size, 3, none⟩) (Nat.le_refl _) (.int .i64 0)) (p := ⟨w.heap.size, 4, none⟩) (Nat.le_refl _) (.int .i64 0)) (p := ⟨w.heap.size, 5, none⟩) (Nat.le_refl _) (.int .i64 0))
    generalize ((((((V1.setCell ⟨w.heap.size, 0, none⟩ (.int .i64 0)).setCell ⟨w.heap.size, 1, none⟩ (.int .i64 0)).setCell ⟨w.heap.size, 2, none⟩ (.int .i64 0)).setCell ⟨w.heap.size, 3, none⟩ (.int .i64 0)).setCell ⟨w.heap.size, 4, none⟩ (.int .i64 0)).setCell ⟨w.heap.size, 5, none⟩ (.int .i64 0)) = WF at *
    obtain ⟨o0, o1, o2, o3, o4, o5⟩ := box35 BF.out
    obtain rfl : res = (0, 0, 0, 0, 0, 0, 10) := by rw [HR.out]; unfold ofB; rw [if_neg (fun h => by cases h), if_pos (by intro h; have h2 := HK.out; simp [h.1, h.2] at h2)]; try rfl
    exact bodyPost_ret (v := .tuple #[.agg #[.int .i64 0, .int .i64 0, .int .i64 0, .int .i64 0, .int .i64 0, .int .i64 0], .int .i64 10]) (by simp [results, Try.results46, go_sem, o0, o1, o2, o3, o4, o5]) rfl ⟨rfl, LF.out⟩
  clear z0 z1 z2 z3 z4 z5 y0 y1 y2 y3 y4 y5
  have hK1 : x1.f0 = 4 ∧ x1.f3.size = 4 := by simpa using HK.out.symm
  have hcr : x1.f3.extract 0 (min x1.f3.size 4) = x1.f3 := ext_all hK1.2
  obtain ⟨cr, hcr2⟩ : ∃ cr, cr = fl 0 (bytesOf x1.f3) := ⟨_, rfl⟩
  rw [hcr, ← hcr2] at BT
  have K1 := Aside0.mk hK1
  have C1 := Aside0.mk hcr2
  clear HK hK1 hcr hcr2
  go_wp2_with fail
  obtain ⟨⟨q0, q1, q2⟩, ⟨q3, q4, q5⟩, ⟨q6, q7, q8⟩, ⟨q9, q10, q11⟩, ⟨q12, q13, q14⟩⟩ := box15 BR.out
  rw [rounds_succ]
  go_wp2_with fail
  refine Calls.mono (G2.out _ (below_alloc HB.out (.cells #[.string ⟨#[76, 101, 110]⟩, .bool true, .func (Fn.func 107) #[.pointer (some ⟨w.heap.size + 1, 0, none⟩)] #[]] 152))) ?_
  rintro e W2 ⟨v4, v5, rfl, r4, r5, hb⟩
  obtain ⟨a4, n4, hv4⟩ := Kd.R_slice r4
  obtain ⟨a5, n5, hv5⟩ := Kd.R_slice r5
  subst hv4
  subst hv5
  have BQ2 := Aside0.mk (blk_below (blk_new V1 (.cells #[.string ⟨#[76, 101, 110]⟩, .bool true, .func (Fn.func 107) #[.pointer (some ⟨w.heap.size + 1, 0, none⟩)] #[]] 152)) hb)
  have BZ2 := Aside0.mk (blk_below (blk_alloc BZ.out (.cells #[.string ⟨#[76, 101, 110]⟩, .bool true, .func (Fn.func 107) #[.pointer (some ⟨w.heap.size + 1, 0, none⟩)] #[]] 152)) hb)
  have BT2 := Aside0.mk (blk_below (blk_alloc BT.out (.cells #[.string ⟨#[76, 101, 110]⟩, .bool true, .func (Fn.func 107) #[.pointer (some ⟨w.heap.size + 1, 0, none⟩)] #[]] 152)) hb)
  have BR2 := Aside0.mk (blk_below (blk_alloc BR.out (.cells #[.string ⟨#[76, 101, 110]⟩, .bool true, .func (Fn.func 107) #[.pointer (some ⟨w.heap.size + 1, 0, none⟩)] #[]] 152)) hb)
  have HB2 := Aside0.mk (below_step (below_alloc HB.out (.cells #[.string ⟨#[76, 101, 110]⟩, .bool true, .func (Fn.func 107) #[.pointer (some ⟨w.heap.size + 1, 0, none⟩)] #[]] 152)) hb)
  have hz : V1.heap.size < W2.heap.size := by have h := hb.size; rw [World.size_alloc] at h; omega
  have hz0 : w.heap.size < W2.heap.size := by omega
  have hz1 : w.heap.size + 1 < W2.heap.size := by omega
  have hz2 : w.heap.size + 1 + 1 < W2.heap.size := by omega
  clear r4 r5 hb BZ BT BR HB hs0 hs1 hs2 q0 q1 q2 q3 q4 q5 q6 q7 q8 q9 q10 q11 q12 q13 q14
  obtain ⟨p0, p1, p2⟩ := box3 BQ2.out
  obtain ⟨z0, z1, z2, z3, z4, z5⟩ := box35 BZ2.out
  have y0 := frz BZ2.out (n := 0)
  have y1 := frz BZ2.out (n := 1)
  have y2 := frz BZ2.out (n := 2)
  have y3 := frz BZ2.out (n := 3)
  have y4 := frz BZ2.out (n := 4)
  have y5 := frz BZ2.out (n := 5)
  cases b2
  · go_wp2
    have BF := Aside0.mk (blk_alloc (six_set (c0 := .int .i64 0) (c1 := .int .i64 0) (c2 := .int .i64 0) (c3 := .int .i64 0) (c4 := .int .i64 0) (c5 := .int .i64 0) BZ2.out) (.cells #[.int .i64 x2.f0, .int .i64 x2.f1, .int .i64 x2.f2, .string x2.f3, .slice a4 x2.f4.length n4, .slice a5 x2.f5.length n5] 35))
    have LF := Aside0.mk (below_alloc (RowKit.Below.setCell (RowKit.Below.setCell (RowKit.Below.setCell (RowKit.Below.setCell (RowKit.Below.setCell (RowKit.Below.setCell (HB2.out) (p := ⟨w.heap.size, 0, none⟩) (Nat.le_refl _) (.int .i64 0)) (p := ⟨w.heap.size, 1, none⟩) (Nat.le_refl _) (.int .i64 0)) (p := ⟨w.heap.size, 2, none⟩) (Nat.le_refl _) (.int .i64 0)) (p := ⟨w.heap.size, 3, none⟩) (Nat.le_refl _) (.int .i64 0)) (p := ⟨w.heap.size, 4, none⟩) (Nat.le_refl _) (.int .i64 0)) (p := ⟨w.heap.size, 5, none⟩) (Nat.le_refl _) (.int .i64 0)) (.cells #[.int .i64 x2.f0, .int .i64 x2.f1, .int .i64 x2.f2, .string x2.f3, .slice a4 x2.f4.length n4, .slice a5 x2.f5.length n5] 35))
    generalize (((((((W2.setCell ⟨w.heap.size, 0, none⟩ (.int .i64 0)).setCell ⟨w.heap.size, 1, none⟩ (.int .i64 0)).setCell ⟨w.heap.size, 2, none⟩ (.int .i64 0)).setCell ⟨w.heap.size, 3, none⟩ (.int .i64 0)).setCell ⟨w.heap.size, 4, none⟩ (.int .i64 0)).setCell ⟨w.heap.size, 5, none⟩ (.int .i64 0))).alloc (.cells #[.int .i64 x2.f0, .int .i64 x2.f1, .int .i64 x2.f2, .string x2.f3, .slice a4 x2.f4.length n4, .slice a5 x2.f5.length n5] 35) = WF at *
    obtain ⟨o0, o1, o2, o3, o4, o5⟩ := box35 BF.out
    obtain rfl : res = (0, 0, 0, 0, 0, 0, 11) := by rw [HR.out]; unfold ofB; rw [if_neg (fun h => by cases h), if_neg (fun h => h K1.out), if_pos rfl]; try rfl
    exact bodyPost_ret (v := .tuple #[.agg #[.int .i64 0, .int .i64 0, .int .i64 0, .int .i64 0, .int .i64 0, .int .i64 0], .int .i64 11]) (by simp [results, Try.results46, go_sem, o0, o1, o2, o3, o4, o5]) rfl ⟨rfl, LF.out⟩
  go_wp2_with fail
  obtain ⟨kb, hkb⟩ : ∃ kb, kb = (x2.f0 == 2) := ⟨_, rfl⟩
  have S := long_calls x2 a4 n4 a5 n5 (w.heap.size + 1) (0) (-1) (0) (0) (0) (cr) (false) _ (blk_alloc BT2.out (.cells #[.int .i64 x2.f0, .int .i64 x2.f1, .int .i64 x2.f2, .string x2.f3, .slice a4 x2.f4.length n4, .slice a5 x2.f5.length n5] 35))
  rw [← hkb] at S
  refine Calls.mono S ?_
  rintro e V2 ⟨rfl, hT, hCg⟩
  have hy : W2.heap.size < V2.heap.size := by have h := hCg.2.1; rw [World.size_alloc] at h; omega
  have hs0 : w.heap.size < V2.heap.size := by omega
  have hs1 : w.heap.size + 1 < V2.heap.size := by omega
  have hs2 : w.heap.size + 1 + 1 < V2.heap.size := by omega
  have BT := Aside0.mk hT
  have BZ := Aside0.mk ((hCg.2.2 w.heap.size (by rw [World.size_alloc]; omega) (by omega)).trans (blk_alloc BZ2.out (.cells #[.int .i64 x2.f0, .int .i64 x2.f1, .int .i64 x2.f2, .string x2.f3, .slice a4 x2.f4.length n4, .slice a5 x2.f5.length n5] 35)))
  have BR := Aside0.mk ((hCg.2.2 (w.heap.size + 1 + 1) (by rw [World.size_alloc]; omega) (by omega)).trans (blk_alloc BR2.out (.cells #[.int .i64 x2.f0, .int .i64 x2.f1, .int .i64 x2.f2, .string x2.f3, .slice a4 x2.f4.length n4, .slice a5 x2.f5.length n5] 35)))
  have HB := Aside0.mk ((below_alloc HB2.out (.cells #[.int .i64 x2.f0, .int .i64 x2.f1, .int .i64 x2.f2, .string x2.f3, .slice a4 x2.f4.length n4, .slice a5 x2.f5.length n5] 35)).trans (hCg.1 w.heap.size (by omega) (by rw [World.size_alloc]; omega)))
  have HK := Aside0.mk hkb
  clear S hT hCg hkb BT2 BZ2 BR2 HB2 BQ2 hz hz0 hz1 hz2 p0 p1 p2 z0 z1 z2 z3 z4 z5 y0 y1 y2 y3 y4 y5
  obtain ⟨z0, z1, z2, z3, z4, z5⟩ := box35 BZ.out
  have y0 := frz BZ.out (n := 0)
  have y1 := frz BZ.out (n := 1)
  have y2 := frz BZ.out (n := 2)
  have y3 := frz BZ.out (n := 3)
  have y4 := frz BZ.out (n := 4)
  have y5 := frz BZ.out (n := 5)
  cases kb
  · go_wp2
    have BF := Aside0.mk (six_set (c0 := .int .i64 0) (c1 := .int .i64 0) (c2 := .int .i64 0) (c3 := .int .i64 0) (c4 := .int .i64 0) (c5 := .int .i64 0) BZ.out)
    have LF := Aside0.mk (RowKit.Below.setCell (RowKit.Below.setCell (RowKit.Below.setCell (RowKit.Below.setCell (RowKit.Below.setCell (RowKit.Below.setCell (HB.out) (p := ⟨w.heap.size, 0, none⟩) (Nat.le_refl _) (.int .i64 0)) (p := ⟨w.heap.size, 1, none⟩) (Nat.le_refl _) (.int .i64 0)) (p := ⟨w.heap.size, 2, none⟩) (Nat.le_refl _) (.int .i64 0)) (p := ⟨w.heap.size, 3, none⟩) (Nat.le_refl _) (.int .i64 0)) (p := ⟨w.heap.size, 4, none⟩) (Nat.le_refl _) (.int .i64 0)) (p := ⟨w.heap.size, 5, none⟩) (Nat.le_refl _) (.int .i64 0))
    generalize ((((((V2.setCell ⟨w.heap.size, 0, none⟩ (.int .i64 0)).setCell ⟨w.heap.size, 1, none⟩ (.int .i64 0)).setCell ⟨w.heap.size, 2, none⟩ (.int .i64 0)).setCell ⟨w.heap.size, 3, none⟩ (.int .i64 0)).setCell ⟨w.heap.size, 4, none⟩ (.int .i64 0)).setCell ⟨w.heap.size, 5, none⟩ (.int .i64 0)) = WF at *
    obtain ⟨o0, o1, o2, o3, o4, o5⟩ := box35 BF.out
    obtain rfl : res = (0, 0, 0, 0, 0, 0, 10) := by rw [HR.out]; unfold ofB; rw [if_neg (fun h => by cases h), if_neg (fun h => h K1.out), if_neg (fun h => by cases h), if_pos (by intro h; have h2 := HK.out; rw [h] at h2; simp at h2)]; try rfl
    exact bodyPost_ret (v := .tuple #[.agg #[.int .i64 0, .int .i64 0, .int .i64 0, .int .i64 0, .int .i64 0, .int .i64 0], .int .i64 10]) (by simp [results, Try.results46, go_sem, o0, o1, o2, o3, o4, o5]) rfl ⟨rfl, LF.out⟩
  clear z0 z1 z2 z3 z4 z5 y0 y1 y2 y3 y4 y5
  have K2 := Aside0.mk (show x2.f0 = 2 by simpa using HK.out.symm)
  clear HK
  go_wp2_with fail
  obtain ⟨⟨q0, q1, q2⟩, ⟨q3, q4, q5⟩, ⟨q6, q7, q8⟩, ⟨q9, q10, q11⟩, ⟨q12, q13, q14⟩⟩ := box15 BR.out
  rw [rounds_succ]
  go_wp2_with fail
  refine Calls.mono (G3.out _ (below_alloc HB.out (.cells #[.string ⟨#[80, 114, 101, 118]⟩, .bool false, .func (Fn.func 108) #[.pointer (some ⟨w.heap.size + 1, 0, none⟩)] #[]] 152))) ?_
  rintro e W3 ⟨v4, v5, rfl, r4, r5, hb⟩
  obtain ⟨a4, n4, hv4⟩ := Kd.R_slice r4
  obtain ⟨a5, n5, hv5⟩ := Kd.R_slice r5
  subst hv4
  subst hv5
  have BQ2 := Aside0.mk (blk_below (blk_new V2 (.cells #[.string ⟨#[80, 114, 101, 118]⟩, .bool false, .func (Fn.func 108) #[.pointer (some ⟨w.heap.size + 1, 0, none⟩)] #[]] 152)) hb)
  have BZ2 := Aside0.mk (blk_below (blk_alloc BZ.out (.cells #[.string ⟨#[80, 114, 101, 118]⟩, .bool false, .func (Fn.func 108) #[.pointer (some ⟨w.heap.size + 1, 0, none⟩)] #[]] 152)) hb)
  have BT2 := Aside0.mk (blk_below (blk_alloc BT.out (.cells #[.string ⟨#[80, 114, 101, 118]⟩, .bool false, .func (Fn.func 108) #[.pointer (some ⟨w.heap.size + 1, 0, none⟩)] #[]] 152)) hb)
  have BR2 := Aside0.mk (blk_below (blk_alloc BR.out (.cells #[.string ⟨#[80, 114, 101, 118]⟩, .bool false, .func (Fn.func 108) #[.pointer (some ⟨w.heap.size + 1, 0, none⟩)] #[]] 152)) hb)
  have HB2 := Aside0.mk (below_step (below_alloc HB.out (.cells #[.string ⟨#[80, 114, 101, 118]⟩, .bool false, .func (Fn.func 108) #[.pointer (some ⟨w.heap.size + 1, 0, none⟩)] #[]] 152)) hb)
  have hz : V2.heap.size < W3.heap.size := by have h := hb.size; rw [World.size_alloc] at h; omega
  have hz0 : w.heap.size < W3.heap.size := by omega
  have hz1 : w.heap.size + 1 < W3.heap.size := by omega
  have hz2 : w.heap.size + 1 + 1 < W3.heap.size := by omega
  clear r4 r5 hb BZ BT BR HB hs0 hs1 hs2 q0 q1 q2 q3 q4 q5 q6 q7 q8 q9 q10 q11 q12 q13 q14
  obtain ⟨p0, p1, p2⟩ := box3 BQ2.out
  obtain ⟨z0, z1, z2, z3, z4, z5⟩ := box35 BZ2.out
  have y0 := frz BZ2.out (n := 0)
  have y1 := frz BZ2.out (n := 1)
  have y2 := frz BZ2.out (n := 2)
  have y3 := frz BZ2.out (n := 3)
  have y4 := frz BZ2.out (n := 4)
  have y5 := frz BZ2.out (n := 5)
  go_upto_region 6 with fail
  go_cut [42] (fun s wc => s = .bool false ∧ wc = W3.alloc (.cells #[.int .i64 x3.f0, .int .i64 x3.f1, .int .i64 x3.f2, .string x3.f3, .slice a4 x3.f4.length n4, .slice a5 x3.f5.length n5] 35))
  case first =>
    cases b3
    · go_wp2_with fail
      go_meet
      case rel => exact ⟨rfl, rfl⟩
    · go_wp2_with fail
      go_meet
      case rel => exact ⟨rfl, rfl⟩
  case' rest => obtain ⟨rfl, rfl⟩ := hcut
  go_upto_region 8 with fail
  go_cut [50] (fun s wc => ∃ (cb : Bool) (p : Int) (u : Bool), s = .bool cb ∧ Hid (cb = (b3 && !(x3.f0 == 2)) ∧ p = (if b3 = true then x3.f1 else -1) ∧ u = decide (b3 = true ∧ x3.f1 < 0)) ∧ Aside0 (wc.heap[w.heap.size]? = some (.cells #[.int .i64 0, .int .i64 0, .int .i64 0, .int .i64 0, .int .i64 0, .int .i64 0] 72 (0, 0))) ∧ Aside0 (wc.heap[w.heap.size + 1]? = some (.cells #[.int .i64 0, .int .i64 p, .int .i64 0, .int .i64 0, .int .i64 x2.f1, .int .i64 cr, .bool u] 150 (0, 0))) ∧ Aside0 (wc.heap[w.heap.size + 1 + 1]? = some (.cells #[.string ⟨#[67, 114, 99]⟩, .bool true, .func (Fn.func 106) #[.pointer (some ⟨w.heap.size + 1, 0, none⟩)] #[], .string ⟨#[76, 101, 110]⟩, .bool true, .func (Fn.func 107) #[.pointer (some ⟨w.heap.size + 1, 0, none⟩)] #[], .string ⟨#[80, 114, 101, 118]⟩, .bool false, .func (Fn.func 108) #[.pointer (some ⟨w.heap.size + 1, 0, none⟩)] #[], .string ⟨#[82, 111, 111, 116]⟩, .bool false, .func (Fn.func 109) #[.pointer (some ⟨w.heap.size + 1, 0, none⟩)] #[], .string ⟨#[83, 105, 122, 101]⟩, .bool true, .func (Fn.func 110) #[.pointer (some ⟨w.heap.size + 1, 0, none⟩)] #[]] 152 (0, 0))) ∧ Aside0 (RowKit.Below w.heap.size w wc) ∧ w.heap.size + 1 + 1 < wc.heap.size)
  case first =>
    cases b3
    · go_wp2_with fail
      go_meet
      case rel => exact ⟨false, -1, false, rfl, Lib.hid ⟨rfl, rfl, by simp⟩, Aside0.mk (blk_alloc BZ2.out (.cells #[.int .i64 x3.f0, .int .i64 x3.f1, .int .i64 x3.f2, .string x3.f3, .slice a4 x3.f4.length n4, .slice a5 x3.f5.length n5] 35)), Aside0.mk (blk_alloc BT2.out (.cells #[.int .i64 x3.f0, .int .i64 x3.f1, .int .i64 x3.f2, .string x3.f3, .slice a4 x3.f4.length n4, .slice a5 x3.f5.length n5] 35)), Aside0.mk (blk_alloc BR2.out (.cells #[.int .i64 x3.f0, .int .i64 x3.f1, .int .i64 x3.f2, .string x3.f3, .slice a4 x3.f4.length n4, .slice a5 x3.f5.length n5] 35)), Aside0.mk (below_alloc HB2.out (.cells #[.int .i64 x3.f0, .int .i64 x3.f1, .int .i64 x3.f2, .string x3.f3, .slice a4 x3.f4.length n4, .slice a5 x3.f5.length n5] 35)), by rw [World.size_alloc]; omega⟩
    · go_wp2_with fail
      have S := prev_calls x3 a4 n4 a5 n5 (w.heap.size + 1) (0) (-1) (0) (0) (x2.f1) (cr) (false) _ (blk_alloc BT2.out (.cells #[.int .i64 x3.f0, .int .i64 x3.f1, .int .i64 x3.f2, .string x3.f3, .slice a4 x3.f4.length n4, .slice a5 x3.f5.length n5] 35))
      refine Calls.mono S ?_
      rintro e Wn ⟨rfl, hT, hCg⟩
      have hy : W3.heap.size < Wn.heap.size := by have h := hCg.2.1; rw [World.size_alloc] at h; omega
      have BT := Aside0.mk hT
      have BZ := Aside0.mk ((hCg.2.2 w.heap.size (by rw [World.size_alloc]; omega) (by omega)).trans (blk_alloc BZ2.out (.cells #[.int .i64 x3.f0, .int .i64 x3.f1, .int .i64 x3.f2, .string x3.f3, .slice a4 x3.f4.length n4, .slice a5 x3.f5.length n5] 35)))
      have BR := Aside0.mk ((hCg.2.2 (w.heap.size + 1 + 1) (by rw [World.size_alloc]; omega) (by omega)).trans (blk_alloc BR2.out (.cells #[.int .i64 x3.f0, .int .i64 x3.f1, .int .i64 x3.f2, .string x3.f3, .slice a4 x3.f4.length n4, .slice a5 x3.f5.length n5] 35)))
      have HB := Aside0.mk ((below_alloc HB2.out (.cells #[.int .i64 x3.f0, .int .i64 x3.f1, .int .i64 x3.f2, .string x3.f3, .slice a4 x3.f4.length n4, .slice a5 x3.f5.length n5] 35)).trans (hCg.1 w.heap.size (by omega) (by rw [World.size_alloc]; omega)))
      clear S hT hCg p0 p1 p2 z0 z1 z2 z3 z4 z5 y0 y1 y2 y3 y4 y5
      go_wp2_with fail
      go_meet
      case rel => exact ⟨!(x3.f0 == 2), x3.f1, decide (x3.f1 < 0), rfl, Lib.hid ⟨by simp, rfl, by simp⟩, BZ, BT, BR, HB, by omega⟩
  case rest =>
    obtain ⟨cb, p, u, rfl, HX, BZ, BT, BR, HB, hs2⟩ := hcut
    clear BQ2 BZ2 BT2 BR2 HB2 hz hz0 hz1 hz2 p0 p1 p2 z0 z1 z2 z3 z4 z5 y0 y1 y2 y3 y4 y5
    generalize wc = wc3 at *
    have hs0 : w.heap.size < wc3.heap.size := by omega
    have hs1 : w.heap.size + 1 < wc3.heap.size := by omega
    obtain ⟨z0, z1, z2, z3, z4, z5⟩ := box35 BZ.out
    have y0 := frz BZ.out (n := 0)
    have y1 := frz BZ.out (n := 1)
    have y2 := frz BZ.out (n := 2)
    have y3 := frz BZ.out (n := 3)
    have y4 := frz BZ.out (n := 4)
    have y5 := frz BZ.out (n := 5)
    cases cb
    rotate_left
    · go_wp2
      have BF := Aside0.mk (six_set (c0 := .int .i64 0) (c1 := .int .i64 0) (c2 := .int .i64 0) (c3 := .int .i64 0) (c4 := .int .i64 0) (c5 := .int .i64 0) BZ.out)
      have LF := Aside0.mk (RowKit.Below.setCell (RowKit.Below.setCell (RowKit.Below.setCell (RowKit.Below.setCell (RowKit.Below.setCell (RowKit.Below.setCell (HB.out) (p := ⟨w.heap.size, 0, none⟩) (Nat.le_refl _) (.int .i64 0)) (p := ⟨w.heap.size, 1, none⟩) (Nat.le_refl _) (.int .i64 0)) (p := ⟨w.heap.size, 2, none⟩) (Nat.le_refl _) (.int .i64 0)) (p := ⟨w.heap.size, 3, none⟩) (Nat.le_refl _) (.int .i64 0)) (p := ⟨w.heap.size, 4, none⟩) (Nat.le_refl _) (.int .i64 0)) (p := ⟨w.heap.size, 5, none⟩) (Nat.le_refl _) (.int .i64 0))
      generalize ((((((wc3.setCell ⟨w.heap.size, 0, none⟩ (.int .i64 0)).setCell ⟨w.heap.size, 1, none⟩ (.int .i64 0)).setCell ⟨w.heap.size, 2, none⟩ (.int .i64 0)).setCell ⟨w.heap.size, 3, none⟩ (.int .i64 0)).setCell ⟨w.heap.size, 4, none⟩ (.int .i64 0)).setCell ⟨w.heap.size, 5, none⟩ (.int .i64 0)) = WF at *
      obtain ⟨o0, o1, o2, o3, o4, o5⟩ := box35 BF.out
      obtain rfl : res = (0, 0, 0, 0, 0, 0, 10) := by rw [HR.out]; unfold ofB; rw [if_neg (fun h => by cases h), if_neg (fun h => h K1.out), if_neg (fun h => by cases h), if_neg (fun h => h K2.out), if_pos (by have h := HX.out.1; simpa using h.symm)]; try rfl
      exact bodyPost_ret (v := .tuple #[.agg #[.int .i64 0, .int .i64 0, .int .i64 0, .int .i64 0, .int .i64 0, .int .i64 0], .int .i64 10]) (by simp [results, Try.results46, go_sem, o0, o1, o2, o3, o4, o5]) rfl ⟨rfl, LF.out⟩
    clear z0 z1 z2 z3 z4 z5 y0 y1 y2 y3 y4 y5
    have K3 := Aside0.mk (show ¬ (b3 = true ∧ x3.f0 ≠ 2) by intro h; have h2 := HX.out.1; simp [h.1, h.2] at h2)
    have PU := Aside0.mk HX.out.2
    clear HX
    go_wp2_with fail
    obtain ⟨⟨q0, q1, q2⟩, ⟨q3, q4, q5⟩, ⟨q6, q7, q8⟩, ⟨q9, q10, q11⟩, ⟨q12, q13, q14⟩⟩ := box15 BR.out
    rw [rounds_succ]
    go_wp2_with fail
    refine Calls.mono (G4.out _ (below_alloc HB.out (.cells #[.string ⟨#[82, 111, 111, 116]⟩, .bool false, .func (Fn.func 109) #[.pointer (some ⟨w.heap.size + 1, 0, none⟩)] #[]] 152))) ?_
    rintro e W4 ⟨v4, v5, rfl, r4, r5, hb⟩
    obtain ⟨a4, n4, hv4⟩ := Kd.R_slice r4
    obtain ⟨a5, n5, hv5⟩ := Kd.R_slice r5
    subst hv4
    subst hv5
    have BQ2 := Aside0.mk (blk_below (blk_new wc3 (.cells #[.string ⟨#[82, 111, 111, 116]⟩, .bool false, .func (Fn.func 109) #[.pointer (some ⟨w.heap.size + 1, 0, none⟩)] #[]] 152)) hb)
    have BZ2 := Aside0.mk (blk_below (blk_alloc BZ.out (.cells #[.string ⟨#[82, 111, 111, 116]⟩, .bool false, .func (Fn.func 109) #[.pointer (some ⟨w.heap.size + 1, 0, none⟩)] #[]] 152)) hb)
    have BT2 := Aside0.mk (blk_below (blk_alloc BT.out (.cells #[.string ⟨#[82, 111, 111, 116]⟩, .bool false, .func (Fn.func 109) #[.pointer (some ⟨w.heap.size + 1, 0, none⟩)] #[]] 152)) hb)
    have BR2 := Aside0.mk (blk_below (blk_alloc BR.out (.cells #[.string ⟨#[82, 111, 111, 116]⟩, .bool false, .func (Fn.func 109) #[.pointer (some ⟨w.heap.size + 1, 0, none⟩)] #[]] 152)) hb)
    have HB2 := Aside0.mk (below_step (below_alloc HB.out (.cells #[.string ⟨#[82, 111, 111, 116]⟩, .bool false, .func (Fn.func 109) #[.pointer (some ⟨w.heap.size + 1, 0, none⟩)] #[]] 152)) hb)
    have hz : wc3.heap.size < W4.heap.size := by have h := hb.size; rw [World.size_alloc] at h; omega
    have hz0 : w.heap.size < W4.heap.size := by omega
    have hz1 : w.heap.size + 1 < W4.heap.size := by omega
    have hz2 : w.heap.size + 1 + 1 < W4.heap.size := by omega
    clear r4 r5 hb BZ BT BR HB hs0 hs1 hs2 q0 q1 q2 q3 q4 q5 q6 q7 q8 q9 q10 q11 q12 q13 q14
    obtain ⟨p0, p1, p2⟩ := box3 BQ2.out
    obtain ⟨z0, z1, z2, z3, z4, z5⟩ := box35 BZ2.out
    have y0 := frz BZ2.out (n := 0)
    have y1 := frz BZ2.out (n := 1)
    have y2 := frz BZ2.out (n := 2)
    have y3 := frz BZ2.out (n := 3)
    have y4 := frz BZ2.out (n := 4)
    have y5 := frz BZ2.out (n := 5)
    go_upto_region 6 with fail
    go_cut [42] (fun s wc => s = .bool false ∧ wc = W4.alloc (.cells #[.int .i64 x4.f0, .int .i64 x4.f1, .int .i64 x4.f2, .string x4.f3, .slice a4 x4.f4.length n4, .slice a5 x4.f5.length n5] 35))
    case first =>
      cases b4
      · go_wp2_with fail
        go_meet
        case rel => exact ⟨rfl, rfl⟩
      · go_wp2_with fail
        go_meet
        case rel => exact ⟨rfl, rfl⟩
    case' rest => obtain ⟨rfl, rfl⟩ := hcut
    go_upto_region 8 with fail
    go_cut [50] (fun s wc => ∃ (cb : Bool) (r1 r2 : Int), s = .bool cb ∧ Hid (cb = (b4 && !(x4.f0 == 7)) ∧ r1 = x4.f1 ∧ r2 = x4.f2) ∧ Aside0 (wc.heap[w.heap.size]? = some (.cells #[.int .i64 0, .int .i64 0, .int .i64 0, .int .i64 0, .int .i64 0, .int .i64 0] 72 (0, 0))) ∧ Aside0 (wc.heap[w.heap.size + 1]? = some (.cells #[.int .i64 0, .int .i64 p, .int .i64 r1, .int .i64 r2, .int .i64 x2.f1, .int .i64 cr, .bool u] 150 (0, 0))) ∧ Aside0 (wc.heap[w.heap.size + 1 + 1]? = some (.cells #[.string ⟨#[67, 114, 99]⟩, .bool true, .func (Fn.func 106) #[.pointer (some ⟨w.heap.size + 1, 0, none⟩)] #[], .string ⟨#[76, 101, 110]⟩, .bool true, .func (Fn.func 107) #[.pointer (some ⟨w.heap.size + 1, 0, none⟩)] #[], .string ⟨#[80, 114, 101, 118]⟩, .bool false, .func (Fn.func 108) #[.pointer (some ⟨w.heap.size + 1, 0, none⟩)] #[], .string ⟨#[82, 111, 111, 116]⟩, .bool false, .func (Fn.func 109) #[.pointer (some ⟨w.heap.size + 1, 0, none⟩)] #[], .string ⟨#[83, 105, 122, 101]⟩, .bool true, .func (Fn.func 110) #[.pointer (some ⟨w.heap.size + 1, 0, none⟩)] #[]] 152 (0, 0))) ∧ Aside0 (RowKit.Below w.heap.size w wc) ∧ w.heap.size + 1 + 1 < wc.heap.size)
    case first =>
      cases b4
      · have e4 := Aside0.mk (Z4.out.resolve_left (by simp))
        go_wp2_with fail
        go_meet
        case rel => exact ⟨false, 0, 0, rfl, Lib.hid ⟨rfl, by rw [e4.out]; rfl, by rw [e4.out]; rfl⟩, Aside0.mk (blk_alloc BZ2.out (.cells #[.int .i64 x4.f0, .int .i64 x4.f1, .int .i64 x4.f2, .string x4.f3, .slice a4 x4.f4.length n4, .slice a5 x4.f5.length n5] 35)), Aside0.mk (blk_alloc BT2.out (.cells #[.int .i64 x4.f0, .int .i64 x4.f1, .int .i64 x4.f2, .string x4.f3, .slice a4 x4.f4.length n4, .slice a5 x4.f5.length n5] 35)), Aside0.mk (blk_alloc BR2.out (.cells #[.int .i64 x4.f0, .int .i64 x4.f1, .int .i64 x4.f2, .string x4.f3, .slice a4 x4.f4.length n4, .slice a5 x4.f5.length n5] 35)), Aside0.mk (below_alloc HB2.out (.cells #[.int .i64 x4.f0, .int .i64 x4.f1, .int .i64 x4.f2, .string x4.f3, .slice a4 x4.f4.length n4, .slice a5 x4.f5.length n5] 35)), by rw [World.size_alloc]; omega⟩
      · go_wp2_with fail
        have S := root_calls x4 a4 n4 a5 n5 (w.heap.size + 1) (0) (p) (0) (0) (x2.f1) (cr) (u) _ (blk_alloc BT2.out (.cells #[.int .i64 x4.f0, .int .i64 x4.f1, .int .i64 x4.f2, .string x4.f3, .slice a4 x4.f4.length n4, .slice a5 x4.f5.length n5] 35))
        refine Calls.mono S ?_
        rintro e Wn ⟨rfl, hT, hCg⟩
        have hy : W4.heap.size < Wn.heap.size := by have h := hCg.2.1; rw [World.size_alloc] at h; omega
        have BT := Aside0.mk hT
        have BZ := Aside0.mk ((hCg.2.2 w.heap.size (by rw [World.size_alloc]; omega) (by omega)).trans (blk_alloc BZ2.out (.cells #[.int .i64 x4.f0, .int .i64 x4.f1, .int .i64 x4.f2, .string x4.f3, .slice a4 x4.f4.length n4, .slice a5 x4.f5.length n5] 35)))
        have BR := Aside0.mk ((hCg.2.2 (w.heap.size + 1 + 1) (by rw [World.size_alloc]; omega) (by omega)).trans (blk_alloc BR2.out (.cells #[.int .i64 x4.f0, .int .i64 x4.f1, .int .i64 x4.f2, .string x4.f3, .slice a4 x4.f4.length n4, .slice a5 x4.f5.length n5] 35)))
        have HB := Aside0.mk ((below_alloc HB2.out (.cells #[.int .i64 x4.f0, .int .i64 x4.f1, .int .i64 x4.f2, .string x4.f3, .slice a4 x4.f4.length n4, .slice a5 x4.f5.length n5] 35)).trans (hCg.1 w.heap.size (by omega) (by rw [World.size_alloc]; omega)))
        clear S hT hCg p0 p1 p2 z0 z1 z2 z3 z4 z5 y0 y1 y2 y3 y4 y5
        go_wp2_with fail
        go_meet
        case rel => exact ⟨!(x4.f0 == 7), x4.f1, x4.f2, rfl, Lib.hid ⟨by simp, rfl, rfl⟩, BZ, BT, BR, HB, by omega⟩
    case rest =>
      obtain ⟨cb, r1, r2, rfl, HX, BZ, BT, BR, HB, hs2⟩ := hcut
      clear BQ2 BZ2 BT2 BR2 HB2 hz hz0 hz1 hz2 p0 p1 p2 z0 z1 z2 z3 z4 z5 y0 y1 y2 y3 y4 y5
      generalize wc = wc4 at *
      have hs0 : w.heap.size < wc4.heap.size := by omega
      have hs1 : w.heap.size + 1 < wc4.heap.size := by omega
      obtain ⟨z0, z1, z2, z3, z4, z5⟩ := box35 BZ.out
      have y0 := frz BZ.out (n := 0)
      have y1 := frz BZ.out (n := 1)
      have y2 := frz BZ.out (n := 2)
      have y3 := frz BZ.out (n := 3)
      have y4 := frz BZ.out (n := 4)
      have y5 := frz BZ.out (n := 5)
      cases cb
      rotate_left
      · go_wp2
        have BF := Aside0.mk (six_set (c0 := .int .i64 0) (c1 := .int .i64 0) (c2 := .int .i64 0) (c3 := .int .i64 0) (c4 := .int .i64 0) (c5 := .int .i64 0) BZ.out)
        have LF := Aside0.mk (RowKit.Below.setCell (RowKit.Below.setCell (RowKit.Below.setCell (RowKit.Below.setCell (RowKit.Below.setCell (RowKit.Below.setCell (HB.out) (p := ⟨w.heap.size, 0, none⟩) (Nat.le_refl _) (.int .i64 0)) (p := ⟨w.heap.size, 1, none⟩) (Nat.le_refl _) (.int .i64 0)) (p := ⟨w.heap.size, 2, none⟩) (Nat.le_refl _) (.int .i64 0)) (p := ⟨w.heap.size, 3, none⟩) (Nat.le_refl _) (.int .i64 0)) (p := ⟨w.heap.size, 4, none⟩) (Nat.le_refl _) (.int .i64 0)) (p := ⟨w.heap.size, 5, none⟩) (Nat.le_refl _) (.int .i64 0))
        generalize ((((((wc4.setCell ⟨w.heap.size, 0, none⟩ (.int .i64 0)).setCell ⟨w.heap.size, 1, none⟩ (.int .i64 0)).setCell ⟨w.heap.size, 2, none⟩ (.int .i64 0)).setCell ⟨w.heap.size, 3, none⟩ (.int .i64 0)).setCell ⟨w.heap.size, 4, none⟩ (.int .i64 0)).setCell ⟨w.heap.size, 5, none⟩ (.int .i64 0)) = WF at *
        obtain ⟨o0, o1, o2, o3, o4, o5⟩ := box35 BF.out
        obtain rfl : res = (0, 0, 0, 0, 0, 0, 10) := by rw [HR.out]; unfold ofB; rw [if_neg (fun h => by cases h), if_neg (fun h => h K1.out), if_neg (fun h => by cases h), if_neg (fun h => h K2.out), if_neg K3.out, if_pos (by have h := HX.out.1; simpa using h.symm)]; try rfl
        exact bodyPost_ret (v := .tuple #[.agg #[.int .i64 0, .int .i64 0, .int .i64 0, .int .i64 0, .int .i64 0, .int .i64 0], .int .i64 10]) (by simp [results, Try.results46, go_sem, o0, o1, o2, o3, o4, o5]) rfl ⟨rfl, LF.out⟩
      clear z0 z1 z2 z3 z4 z5 y0 y1 y2 y3 y4 y5
      have K4 := Aside0.mk (show ¬ (b4 = true ∧ x4.f0 ≠ 7) by intro h; have h2 := HX.out.1; simp [h.1, h.2] at h2)
      have RR := Aside0.mk HX.out.2
      clear HX
      go_wp2_with fail
      obtain ⟨⟨q0, q1, q2⟩, ⟨q3, q4, q5⟩, ⟨q6, q7, q8⟩, ⟨q9, q10, q11⟩, ⟨q12, q13, q14⟩⟩ := box15 BR.out
      rw [rounds_succ]
      go_wp2_with fail
      refine Calls.mono (G5.out _ (below_alloc HB.out (.cells #[.string ⟨#[83, 105, 122, 101]⟩, .bool true, .func (Fn.func 110) #[.pointer (some ⟨w.heap.size + 1, 0, none⟩)] #[]] 152))) ?_
      rintro e W5 ⟨v4, v5, rfl, r4, r5, hb⟩
      obtain ⟨a4, n4, hv4⟩ := Kd.R_slice r4
      obtain ⟨a5, n5, hv5⟩ := Kd.R_slice r5
      subst hv4
      subst hv5
      have BQ2 := Aside0.mk (blk_below (blk_new wc4 (.cells #[.string ⟨#[83, 105, 122, 101]⟩, .bool true, .func (Fn.func 110) #[.pointer (some ⟨w.heap.size + 1, 0, none⟩)] #[]] 152)) hb)
      have BZ2 := Aside0.mk (blk_below (blk_alloc BZ.out (.cells #[.string ⟨#[83, 105, 122, 101]⟩, .bool true, .func (Fn.func 110) #[.pointer (some ⟨w.heap.size + 1, 0, none⟩)] #[]] 152)) hb)
      have BT2 := Aside0.mk (blk_below (blk_alloc BT.out (.cells #[.string ⟨#[83, 105, 122, 101]⟩, .bool true, .func (Fn.func 110) #[.pointer (some ⟨w.heap.size + 1, 0, none⟩)] #[]] 152)) hb)
      have BR2 := Aside0.mk (blk_below (blk_alloc BR.out (.cells #[.string ⟨#[83, 105, 122, 101]⟩, .bool true, .func (Fn.func 110) #[.pointer (some ⟨w.heap.size + 1, 0, none⟩)] #[]] 152)) hb)
      have HB2 := Aside0.mk (below_step (below_alloc HB.out (.cells #[.string ⟨#[83, 105, 122, 101]⟩, .bool true, .func (Fn.func 110) #[.pointer (some ⟨w.heap.size + 1, 0, none⟩)] #[]] 152)) hb)
      have hz : wc4.heap.size < W5.heap.size := by have h := hb.size; rw [World.size_alloc] at h; omega
      have hz0 : w.heap.size < W5.heap.size := by omega
      have hz1 : w.heap.size + 1 < W5.heap.size := by omega
      have hz2 : w.heap.size + 1 + 1 < W5.heap.size := by omega
      clear r4 r5 hb BZ BT BR HB hs0 hs1 hs2 q0 q1 q2 q3 q4 q5 q6 q7 q8 q9 q10 q11 q12 q13 q14
      obtain ⟨p0, p1, p2⟩ := box3 BQ2.out
      obtain ⟨z0, z1, z2, z3, z4, z5⟩ := box35 BZ2.out
      have y0 := frz BZ2.out (n := 0)
      have y1 := frz BZ2.out (n := 1)
      have y2 := frz BZ2.out (n := 2)
      have y3 := frz BZ2.out (n := 3)
      have y4 := frz BZ2.out (n := 4)
      have y5 := frz BZ2.out (n := 5)
      cases b5
      · go_wp2
        have BF := Aside0.mk (blk_alloc (six_set (c0 := .int .i64 0) (c1 := .int .i64 0) (c2 := .int .i64 0) (c3 := .int .i64 0) (c4 := .int .i64 0) (c5 := .int .i64 0) BZ2.out) (.cells #[.int .i64 x5.f0, .int .i64 x5.f1, .int .i64 x5.f2, .string x5.f3, .slice a4 x5.f4.length n4, .slice a5 x5.f5.length n5] 35))
        have LF := Aside0.mk (below_alloc (RowKit.Below.setCell (RowKit.Below.setCell (RowKit.Below.setCell (RowKit.Below.setCell (RowKit.Below.setCell (RowKit.Below.setCell (HB2.out) (p := ⟨w.heap.size, 0, none⟩) (Nat.le_refl _) (.int .i64 0)) (p := ⟨w.heap.size, 1, none⟩) (Nat.le_refl _) (.int .i64 0)) (p := ⟨w.heap.size, 2, none⟩) (Nat.le_refl _) (.int .i64 0)) (p := ⟨w.heap.size, 3, none⟩) (Nat.le_refl _) (.int .i64 0)) (p := ⟨w.heap.size, 4, none⟩) (Nat.le_refl _) (.int .i64 0)) (p := ⟨w.heap.size, 5, none⟩) (Nat.le_refl _) (.int .i64 0)) (.cells #[.int .i64 x5.f0, .int .i64 x5.f1, .int .i64 x5.f2, .string x5.f3, .slice a4 x5.f4.length n4, .slice a5 x5.f5.length n5] 35))
        generalize (((((((W5.setCell ⟨w.heap.size, 0, none⟩ (.int .i64 0)).setCell ⟨w.heap.size, 1, none⟩ (.int .i64 0)).setCell ⟨w.heap.size, 2, none⟩ (.int .i64 0)).setCell ⟨w.heap.size, 3, none⟩ (.int .i64 0)).setCell ⟨w.heap.size, 4, none⟩ (.int .i64 0)).setCell ⟨w.heap.size, 5, none⟩ (.int .i64 0))).alloc (.cells #[.int .i64 x5.f0, .int .i64 x5.f1, .int .i64 x5.f2, .string x5.f3, .slice a4 x5.f4.length n4, .slice a5 x5.f5.length n5] 35) = WF at *
        obtain ⟨o0, o1, o2, o3, o4, o5⟩ := box35 BF.out
        obtain rfl : res = (0, 0, 0, 0, 0, 0, 11) := by rw [HR.out]; unfold ofB; rw [if_neg (fun h => by cases h), if_neg (fun h => h K1.out), if_neg (fun h => by cases h), if_neg (fun h => h K2.out), if_neg K3.out, if_neg K4.out, if_pos rfl]; try rfl
        exact bodyPost_ret (v := .tuple #[.agg #[.int .i64 0, .int .i64 0, .int .i64 0, .int .i64 0, .int .i64 0, .int .i64 0], .int .i64 11]) (by simp [results, Try.results46, go_sem, o0, o1, o2, o3, o4, o5]) rfl ⟨rfl, LF.out⟩
      go_wp2_with fail
      obtain ⟨kb, hkb⟩ : ∃ kb, kb = (x5.f0 == 2) := ⟨_, rfl⟩
      have S := size_calls x5 a4 n4 a5 n5 (w.heap.size + 1) (0) (p) (r1) (r2) (x2.f1) (cr) (u) _ (blk_alloc BT2.out (.cells #[.int .i64 x5.f0, .int .i64 x5.f1, .int .i64 x5.f2, .string x5.f3, .slice a4 x5.f4.length n4, .slice a5 x5.f5.length n5] 35))
      rw [← hkb] at S
      refine Calls.mono S ?_
      rintro e V5 ⟨rfl, hT, hCg⟩
      have hy : W5.heap.size < V5.heap.size := by have h := hCg.2.1; rw [World.size_alloc] at h; omega
      have hs0 : w.heap.size < V5.heap.size := by omega
      have hs1 : w.heap.size + 1 < V5.heap.size := by omega
      have hs2 : w.heap.size + 1 + 1 < V5.heap.size := by omega
      have BT := Aside0.mk hT
      have BZ := Aside0.mk ((hCg.2.2 w.heap.size (by rw [World.size_alloc]; omega) (by omega)).trans (blk_alloc BZ2.out (.cells #[.int .i64 x5.f0, .int .i64 x5.f1, .int .i64 x5.f2, .string x5.f3, .slice a4 x5.f4.length n4, .slice a5 x5.f5.length n5] 35)))
      have BR := Aside0.mk ((hCg.2.2 (w.heap.size + 1 + 1) (by rw [World.size_alloc]; omega) (by omega)).trans (blk_alloc BR2.out (.cells #[.int .i64 x5.f0, .int .i64 x5.f1, .int .i64 x5.f2, .string x5.f3, .slice a4 x5.f4.length n4, .slice a5 x5.f5.length n5] 35)))
      have HB := Aside0.mk ((below_alloc HB2.out (.cells #[.int .i64 x5.f0, .int .i64 x5.f1, .int .i64 x5.f2, .string x5.f3, .slice a4 x5.f4.length n4, .slice a5 x5.f5.length n5] 35)).trans (hCg.1 w.heap.size (by omega) (by rw [World.size_alloc]; omega)))
      have HK := Aside0.mk hkb
      clear S hT hCg hkb BT2 BZ2 BR2 HB2 BQ2 hz hz0 hz1 hz2 p0 p1 p2 z0 z1 z2 z3 z4 z5 y0 y1 y2 y3 y4 y5
      obtain ⟨z0, z1, z2, z3, z4, z5⟩ := box35 BZ.out
      have y0 := frz BZ.out (n := 0)
      have y1 := frz BZ.out (n := 1)
      have y2 := frz BZ.out (n := 2)
      have y3 := frz BZ.out (n := 3)
      have y4 := frz BZ.out (n := 4)
      have y5 := frz BZ.out (n := 5)
      cases kb
      · go_wp2
        have BF := Aside0.mk (six_set (c0 := .int .i64 0) (c1 := .int .i64 0) (c2 := .int .i64 0) (c3 := .int .i64 0) (c4 := .int .i64 0) (c5 := .int .i64 0) BZ.out)
        have LF := Aside0.mk (RowKit.Below.setCell (RowKit.Below.setCell (RowKit.Below.setCell (RowKit.Below.setCell (RowKit.Below.setCell (RowKit.Below.setCell (HB.out) (p := ⟨w.heap.size, 0, none⟩) (Nat.le_refl _) (.int .i64 0)) (p := ⟨w.heap.size, 1, none⟩) (Nat.le_refl _) (.int .i64 0)) (p := ⟨w.heap.size, 2, none⟩) (Nat.le_refl _) (.int .i64 0)) (p := ⟨w.heap.size, 3, none⟩) (Nat.le_refl _) (.int .i64 0)) (p := ⟨w.heap.size, 4, none⟩) (Nat.le_refl _) (.int .i64 0)) (p := ⟨w.heap.size, 5, none⟩) (Nat.le_refl _) (.int .i64 0))
        generalize ((((((V5.setCell ⟨w.heap.size, 0, none⟩ (.int .i64 0)).setCell ⟨w.heap.size, 1, none⟩ (.int .i64 0)).setCell ⟨w.heap.size, 2, none⟩ (.int .i64 0)).setCell ⟨w.heap.size, 3, none⟩ (.int .i64 0)).setCell ⟨w.heap.size, 4, none⟩ (.int .i64 0)).setCell ⟨w.heap.size, 5, none⟩ (.int .i64 0)) = WF at *
        obtain ⟨o0, o1, o2, o3, o4, o5⟩ := box35 BF.out
        obtain rfl : res = (0, 0, 0, 0, 0, 0, 10) := by rw [HR.out]; unfold ofB; rw [if_neg (fun h => by cases h), if_neg (fun h => h K1.out), if_neg (fun h => by cases h), if_neg (fun h => h K2.out), if_neg K3.out, if_neg K4.out, if_neg (fun h => by cases h), if_pos (by intro h; have h2 := HK.out; rw [h] at h2; simp at h2)]; try rfl
        exact bodyPost_ret (v := .tuple #[.agg #[.int .i64 0, .int .i64 0, .int .i64 0, .int .i64 0, .int .i64 0, .int .i64 0], .int .i64 10]) (by simp [results, Try.results46, go_sem, o0, o1, o2, o3, o4, o5]) rfl ⟨rfl, LF.out⟩
      clear z0 z1 z2 z3 z4 z5 y0 y1 y2 y3 y4 y5
      have K5 := Aside0.mk (show x5.f0 = 2 by simpa using HK.out.symm)
      clear HK
      go_wp2_with fail
      rw [rounds_succ]
      obtain ⟨k0, k1, k2, k3, k4, k5, k6⟩ := box150 BT.out
      go_wp2_with fail
      obtain ⟨ce, hce⟩ : ∃ ce, ce = chkT x5.f1 p r1 r2 x2.f1 cr := ⟨_, rfl⟩
      have S := HC.out x5.f1 p r1 r2 x2.f1 cr V5
      rw [← hce] at S
      refine Calls.mono S ?_
      rintro e V6 ⟨rfl, hb⟩
      have hv : V5.heap.size ≤ V6.heap.size := hb.size
      have hv0 : w.heap.size < V6.heap.size := by omega
      have hv1 : w.heap.size + 1 < V6.heap.size := by omega
      have BT6 := Aside0.mk (blk_below BT.out hb)
      have BZ6 := Aside0.mk (blk_below BZ.out hb)
      have HB6 := Aside0.mk (HB.out.trans (hb.mono HB.out.size))
      have HCE := Aside0.mk hce
      clear S hb hce hv hs0 hs1 hs2 BT BZ BR HB k0 k1 k2 k3 k4 k5 k6
      obtain ⟨k0, k1, k2, k3, k4, k5, k6⟩ := box150 BT6.out
      obtain ⟨z0, z1, z2, z3, z4, z5⟩ := box35 BZ6.out
      have y0 := frz BZ6.out (n := 0)
      have y1 := frz BZ6.out (n := 1)
      have y2 := frz BZ6.out (n := 2)
      have y3 := frz BZ6.out (n := 3)
      have y4 := frz BZ6.out (n := 4)
      have y5 := frz BZ6.out (n := 5)
      by_cases hc0 : ce = 0
      · subst hc0
        cases u
        · go_wp2
          have BF := Aside0.mk (six_set (c0 := .int .i64 x5.f1) (c1 := .int .i64 p) (c2 := .int .i64 r1) (c3 := .int .i64 r2) (c4 := .int .i64 x2.f1) (c5 := .int .i64 cr) BZ6.out)
          have LF := Aside0.mk (RowKit.Below.setCell (RowKit.Below.setCell (RowKit.Below.setCell (RowKit.Below.setCell (RowKit.Below.setCell (RowKit.Below.setCell (HB6.out) (p := ⟨w.heap.size, 0, none⟩) (Nat.le_refl _) (.int .i64 x5.f1)) (p := ⟨w.heap.size, 1, none⟩) (Nat.le_refl _) (.int .i64 p)) (p := ⟨w.heap.size, 2, none⟩) (Nat.le_refl _) (.int .i64 r1)) (p := ⟨w.heap.size, 3, none⟩) (Nat.le_refl _) (.int .i64 r2)) (p := ⟨w.heap.size, 4, none⟩) (Nat.le_refl _) (.int .i64 x2.f1)) (p := ⟨w.heap.size, 5, none⟩) (Nat.le_refl _) (.int .i64 cr))
          generalize ((((((V6.setCell ⟨w.heap.size, 0, none⟩ (.int .i64 x5.f1)).setCell ⟨w.heap.size, 1, none⟩ (.int .i64 p)).setCell ⟨w.heap.size, 2, none⟩ (.int .i64 r1)).setCell ⟨w.heap.size, 3, none⟩ (.int .i64 r2)).setCell ⟨w.heap.size, 4, none⟩ (.int .i64 x2.f1)).setCell ⟨w.heap.size, 5, none⟩ (.int .i64 cr)) = WF at *
          obtain ⟨o0, o1, o2, o3, o4, o5⟩ := box35 BF.out
          obtain rfl : res = (x5.f1, p, r1, r2, x2.f1, cr, 0) := by rw [HR.out]; unfold ofB; rw [← PU.out.1, ← RR.out.1, ← RR.out.2, ← C1.out, ← HCE.out]; have hc0 : (0 : Int) = 0 := rfl; have hn10 := of_decide_eq_false PU.out.2.symm; rw [if_neg (fun h => by cases h), if_neg (fun h => h K1.out), if_neg (fun h => by cases h), if_neg (fun h => h K2.out), if_neg K3.out, if_neg K4.out, if_neg (fun h => by cases h), if_neg (fun h => h K5.out), if_neg (fun h => h hc0), if_neg (fun h => hn10 h)]
          exact bodyPost_ret (v := .tuple #[.agg #[.int .i64 x5.f1, .int .i64 p, .int .i64 r1, .int .i64 r2, .int .i64 x2.f1, .int .i64 cr], .int .i64 0]) (by simp [results, Try.results46, go_sem, o0, o1, o2, o3, o4, o5]) rfl ⟨rfl, LF.out⟩
        · go_wp2
          have BF := Aside0.mk (six_set (c0 := .int .i64 0) (c1 := .int .i64 0) (c2 := .int .i64 0) (c3 := .int .i64 0) (c4 := .int .i64 0) (c5 := .int .i64 0) BZ6.out)
          have LF := Aside0.mk (RowKit.Below.setCell (RowKit.Below.setCell (RowKit.Below.setCell (RowKit.Below.setCell (RowKit.Below.setCell (RowKit.Below.setCell (HB6.out) (p := ⟨w.heap.size, 0, none⟩) (Nat.le_refl _) (.int .i64 0)) (p := ⟨w.heap.size, 1, none⟩) (Nat.le_refl _) (.int .i64 0)) (p := ⟨w.heap.size, 2, none⟩) (Nat.le_refl _) (.int .i64 0)) (p := ⟨w.heap.size, 3, none⟩) (Nat.le_refl _) (.int .i64 0)) (p := ⟨w.heap.size, 4, none⟩) (Nat.le_refl _) (.int .i64 0)) (p := ⟨w.heap.size, 5, none⟩) (Nat.le_refl _) (.int .i64 0))
          generalize ((((((V6.setCell ⟨w.heap.size, 0, none⟩ (.int .i64 0)).setCell ⟨w.heap.size, 1, none⟩ (.int .i64 0)).setCell ⟨w.heap.size, 2, none⟩ (.int .i64 0)).setCell ⟨w.heap.size, 3, none⟩ (.int .i64 0)).setCell ⟨w.heap.size, 4, none⟩ (.int .i64 0)).setCell ⟨w.heap.size, 5, none⟩ (.int .i64 0)) = WF at *
          obtain ⟨o0, o1, o2, o3, o4, o5⟩ := box35 BF.out
          obtain rfl : res = (0, 0, 0, 0, 0, 0, 3) := by rw [HR.out]; unfold ofB; rw [← PU.out.1, ← RR.out.1, ← RR.out.2, ← C1.out, ← HCE.out]; have hc0 : (0 : Int) = 0 := rfl; rw [if_neg (fun h => by cases h), if_neg (fun h => h K1.out), if_neg (fun h => by cases h), if_neg (fun h => h K2.out), if_neg K3.out, if_neg K4.out, if_neg (fun h => by cases h), if_neg (fun h => h K5.out), if_neg (fun h => h hc0), if_pos (of_decide_eq_true PU.out.2.symm)]; rfl
          exact bodyPost_ret (v := .tuple #[.agg #[.int .i64 0, .int .i64 0, .int .i64 0, .int .i64 0, .int .i64 0, .int .i64 0], .int .i64 3]) (by simp [results, Try.results46, go_sem, o0, o1, o2, o3, o4, o5]) rfl ⟨rfl, LF.out⟩
      · go_wp2
        have BF := Aside0.mk (six_set (c0 := .int .i64 0) (c1 := .int .i64 0) (c2 := .int .i64 0) (c3 := .int .i64 0) (c4 := .int .i64 0) (c5 := .int .i64 0) BZ6.out)
        have LF := Aside0.mk (RowKit.Below.setCell (RowKit.Below.setCell (RowKit.Below.setCell (RowKit.Below.setCell (RowKit.Below.setCell (RowKit.Below.setCell (HB6.out) (p := ⟨w.heap.size, 0, none⟩) (Nat.le_refl _) (.int .i64 0)) (p := ⟨w.heap.size, 1, none⟩) (Nat.le_refl _) (.int .i64 0)) (p := ⟨w.heap.size, 2, none⟩) (Nat.le_refl _) (.int .i64 0)) (p := ⟨w.heap.size, 3, none⟩) (Nat.le_refl _) (.int .i64 0)) (p := ⟨w.heap.size, 4, none⟩) (Nat.le_refl _) (.int .i64 0)) (p := ⟨w.heap.size, 5, none⟩) (Nat.le_refl _) (.int .i64 0))
        generalize ((((((V6.setCell ⟨w.heap.size, 0, none⟩ (.int .i64 0)).setCell ⟨w.heap.size, 1, none⟩ (.int .i64 0)).setCell ⟨w.heap.size, 2, none⟩ (.int .i64 0)).setCell ⟨w.heap.size, 3, none⟩ (.int .i64 0)).setCell ⟨w.heap.size, 4, none⟩ (.int .i64 0)).setCell ⟨w.heap.size, 5, none⟩ (.int .i64 0)) = WF at *
        obtain ⟨o0, o1, o2, o3, o4, o5⟩ := box35 BF.out
        obtain rfl : res = (0, 0, 0, 0, 0, 0, ce) := by rw [HR.out]; unfold ofB; rw [← PU.out.1, ← RR.out.1, ← RR.out.2, ← C1.out, ← HCE.out]; rw [if_neg (fun h => by cases h), if_neg (fun h => h K1.out), if_neg (fun h => by cases h), if_neg (fun h => h K2.out), if_neg K3.out, if_neg K4.out, if_neg (fun h => by cases h), if_neg (fun h => h K5.out), if_pos hc0]; rfl
        exact bodyPost_ret (v := .tuple #[.agg #[.int .i64 0, .int .i64 0, .int .i64 0, .int .i64 0, .int .i64 0, .int .i64 0], .int .i64 ce]) (by simp [results, Try.results46, go_sem, o0, o1, o2, o3, o4, o5]) rfl ⟨rfl, LF.out⟩
end Go.Proofs.Ytogpnkkoablmiaa.V
