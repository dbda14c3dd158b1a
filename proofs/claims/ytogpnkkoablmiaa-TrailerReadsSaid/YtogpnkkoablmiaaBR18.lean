/- Parts of the proof: what the theorem reaches, put together by a program of this session. -/
import Derived.ArgAppend
import Derived.Below
import Derived.BigGuardPart
import Derived.BigQuiet
import Derived.BigRegion
import Derived.Deep.AppendLies
import Derived.Deep.CutBlock
import Derived.Deep.DeepCutAuto
import Derived.Deep.Draws
import Derived.Deep.LoopGhost
import Derived.Deep.OwnRows
import Derived.Deep.QuietTactic
import Derived.Deep.RegionHeld3
import Derived.Deep.RegionLaw
import Derived.KernelRfl
import Derived.Laws.BitsLemmas
import Derived.Laws.BytesArg
import Derived.Laws.EntriesVeiled
import Derived.Laws.IdiomCopy
import Derived.Laws.MakeOwn
import Derived.Laws.OwnMore
import Derived.Laws.Rows
import Derived.Laws.Slices
import Derived.Laws.StructEq
import Derived.Lib.AppendIntMem
import Derived.Lib.AppendStr
import Derived.Lib.Bytealg
import Derived.Lib.ConvBytes
import Derived.Lib.Hide
import Derived.Lib.OwnBridge
import Derived.Lib.SliceRun
import Derived.Maps.AppendAt
import Derived.Maps.OwnOps
import Derived.Maps.Views
import Derived.OrdersHeld
import Derived.Outline
import Derived.OwnWalk
import Derived.RowKit
import Derived.RowKit3
import Derived.Shelf.SlSortCmp.KitK
import Derived.Shelf.Spec.SlicesInsertGrow
import Derived.Sort.LotA
import Derived.Sort.WalkB12
import Derived.Sort.WalkB2
import Derived.Tactics
import Derived.Test.YtogpnkkoablmiaaProg
import Derived.WalkKit
import Derived.WalkLawsBesides
import Derived.WideLaws
import Derived.Test.YtogpnkkoablmiaaBR1
import Derived.Test.YtogpnkkoablmiaaBR2
import Derived.Test.YtogpnkkoablmiaaBR3
import Derived.Test.YtogpnkkoablmiaaBR4
import Derived.Test.YtogpnkkoablmiaaBR5
import Derived.Test.YtogpnkkoablmiaaBR6
import Derived.Test.YtogpnkkoablmiaaBR7
import Derived.Test.YtogpnkkoablmiaaBR9
import Derived.Test.YtogpnkkoablmiaaBR10
import Derived.Test.YtogpnkkoablmiaaBR11
import Derived.Test.YtogpnkkoablmiaaBR12
import Derived.Test.YtogpnkkoablmiaaBR13
import Derived.Test.YtogpnkkoablmiaaBR14
import Derived.Test.YtogpnkkoablmiaaBR15
import Derived.Test.YtogpnkkoablmiaaBR16
import Derived.Test.YtogpnkkoablmiaaBR17
section
namespace Go.Proofs.Ytogpnkkoablmiaa.V
open Go.Shelf Go.RowKit Go.Lib Go.Sort Go.Proofs.Ytogpnkkoablmiaa.R Go.Proofs.Ytogpnkkoablmiaa.Q Go.Proofs.YtogpnkkoablmiaaW.PrintWords Go.Proofs.YtogpnkkoablmiaaW.PrintLast Go.Proofs.YtogpnkkoablmiaaW.PrintMore
set_option linter.unusedVariables false
set_option linter.unusedSimpArgs false
def ex0 : List S89 := [⟨⟨#[67, 114, 99]⟩, ⟨4, 0, 0, ⟨#[0, 0, 0, 1]⟩, [], []⟩⟩, ⟨⟨#[76, 101, 110]⟩, ⟨2, 9, 0, ⟨#[]⟩, [], []⟩⟩, ⟨⟨#[83, 105, 122, 101]⟩, ⟨2, 3, 0, ⟨#[]⟩, [], []⟩⟩]
def ex1 : List S89 := [⟨⟨#[76, 101, 110]⟩, ⟨2, 9, 0, ⟨#[]⟩, [], []⟩⟩, ⟨⟨#[83, 105, 122, 101]⟩, ⟨2, 3, 0, ⟨#[]⟩, [], []⟩⟩]
theorem ex_few : fewV ⟨6, 0, 0, ⟨#[]⟩, [], ex0⟩ := by simp [ex0, fewV, fewL, fewD, fewP]
theorem ex_few0 : fewV ⟨6, 0, 0, ⟨#[]⟩, [], []⟩ := by simp [fewV, fewL, fewD]
theorem ex_of : ofS ex0 = (3, -1, 0, 0, 9, 1, 0) := by kernel_rfl
theorem ex_of0 : ofS [] = (0, 0, 0, 0, 0, 0, 11) := by kernel_rfl
theorem ex_bare : bareD ex0 = ex1 := by kernel_rfl
theorem ex_pairs : R.trailer_Pairs.f 1 3 (-1) 0 0 9 1 = some (ex0, 0) := by kernel_rfl
theorem ex_Of : R.trailer_Of.f ex0 = some (3, -1, 0, 0, 9, 1, 0) := by unfold R.trailer_Of.f; rw [if_pos ex_few, ex_of]
theorem ex_Of0 : R.trailer_Of.f [] = some (0, 0, 0, 0, 0, 0, 11) := by unfold R.trailer_Of.f; rw [if_pos ex_few0, ex_of0]
theorem ex_Bare : R.trailer_Bare.f ex0 = some ex1 := by unfold R.trailer_Bare.f; rw [if_pos ex_few, ex_bare]
theorem ex_same (l : List S89) : R.binderylaw23_Pairs.f l l = some true := by unfold R.binderylaw23_Pairs.f R.binderyref16_Equal.f; rw [eqB_true rfl]; rfl
theorem ex_chk : trailer_Check.f 1 0 0 0 0 0 0 = some 3 := by rw [chk_f]; rfl
def lit0 : List Value := [.string ⟨#[67, 114, 99]⟩, .int .i64 4, .int .i64 0, .int .i64 0, .string ⟨#[0, 0, 0, 1]⟩, .slice none 0 0, .slice none 0 0, .string ⟨#[76, 101, 110]⟩, .int .i64 2, .int .i64 9, .int .i64 0, .string ⟨#[]⟩, .slice none 0 0, .slice none 0 0, .string ⟨#[83, 105, 122, 101]⟩, .int .i64 2, .int .i64 3, .int .i64 0, .string ⟨#[]⟩, .slice none 0 0, .slice none 0 0]
theorem C_lit (W : World) (e : TypeId) : k89.C (W.alloc (.cells lit0.toArray e)) (some ⟨W.heap.size, 0, none⟩) 3 ex0 := by
  have h4 : ∀ w : World, k35.C w none ([] : List S35).length [] := fun w => ⟨rfl, by simp, fun h => absurd h (by simp)⟩
  have h5 : ∀ w : World, k89.C w none ([] : List S89).length [] := fun w => ⟨rfl, by simp, fun h => absurd h (by simp)⟩
  refine ⟨rfl, by simp [ex0], fun _ => ⟨_, rfl, fun j p hj => ?_⟩⟩
  have hc : ∀ o u, lit0[o]? = some u → (W.alloc (.cells lit0.toArray e)).cell? ⟨W.heap.size, o, none⟩ = some u := fun o u h => by rw [World.cell?_alloc_new]; simpa using h
  match j, hj with
  | 0, hj =>
    obtain rfl : _ = p := Option.some.inj hj
    refine ⟨_, rfl, k89_mk _ _ (c5 := 0) (Nat.le_refl _) (h4 _) (c6 := 0) (Nat.le_refl _) (h5 _), fun i u hi => ?_⟩
    rw [Addr.add_lit]
    match i, hi with
    | 0, hi => exact hc 0 u hi
    | 1, hi => exact hc 1 u hi
    | 2, hi => exact hc 2 u hi
    | 3, hi => exact hc 3 u hi
    | 4, hi => exact hc 4 u hi
    | 5, hi => exact hc 5 u hi
    | 6, hi => exact hc 6 u hi
  | 1, hj =>
    obtain rfl : _ = p := Option.some.inj hj
    refine ⟨_, rfl, k89_mk _ _ (c5 := 0) (Nat.le_refl _) (h4 _) (c6 := 0) (Nat.le_refl _) (h5 _), fun i u hi => ?_⟩
    rw [Addr.add_lit]
    match i, hi with
    | 0, hi => exact hc 7 u hi
    | 1, hi => exact hc 8 u hi
    | 2, hi => exact hc 9 u hi
    | 3, hi => exact hc 10 u hi
    | 4, hi => exact hc 11 u hi
    | 5, hi => exact hc 12 u hi
    | 6, hi => exact hc 13 u hi
  | 2, hj =>
    obtain rfl : _ = p := Option.some.inj hj
    refine ⟨_, rfl, k89_mk _ _ (c5 := 0) (Nat.le_refl _) (h4 _) (c6 := 0) (Nat.le_refl _) (h5 _), fun i u hi => ?_⟩
    rw [Addr.add_lit]
    match i, hi with
    | 0, hi => exact hc 14 u hi
    | 1, hi => exact hc 15 u hi
    | 2, hi => exact hc 16 u hi
    | 3, hi => exact hc 17 u hi
    | 4, hi => exact hc 18 u hi
    | 5, hi => exact hc 19 u hi
    | 6, hi => exact hc 20 u hi
set_option maxHeartbeats 8000000 in
set_option maxRecDepth 100000 in
theorem trailers_calls (w : World) : Calls Try.prog 44 #[] w fun e w' => e = .returned (.bool true) ∧ RowKit.Below w.heap.size w w' := by
  have hu35 := Try.underlying35
  have hu33 := Try.underlying33
  have hu72 := Try.underlying72
  have hu28 := Try.underlying28
  go_enter Try.func44, Try.ntmps44
  go_wp2_with fail
  refine Calls.mono (R.trailer_Pairs.calls 1 3 (-1) 0 0 9 1 ex0 0 _ ex_pairs) ?_
  rintro e w1 ⟨v0, rfl, hN, hb⟩
  obtain ⟨A, c, hv, hl, hC⟩ := Kd.N_reads hN
  have hl3 : ex0.length = 3 := rfl
  rw [hl3] at hv hl hC
  subst hv
  have B1 := Aside0.mk (blk_below (blk_new w (.cells #[.int .i64 3, .int .i64 (-1), .int .i64 0, .int .i64 0, .int .i64 9, .int .i64 1] 72)) hb)
  have HB1 := Aside0.mk (below_step (below_alloc (RowKit.Below.refl w.heap.size w) (.cells #[.int .i64 3, .int .i64 (-1), .int .i64 0, .int .i64 0, .int .i64 9, .int .i64 1] 72)) hb)
  have C1 := Aside0.mk hC
  have L1 := Aside0.mk hl
  have s1 : w.heap.size < w1.heap.size := by have h := hb.size; rw [World.size_alloc] at h; omega
  clear hN hb hC hl hl3
  go_wp2_with fail
  refine Calls.mono (R.trailer_Of.calls A c ex0 3 (-1) 0 0 9 1 0 _ C1.out L1.out ex_Of) ?_
  rintro e w2 ⟨rfl, hb⟩
  have B2 := Aside0.mk (blk_below B1.out hb)
  have HB2 := Aside0.mk (HB1.out.trans (hb.mono HB1.out.size))
  have C2 := Aside0.mk (Kd.C_below C1.out hb)
  have s2 : w.heap.size < w2.heap.size := by have h := hb.size; omega
  clear hb B1 HB1 C1 s1
  go_wp2_with fail
  refine Calls.mono (R.trailer_Of.calls none 0 [] 0 0 0 0 0 0 11 _ ⟨rfl, by simp, fun h => absurd h (by simp)⟩ (Nat.le_refl _) ex_Of0) ?_
  rintro e w3 ⟨rfl, hb⟩
  have B3 := Aside0.mk (blk_below (blk_alloc B2.out (.cells #[.int .i64 3, .int .i64 (-1), .int .i64 0, .int .i64 0, .int .i64 9, .int .i64 1] 72)) hb)
  have D3 := Aside0.mk (blk_below (blk_new w2 (.cells #[.int .i64 3, .int .i64 (-1), .int .i64 0, .int .i64 0, .int .i64 9, .int .i64 1] 72)) hb)
  have HB3 := Aside0.mk (below_step (below_alloc HB2.out (.cells #[.int .i64 3, .int .i64 (-1), .int .i64 0, .int .i64 0, .int .i64 9, .int .i64 1] 72)) hb)
  have C3 := Aside0.mk (Kd.C_below (Kd.C_alloc C2.out (.cells #[.int .i64 3, .int .i64 (-1), .int .i64 0, .int .i64 0, .int .i64 9, .int .i64 1] 72)) hb)
  have s3 : w2.heap.size < w3.heap.size := by have h := hb.size; rw [World.size_alloc] at h; omega
  have s3b : w.heap.size < w3.heap.size := by omega
  clear hb B2 HB2 C2
  go_upto_region 6 with fail
  have B4 := Aside0.mk (blk_alloc (blk_alloc B3.out (.cells #[.int .i64 0, .int .i64 0, .int .i64 0, .int .i64 0, .int .i64 0, .int .i64 0] 72)) (.cells #[.string ⟨#[67, 114, 99]⟩, .int .i64 4, .int .i64 0, .int .i64 0, .string ⟨#[0, 0, 0, 1]⟩, .slice none 0 0, .slice none 0 0, .string ⟨#[76, 101, 110]⟩, .int .i64 2, .int .i64 9, .int .i64 0, .string ⟨#[]⟩, .slice none 0 0, .slice none 0 0, .string ⟨#[83, 105, 122, 101]⟩, .int .i64 2, .int .i64 3, .int .i64 0, .string ⟨#[]⟩, .slice none 0 0, .slice none 0 0] 89))
  have D4 := Aside0.mk (blk_alloc (blk_alloc D3.out (.cells #[.int .i64 0, .int .i64 0, .int .i64 0, .int .i64 0, .int .i64 0, .int .i64 0] 72)) (.cells #[.string ⟨#[67, 114, 99]⟩, .int .i64 4, .int .i64 0, .int .i64 0, .string ⟨#[0, 0, 0, 1]⟩, .slice none 0 0, .slice none 0 0, .string ⟨#[76, 101, 110]⟩, .int .i64 2, .int .i64 9, .int .i64 0, .string ⟨#[]⟩, .slice none 0 0, .slice none 0 0, .string ⟨#[83, 105, 122, 101]⟩, .int .i64 2, .int .i64 3, .int .i64 0, .string ⟨#[]⟩, .slice none 0 0, .slice none 0 0] 89))
  have C4 := Aside0.mk (Kd.C_alloc (Kd.C_alloc C3.out (.cells #[.int .i64 0, .int .i64 0, .int .i64 0, .int .i64 0, .int .i64 0, .int .i64 0] 72)) (.cells #[.string ⟨#[67, 114, 99]⟩, .int .i64 4, .int .i64 0, .int .i64 0, .string ⟨#[0, 0, 0, 1]⟩, .slice none 0 0, .slice none 0 0, .string ⟨#[76, 101, 110]⟩, .int .i64 2, .int .i64 9, .int .i64 0, .string ⟨#[]⟩, .slice none 0 0, .slice none 0 0, .string ⟨#[83, 105, 122, 101]⟩, .int .i64 2, .int .i64 3, .int .i64 0, .string ⟨#[]⟩, .slice none 0 0, .slice none 0 0] 89))
  have W4 := Aside0.mk (C_lit (w3.alloc (.cells #[.int .i64 0, .int .i64 0, .int .i64 0, .int .i64 0, .int .i64 0, .int .i64 0] 72)) 89)
  have HB4 := Aside0.mk (below_alloc (below_alloc HB3.out (.cells #[.int .i64 0, .int .i64 0, .int .i64 0, .int .i64 0, .int .i64 0, .int .i64 0] 72)) (.cells #[.string ⟨#[67, 114, 99]⟩, .int .i64 4, .int .i64 0, .int .i64 0, .string ⟨#[0, 0, 0, 1]⟩, .slice none 0 0, .slice none 0 0, .string ⟨#[76, 101, 110]⟩, .int .i64 2, .int .i64 9, .int .i64 0, .string ⟨#[]⟩, .slice none 0 0, .slice none 0 0, .string ⟨#[83, 105, 122, 101]⟩, .int .i64 2, .int .i64 3, .int .i64 0, .string ⟨#[]⟩, .slice none 0 0, .slice none 0 0] 89))
  change Aside0 (k89.C ((w3.alloc (.cells #[.int .i64 0, .int .i64 0, .int .i64 0, .int .i64 0, .int .i64 0, .int .i64 0] 72)).alloc (.cells #[.string ⟨#[67, 114, 99]⟩, .int .i64 4, .int .i64 0, .int .i64 0, .string ⟨#[0, 0, 0, 1]⟩, .slice none 0 0, .slice none 0 0, .string ⟨#[76, 101, 110]⟩, .int .i64 2, .int .i64 9, .int .i64 0, .string ⟨#[]⟩, .slice none 0 0, .slice none 0 0, .string ⟨#[83, 105, 122, 101]⟩, .int .i64 2, .int .i64 3, .int .i64 0, .string ⟨#[]⟩, .slice none 0 0, .slice none 0 0] 89)) (some ⟨(w3.alloc (.cells #[.int .i64 0, .int .i64 0, .int .i64 0, .int .i64 0, .int .i64 0, .int .i64 0] 72)).heap.size, 0, none⟩) 3 ex0) at W4
  rw [World.size_alloc] at W4
  have X4 : Aside0 (k89.C ((w3.alloc (.cells #[.int .i64 0, .int .i64 0, .int .i64 0, .int .i64 0, .int .i64 0, .int .i64 0] 72)).alloc (.cells #[.string ⟨#[67, 114, 99]⟩, .int .i64 4, .int .i64 0, .int .i64 0, .string ⟨#[0, 0, 0, 1]⟩, .slice none 0 0, .slice none 0 0, .string ⟨#[76, 101, 110]⟩, .int .i64 2, .int .i64 9, .int .i64 0, .string ⟨#[]⟩, .slice none 0 0, .slice none 0 0, .string ⟨#[83, 105, 122, 101]⟩, .int .i64 2, .int .i64 3, .int .i64 0, .string ⟨#[]⟩, .slice none 0 0, .slice none 0 0] 89)) (some ⟨w3.heap.size + 1, 7, none⟩) 2 ex1) := ⟨by
    have h := Kd.C_drop (m := 1) (c := 3) (show k89.C ((w3.alloc (.cells #[.int .i64 0, .int .i64 0, .int .i64 0, .int .i64 0, .int .i64 0, .int .i64 0] 72)).alloc (.cells #[.string ⟨#[67, 114, 99]⟩, .int .i64 4, .int .i64 0, .int .i64 0, .string ⟨#[0, 0, 0, 1]⟩, .slice none 0 0, .slice none 0 0, .string ⟨#[76, 101, 110]⟩, .int .i64 2, .int .i64 9, .int .i64 0, .string ⟨#[]⟩, .slice none 0 0, .slice none 0 0, .string ⟨#[83, 105, 122, 101]⟩, .int .i64 2, .int .i64 3, .int .i64 0, .string ⟨#[]⟩, .slice none 0 0, .slice none 0 0] 89)) (some ⟨w3.heap.size + 1, 0, none⟩) ex0.length ex0 from W4.out) (by decide) (by decide)
    rw [if_neg (by decide)] at h
    exact h⟩
  generalize (w3.alloc (.cells #[.int .i64 0, .int .i64 0, .int .i64 0, .int .i64 0, .int .i64 0, .int .i64 0] 72)).alloc (.cells #[.string ⟨#[67, 114, 99]⟩, .int .i64 4, .int .i64 0, .int .i64 0, .string ⟨#[0, 0, 0, 1]⟩, .slice none 0 0, .slice none 0 0, .string ⟨#[76, 101, 110]⟩, .int .i64 2, .int .i64 9, .int .i64 0, .string ⟨#[]⟩, .slice none 0 0, .slice none 0 0, .string ⟨#[83, 105, 122, 101]⟩, .int .i64 2, .int .i64 3, .int .i64 0, .string ⟨#[]⟩, .slice none 0 0, .slice none 0 0] 89) = w4 at *
  clear B3 D3 C3 HB3
  have K1 := Aside0.mk (fun (W : World) (A : Option Addr) (c : Nat) (A' : Option Addr) (c' : Nat) (h1 : k89.C W A 3 ex0) (h2 : 3 ≤ c) (h3 : k89.C W A' 3 ex0) (h4 : 3 ≤ c') => (R.binderylaw23_Pairs.calls A c ex0 A' c' ex0 true W h1 h2 h3 h4 (ex_same _) : Calls Try.prog 41 #[.slice A 3 c, .slice A' 3 c'] W fun e w' => e = .returned (.bool true) ∧ RowKit.Below W.heap.size W w'))
  have K2 := Aside0.mk (fun (W : World) (A : Option Addr) (c : Nat) (A' : Option Addr) (c' : Nat) (h1 : k89.C W A 2 ex1) (h2 : 2 ≤ c) (h3 : k89.C W A' 2 ex1) (h4 : 2 ≤ c') => (R.binderylaw23_Pairs.calls A c ex1 A' c' ex1 true W h1 h2 h3 h4 (ex_same _) : Calls Try.prog 41 #[.slice A 2 c, .slice A' 2 c'] W fun e w' => e = .returned (.bool true) ∧ RowKit.Below W.heap.size W w'))
  have KB := Aside0.mk (fun (W : World) (A : Option Addr) (c : Nat) (h1 : k89.C W A 3 ex0) (h2 : 3 ≤ c) => ((R.trailer_Bare.calls A c ex0 ex1 W h1 h2 ex_Bare).mono (fun e w' ⟨v, he, hV, hb⟩ => by
    obtain ⟨a, n, hv, h3, hF⟩ := hV
    exact ⟨a, n, by rw [he, hv]; rfl, h3, Kd.F_now hF, hb⟩) : Calls Try.prog 48 #[.slice A 3 c] W fun e w' => ∃ (a : Option Addr) (n : Nat), e = .returned (.slice a 2 n) ∧ 2 ≤ n ∧ k89.C w' a 2 ex1 ∧ RowKit.Below W.heap.size W w'))
  have KC := Aside0.mk (fun (W : World) => trailer_Check.calls 1 0 0 0 0 0 0 3 W ex_chk)
  obtain ⟨b0, b1, b2, b3, b4, b5⟩ := box35 B4.out
  obtain ⟨d0, d1, d2, d3, d4, d5⟩ := box35 D4.out
  go_region_held3 (fun w' => w'.cell? ⟨w.heap.size, 0, none⟩ = some (.int .i64 3) ∧ w'.cell? ⟨w.heap.size, 1, none⟩ = some (.int .i64 (-1)) ∧ w'.cell? ⟨w.heap.size, 2, none⟩ = some (.int .i64 0) ∧ w'.cell? ⟨w.heap.size, 3, none⟩ = some (.int .i64 0) ∧ w'.cell? ⟨w.heap.size, 4, none⟩ = some (.int .i64 9) ∧ w'.cell? ⟨w.heap.size, 5, none⟩ = some (.int .i64 1) ∧ w'.cell? ⟨w2.heap.size, 0, none⟩ = some (.int .i64 3) ∧ w'.cell? ⟨w2.heap.size, 1, none⟩ = some (.int .i64 (-1)) ∧ w'.cell? ⟨w2.heap.size, 2, none⟩ = some (.int .i64 0) ∧ w'.cell? ⟨w2.heap.size, 3, none⟩ = some (.int .i64 0) ∧ w'.cell? ⟨w2.heap.size, 4, none⟩ = some (.int .i64 9) ∧ w'.cell? ⟨w2.heap.size, 5, none⟩ = some (.int .i64 1))
    (first
      | go_keep
      | (go_split_ands
         refine ⟨?_, ?_, ?_, ?_, ?_, ?_, ?_, ?_, ?_, ?_, ?_, ?_⟩ <;> exact (hb_.cell (World.block_lt_of_cell? _ _ (by assumption))).trans (by assumption)))
    ((first
      | (go_at_call 42; refine (KC.out _).mono ?_; rintro e w8 ⟨rfl, hb_⟩; have HB8 := Aside0.mk (below_step HB7.out hb_))
      | (go_at_call 48; refine (KB.out _ A c (by (with_reducible repeat (first | apply Kd.C_alloc | apply Kd.C_drewN | apply Kd.C_drew)); exact C5.out) L1.out).mono ?_; rintro e w6 ⟨a, n, rfl, hn, hA, hb_⟩; have HB6 := Aside0.mk (below_step HB5.out hb_); have A6 := Aside0.mk hA; have N6 := Aside0.mk hn; have X6 := Aside0.mk (Kd.C_below (by (with_reducible repeat (first | apply Kd.C_alloc | apply Kd.C_drewN | apply Kd.C_drew)); exact X5.out) hb_); clear hA hn)
      | (go_at_call 41; refine (K2.out _ _ _ _ _ (by (with_reducible repeat (first | apply Kd.C_alloc | apply Kd.C_drewN | apply Kd.C_drew)); exact A6.out) N6.out (by (with_reducible repeat (first | apply Kd.C_alloc | apply Kd.C_drewN | apply Kd.C_drew)); exact X6.out) (by decide)).mono ?_; rintro e w7 ⟨rfl, hb_⟩; have HB7 := Aside0.mk (below_step HB6.out hb_))
      | (go_at_call 41; refine (K1.out _ _ _ _ _ (by (with_reducible repeat (first | apply Kd.C_alloc | apply Kd.C_drewN | apply Kd.C_drew)); exact C4.out) L1.out (by (with_reducible repeat (first | apply Kd.C_alloc | apply Kd.C_drewN | apply Kd.C_drew)); exact W4.out) (by decide)).mono ?_; rintro e w5 ⟨rfl, hb_⟩; have HB5 := Aside0.mk (below_step (by repeat (first | exact HB4.out | apply below_drew | apply pw_below_drewN)) hb_); have C5 := Aside0.mk (Kd.C_below (by (with_reducible repeat (first | apply Kd.C_alloc | apply Kd.C_drewN | apply Kd.C_drew)); exact C4.out) hb_); have X5 := Aside0.mk (Kd.C_below (by (with_reducible repeat (first | apply Kd.C_alloc | apply Kd.C_drewN | apply Kd.C_drew)); exact X4.out) hb_))))
  all_goals
    go_wp2
    go_ret
    exact ⟨rfl, HB4.out.trans (HB8.out.mono HB4.out.size)⟩
end Go.Proofs.Ytogpnkkoablmiaa.V
end
section
namespace Go.Proofs.Ytogpnkkoablmiaa.U
open Go.RowKit Go.Proofs.Ytogpnkkoablmiaa.R Go.Proofs.Ytogpnkkoablmiaa.Q Go.Proofs.YtogpnkkoablmiaaW.PrintWords Go.Proofs.YtogpnkkoablmiaaW.PrintLast Go.Proofs.YtogpnkkoablmiaaW.PrintMore
attribute [local go_sem] max2_int min2_int max_two min_two max_three min_three max_four min_four   -- for this text's walks alone
set_option linter.unusedVariables false
set_option linter.unusedSimpArgs false
theorem eqA28 (d : Nat) (w : World) (x0 y0 : Int) (x1 y1 : Int) :
    (Op.equalIn (d + 2) 28 (.agg #[.int .i64 x0, .int .i64 x1]) (.agg #[.int .i64 y0, .int .i64 y1])).run Try.prog w = .ok (x0 == y0 && (x1 == y1)) w := by
  refine eqA_of Try.underlying28 (by kernel_rfl) ?_
  refine eqf_cons (by rfl) (by go_simp; rfl) (by go_simp; rfl) (by go_simp) ?_
  exact eqf_last (by rfl) (by go_simp; rfl) (by go_simp; rfl) (by go_simp)
theorem eqA72 (d : Nat) (w : World) (x0 y0 : Int) (x1 y1 : Int) (x2 y2 : Int) (x3 y3 : Int) (x4 y4 : Int) (x5 y5 : Int) :
    (Op.equalIn (d + 3) 72 (.agg #[.int .i64 x0, .int .i64 x1, .int .i64 x2, .int .i64 x3, .int .i64 x4, .int .i64 x5]) (.agg #[.int .i64 y0, .int .i64 y1, .int .i64 y2, .int .i64 y3, .int .i64 y4, .int .i64 y5])).run Try.prog w = .ok (x0 == y0 && (x1 == y1 && ((x2 == y2 && (x3 == y3)) && (x4 == y4 && (x5 == y5))))) w := by
  refine eqA_of Try.underlying72 (by kernel_rfl) ?_
  refine eqf_cons (by rfl) (by go_simp; rfl) (by go_simp; rfl) (by go_simp) ?_
  refine eqf_cons (by rfl) (by go_simp; rfl) (by go_simp; rfl) (by go_simp) ?_
  refine eqf_cons (by rfl) (by go_simp) (by go_simp) (eqA28 (d + 0) w _ _ _ _) ?_
  refine eqf_cons (by rfl) (by go_simp; rfl) (by go_simp; rfl) (by go_simp) ?_
  exact eqf_last (by rfl) (by go_simp; rfl) (by go_simp; rfl) (by go_simp)
end Go.Proofs.Ytogpnkkoablmiaa.U
end
section
namespace Go.Proofs.Ytogpnkkoablmiaa.U
open Go.RowKit Go.Proofs.Ytogpnkkoablmiaa.R Go.Proofs.Ytogpnkkoablmiaa.Q Go.Proofs.YtogpnkkoablmiaaW.PrintWords Go.Proofs.YtogpnkkoablmiaaW.PrintLast Go.Proofs.YtogpnkkoablmiaaW.PrintMore
attribute [local go_sem] max2_int min2_int max_two min_two max_three min_three max_four min_four   -- for this text's walks alone
set_option linter.unusedVariables false
set_option linter.unusedSimpArgs false
attribute [local go_sem high] eqA72
noncomputable def binderylaw24_trailers.f : Option (Bool) := some true
theorem binderylaw24_trailers.calls (r : Bool) (w : World) (h : binderylaw24_trailers.f = some r) :
    Calls Try.prog 44 #[] w fun e w' => e = .returned (.bool r) ∧ Below w.heap.size w w' := by
  obtain rfl := Option.some.inj h
  exact Go.Proofs.Ytogpnkkoablmiaa.V.trailers_calls w
open Classical in
noncomputable def binderyref24_Of.f (l0 : List (S89)) : Option (Int × Int × Int × Int × Int × Int × Int) := if Go.Proofs.Ytogpnkkoablmiaa.V.fewV ⟨6, 0, 0, ⟨#[]⟩, [], l0⟩ then some ((Go.Proofs.Ytogpnkkoablmiaa.V.ofS l0).1, (Go.Proofs.Ytogpnkkoablmiaa.V.ofS l0).2.1, (Go.Proofs.Ytogpnkkoablmiaa.V.ofS l0).2.2.1, (Go.Proofs.Ytogpnkkoablmiaa.V.ofS l0).2.2.2.1, (Go.Proofs.Ytogpnkkoablmiaa.V.ofS l0).2.2.2.2.1, (Go.Proofs.Ytogpnkkoablmiaa.V.ofS l0).2.2.2.2.2.1, (Go.Proofs.Ytogpnkkoablmiaa.V.ofS l0).2.2.2.2.2.2) else none
theorem binderyref24_Of.calls (A0 : Option Addr) (c0 : Nat) (l0 : List (S89)) (r1 : Int) (r2 : Int) (r3 : Int) (r4 : Int) (r5 : Int) (r6 : Int) (r7 : Int) (w : World) (hr0 : Kd.C k89 w A0 l0.length l0) (hc0 : l0.length ≤ c0) (h : binderyref24_Of.f l0 = some (r1, r2, r3, r4, r5, r6, r7)) :
    Calls Try.prog 47 #[.slice A0 l0.length c0] w fun e w' => e = .returned (.tuple #[.agg #[.int .i64 r1, .int .i64 r2, .int .i64 r3, .int .i64 r4, .int .i64 r5, .int .i64 r6], .int .i64 r7]) ∧ Below w.heap.size w w' := by
  unfold binderyref24_Of.f at h
  by_cases hc : Go.Proofs.Ytogpnkkoablmiaa.V.fewV ⟨6, 0, 0, ⟨#[]⟩, [], l0⟩
  · rw [if_pos hc] at h
    simp only [Option.some.injEq, Prod.mk.injEq] at h
    obtain ⟨rfl, rfl, rfl, rfl, rfl, rfl, rfl⟩ := h
    exact Go.Proofs.Ytogpnkkoablmiaa.V.rof_calls l0 A0 c0 w hc hc0 hr0
  · rw [if_neg hc] at h
    cases h
open Classical in
noncomputable def binderyref24_Bare.f (l0 : List (S89)) : Option (List (S89)) := if Go.Proofs.Ytogpnkkoablmiaa.V.fewV ⟨6, 0, 0, ⟨#[]⟩, [], l0⟩ ∧ Go.Proofs.Ytogpnkkoablmiaa.V.fewV ⟨6, 0, 0, ⟨#[]⟩, [], ⟨⟨#[67, 114, 99]⟩, Go.Proofs.Ytogpnkkoablmiaa.Q.z35⟩ :: l0⟩ then some (Go.Proofs.Ytogpnkkoablmiaa.V.bareD l0) else none
theorem binderyref24_Bare.calls (A0 : Option Addr) (c0 : Nat) (l0 : List (S89)) (r : List (S89)) (w : World) (hr0 : Kd.C k89 w A0 l0.length l0) (hc0 : l0.length ≤ c0) (h : binderyref24_Bare.f l0 = some r) :
    Calls Try.prog 49 #[.slice A0 l0.length c0] w fun e w' => ∃ v0_ : Value, e = .returned (v0_) ∧ Kd.R k89 89 w' w.heap.size (fun _ => True) v0_ r ∧ Below w.heap.size w w' := by
  unfold binderyref24_Bare.f at h
  by_cases hc : Go.Proofs.Ytogpnkkoablmiaa.V.fewV ⟨6, 0, 0, ⟨#[]⟩, [], l0⟩ ∧ Go.Proofs.Ytogpnkkoablmiaa.V.fewV ⟨6, 0, 0, ⟨#[]⟩, [], ⟨⟨#[67, 114, 99]⟩, Go.Proofs.Ytogpnkkoablmiaa.Q.z35⟩ :: l0⟩
  · rw [if_pos hc] at h
    simp only [Option.some.injEq, Prod.mk.injEq] at h
    obtain rfl := h
    exact Go.Proofs.Ytogpnkkoablmiaa.V.rbare_calls l0 A0 c0 w hc.1 hc.2 hc0 hr0
  · rw [if_neg hc] at h
    cases h
noncomputable def binderylaw24_TrailerReads.f (k : Nat) (l0 : List (S89)) : Option (Bool) := (binderylaw24_Small.f k l0).bind fun t130 => (if t130 = true then ((trailer_Of.f l0).bind fun bt132 => ((binderyref24_Of.f l0).bind fun bt140 => (if (bt132.1 == bt140.1 && (bt132.2.1 == bt140.2.1 && ((bt132.2.2.1 == bt140.2.2.1 && (bt132.2.2.2.1 == bt140.2.2.2.1)) && (bt132.2.2.2.2.1 == bt140.2.2.2.2.1 && (bt132.2.2.2.2.2.1 == bt140.2.2.2.2.2.1))))) = true then (if bt132.2.2.2.2.2.2 = bt140.2.2.2.2.2.2 then ((trailer_Bare.f l0).bind fun t148 => ((binderyref24_Bare.f l0).bind fun t151 => ((binderylaw23_Pairs.f t148 t151).bind fun t154 => (if t154 = true then ((binderylaw24_trailers.f).bind fun t155 => (some t155)) else (none))))) else (none)) else (none)))) else ((binderylaw24_trailers.f).bind fun t131 => (some t131)))
set_option maxHeartbeats 8000000 in
set_option maxRecDepth 100000 in
theorem binderylaw24_TrailerReads.calls (k : Nat) (A0 : Option Addr) (c0 : Nat) (l0 : List (S89)) (r : Bool) (w : World) (hr0 : Kd.C k89 w A0 l0.length l0) (hc0 : l0.length ≤ c0) (h : binderylaw24_TrailerReads.f k l0 = some r) :
    Calls Try.prog 7 #[.slice A0 l0.length c0] w fun e w' => e = .returned (.bool r) ∧ Below w.heap.size w w' := by
  have hu72 := Try.underlying72
  have HR0 := Aside0.mk hr0
  have HC0 := Aside0.mk hc0
  clear hr0 hc0
  have HB := Aside0.mk (Below.refl w.heap.size w)
  have H : ((binderylaw24_Small.f k l0).bind fun t130 => (if t130 = true then ((trailer_Of.f l0).bind fun bt132 => ((binderyref24_Of.f l0).bind fun bt140 => (if (bt132.1 == bt140.1 && (bt132.2.1 == bt140.2.1 && ((bt132.2.2.1 == bt140.2.2.1 && (bt132.2.2.2.1 == bt140.2.2.2.1)) && (bt132.2.2.2.2.1 == bt140.2.2.2.2.1 && (bt132.2.2.2.2.2.1 == bt140.2.2.2.2.2.1))))) = true then (if bt132.2.2.2.2.2.2 = bt140.2.2.2.2.2.2 then ((trailer_Bare.f l0).bind fun t148 => ((binderyref24_Bare.f l0).bind fun t151 => ((binderylaw23_Pairs.f t148 t151).bind fun t154 => (if t154 = true then ((binderylaw24_trailers.f).bind fun t155 => (some t155)) else (none))))) else (none)) else (none)))) else ((binderylaw24_trailers.f).bind fun t131 => (some t131)))) = some r := h
  clear h
  replace H := Option.bind_eq_some_iff.mp H
  obtain ⟨t130, A20, H⟩ := H
  replace H : (if t130 = true then ((trailer_Of.f l0).bind fun bt132 => ((binderyref24_Of.f l0).bind fun bt140 => (if (bt132.1 == bt140.1 && (bt132.2.1 == bt140.2.1 && ((bt132.2.2.1 == bt140.2.2.1 && (bt132.2.2.2.1 == bt140.2.2.2.1)) && (bt132.2.2.2.2.1 == bt140.2.2.2.2.1 && (bt132.2.2.2.2.2.1 == bt140.2.2.2.2.2.1))))) = true then (if bt132.2.2.2.2.2.2 = bt140.2.2.2.2.2.2 then ((trailer_Bare.f l0).bind fun t148 => ((binderyref24_Bare.f l0).bind fun t151 => ((binderylaw23_Pairs.f t148 t151).bind fun t154 => (if t154 = true then ((binderylaw24_trailers.f).bind fun t155 => (some t155)) else (none))))) else (none)) else (none)))) else ((binderylaw24_trailers.f).bind fun t131 => (some t131))) = some r := H
  have A2 := Aside0.mk A20
  clear A20
  by_cases c3 : t130 = true
  · subst c3
    have H1 : ((trailer_Of.f l0).bind fun bt132 => ((binderyref24_Of.f l0).bind fun bt140 => (if (bt132.1 == bt140.1 && (bt132.2.1 == bt140.2.1 && ((bt132.2.2.1 == bt140.2.2.1 && (bt132.2.2.2.1 == bt140.2.2.2.1)) && (bt132.2.2.2.2.1 == bt140.2.2.2.2.1 && (bt132.2.2.2.2.2.1 == bt140.2.2.2.2.2.1))))) = true then (if bt132.2.2.2.2.2.2 = bt140.2.2.2.2.2.2 then ((trailer_Bare.f l0).bind fun t148 => ((binderyref24_Bare.f l0).bind fun t151 => ((binderylaw23_Pairs.f t148 t151).bind fun t154 => (if t154 = true then ((binderylaw24_trailers.f).bind fun t155 => (some t155)) else (none))))) else (none)) else (none)))) = some r := by rw [if_pos rfl] at H; exact H
    clear H
    have H := H1
    clear H1
    replace H := Option.bind_eq_some_iff.mp H
    obtain ⟨⟨t132, t133, t134, t135, t136, t137, t138⟩, A40, H⟩ := H
    replace H : ((binderyref24_Of.f l0).bind fun bt140 => (if (t132 == bt140.1 && (t133 == bt140.2.1 && ((t134 == bt140.2.2.1 && (t135 == bt140.2.2.2.1)) && (t136 == bt140.2.2.2.2.1 && (t137 == bt140.2.2.2.2.2.1))))) = true then (if t138 = bt140.2.2.2.2.2.2 then ((trailer_Bare.f l0).bind fun t148 => ((binderyref24_Bare.f l0).bind fun t151 => ((binderylaw23_Pairs.f t148 t151).bind fun t154 => (if t154 = true then ((binderylaw24_trailers.f).bind fun t155 => (some t155)) else (none))))) else (none)) else (none))) = some r := H
    have A4 := Aside0.mk A40
    clear A40
    replace H := Option.bind_eq_some_iff.mp H
    obtain ⟨⟨t140, t141, t142, t143, t144, t145, t146⟩, A50, H⟩ := H
    replace H : (if (t132 == t140 && (t133 == t141 && ((t134 == t142 && (t135 == t143)) && (t136 == t144 && (t137 == t145))))) = true then (if t138 = t146 then ((trailer_Bare.f l0).bind fun t148 => ((binderyref24_Bare.f l0).bind fun t151 => ((binderylaw23_Pairs.f t148 t151).bind fun t154 => (if t154 = true then ((binderylaw24_trailers.f).bind fun t155 => (some t155)) else (none))))) else (none)) else (none)) = some r := H
    have A5 := Aside0.mk A50
    clear A50
    by_cases c6 : (t132 == t140 && (t133 == t141 && ((t134 == t142 && (t135 == t143)) && (t136 == t144 && (t137 == t145))))) = true
    · rw [if_pos c6] at H
      have c6b0 : (t132 == t140 && (t133 == t141 && ((t134 == t142 && (t135 == t143)) && (t136 == t144 && (t137 == t145))))) = true := c6
      (try (have c6b1 : decide (t132 = t140 && (t133 == t141 && ((t134 == t142 && (t135 == t143)) && (t136 == t144 && (t137 == t145))))) = true := by simpa using c6))
      (try (have c6b2 : (t132 == t140 && (t133 == t141 && ((t134 == t142 && (t135 == t143)) && (t136 == t144 && (t137 == t145))))) = true := by simpa using c6))
      clear c6
      by_cases c7 : t138 = t146
      · rw [if_pos c7] at H
        have c7b0 : (t138 == t146) = true := beq_iff_eq.mpr c7
        have c7b1 : (t138 != t146) = false := bne_eq_false_iff_eq.mpr c7
        clear c7
        replace H := Option.bind_eq_some_iff.mp H
        obtain ⟨t148, A80, H⟩ := H
        replace H : ((binderyref24_Bare.f l0).bind fun t151 => ((binderylaw23_Pairs.f t148 t151).bind fun t154 => (if t154 = true then ((binderylaw24_trailers.f).bind fun t155 => (some t155)) else (none)))) = some r := H
        have A8 := Aside0.mk A80
        clear A80
        replace H := Option.bind_eq_some_iff.mp H
        obtain ⟨t151, A90, H⟩ := H
        replace H : ((binderylaw23_Pairs.f t148 t151).bind fun t154 => (if t154 = true then ((binderylaw24_trailers.f).bind fun t155 => (some t155)) else (none))) = some r := H
        have A9 := Aside0.mk A90
        clear A90
        replace H := Option.bind_eq_some_iff.mp H
        obtain ⟨t154, A100, H⟩ := H
        replace H : (if t154 = true then ((binderylaw24_trailers.f).bind fun t155 => (some t155)) else (none)) = some r := H
        have A10 := Aside0.mk A100
        clear A100
        by_cases c11 : t154 = true
        · subst c11
          have H1 : ((binderylaw24_trailers.f).bind fun t155 => (some t155)) = some r := by rw [if_pos rfl] at H; exact H
          clear H
          have H := H1
          clear H1
          replace H := Option.bind_eq_some_iff.mp H
          obtain ⟨t155, A120, H⟩ := H
          replace H : (some t155) = some r := H
          have A12 := Aside0.mk A120
          clear A120
          obtain rfl := Option.some.inj H
          go_enter Try.func7, Try.ntmps7
          go_wp2_with (first | ((with_reducible refine gate_callee (f := 45) rfl ?_); refine goesL_ (some 8) rfl rfl Try.func45 (by kernel_rfl) rfl #[.slice A0 l0.length c0] rfl (by (try simp only [List.map_toArray, List.map_cons, List.map_nil]); first | done | rfl | (simp only [List.length_drop, List.length_take]; rfl)) ?_; (with_reducible refine (binderylaw24_Small.calls k _ _ l0 true _ ?side1 ?side2 A2.out).mono ?_); (case side1 => repeat (first | exact HR0.out | (with_reducible refine Kd.C_alloc ?_ _) | (with_reducible refine Kd.C_drewN ?_ _) | (with_reducible refine Kd.C_drew ?_))); (case side2 => exact HC0.out); rintro e w13 ⟨rfl, hb⟩; refine ⟨_, rfl, ?_⟩; have n0_ := Aside0.mk (below_step (by repeat (first | (with_reducible first | exact HB.out | apply below_alloc | apply pw_below_drewN | apply below_drew1) | exact HB.out)) hb); clear HB; have HB := n0_; clear n0_; (try clear hb); (try clear hb2); (try clear hk); (try clear hi)) | ((with_reducible refine gate_callee (f := 46) rfl ?_); refine goesL_ (some 13) rfl rfl Try.func46 (by kernel_rfl) rfl #[.slice A0 l0.length c0] rfl (by (try simp only [List.map_toArray, List.map_cons, List.map_nil]); first | done | rfl | (simp only [List.length_drop, List.length_take]; rfl)) ?_; (with_reducible refine (trailer_Of.calls _ _ l0 t132 t133 t134 t135 t136 t137 t138 _ ?side1 ?side2 A4.out).mono ?_); (case side1 => repeat (first | exact (Kd.C_below HR0.out HB.out) | (with_reducible refine Kd.C_alloc ?_ _) | (with_reducible refine Kd.C_drewN ?_ _) | (with_reducible refine Kd.C_drew ?_))); (case side2 => exact HC0.out); rintro e w14 ⟨rfl, hb⟩; refine ⟨_, rfl, ?_⟩; have n0_ := Aside0.mk (below_step (by repeat (first | (with_reducible first | exact HB.out | apply below_alloc | apply pw_below_drewN | apply below_drew1) | exact HB.out)) hb); clear HB; have HB := n0_; clear n0_; (try clear hb); (try clear hb2); (try clear hk); (try clear hi)) | ((with_reducible refine gate_dst (N := 3) rfl ?_); refine box_event ?hg (N := 3) ?hd (cs := #[.int .i64 0, .int .i64 0, .int .i64 0, .int .i64 0, .int .i64 0, .int .i64 0]) (t := 72) ?hr ?_; (case hd => rfl); (case hg => rfl); (case hr => first | (go_simp; done) | (go_simp; rfl)); intro gb139 hg w15 hbox hb; have n0_ := Aside0.mk (below_step (by repeat (first | (with_reducible first | exact HB.out | apply below_alloc | apply pw_below_drewN | apply below_drew1) | exact HB.out)) hb); have n1_ := Aside0.mk (hbox); have n2_ := Aside0.mk ((by rw [hg]; exact (below_size (by repeat (first | (with_reducible first | exact HB.out | apply below_alloc | apply pw_below_drewN | apply below_drew1) | exact HB.out))) : w.heap.size ≤ gb139)); have n3_ := Aside0.mk ((by rw [hg]; exact (below_size (by repeat (first | (with_reducible first | exact HB.out | apply below_alloc | apply pw_below_drewN | apply below_drew1) | exact HB.out))) : w.heap.size ≤ gb139)); clear HB; have HB := n0_; have BK139 := n1_; have GW139 := n2_; have GE139 := n3_; clear n0_ n1_ n2_ n3_; clear hb hbox hg; have hcz16_0 : w15.cell? ⟨gb139, 0, none⟩ = some (.int .i64 0) := (blk_cell BK139.out 0).trans rfl; have hcz16_1 : w15.cell? ⟨gb139, 1, none⟩ = some (.int .i64 0) := (blk_cell BK139.out 1).trans rfl; have hcz16_2 : w15.cell? ⟨gb139, 2, none⟩ = some (.int .i64 0) := (blk_cell BK139.out 2).trans rfl; have hcz16_3 : w15.cell? ⟨gb139, 3, none⟩ = some (.int .i64 0) := (blk_cell BK139.out 3).trans rfl; have hcz16_4 : w15.cell? ⟨gb139, 4, none⟩ = some (.int .i64 0) := (blk_cell BK139.out 4).trans rfl; have hcz16_5 : w15.cell? ⟨gb139, 5, none⟩ = some (.int .i64 0) := (blk_cell BK139.out 5).trans rfl; have hfz16_0 := blk_frozen BK139.out 0; have hfz16_1 := blk_frozen BK139.out 1; have hfz16_2 := blk_frozen BK139.out 2; have hfz16_3 := blk_frozen BK139.out 3; have hfz16_4 := blk_frozen BK139.out 4; have hfz16_5 := blk_frozen BK139.out 5) | ((with_reducible refine gate_callee (f := 47) rfl ?_); refine goesL_ (some 18) rfl rfl Try.func47 (by kernel_rfl) rfl #[.slice A0 l0.length c0] rfl (by (try simp only [List.map_toArray, List.map_cons, List.map_nil]); first | done | rfl | (simp only [List.length_drop, List.length_take]; rfl)) ?_; (with_reducible refine (binderyref24_Of.calls _ _ l0 t140 t141 t142 t143 t144 t145 t146 _ ?side1 ?side2 A5.out).mono ?_); (case side1 => exact Kd.C_below HR0.out (by repeat (first | (with_reducible first | exact HB.out | apply below_alloc | apply pw_below_drewN | apply below_drew1 | refine below_set ?_ GE139.out) | exact HB.out))); (case side2 => exact HC0.out); rintro e w17 ⟨rfl, hb⟩; refine ⟨_, rfl, ?_⟩; have n0_ := Aside0.mk (blk_below (g := gb139) (o := .cells #[.int .i64 t132, .int .i64 t133, .int .i64 t134, .int .i64 t135, .int .i64 t136, .int .i64 t137] 72 (0, 0)) (by (with_reducible repeat (first | refine blk_drewN ?_ _ | refine blk_drew ?_ | refine blk_alloc ?_ _)); refine blk_put (cs := #[.int .i64 t132, .int .i64 t133, .int .i64 t134, .int .i64 t135, .int .i64 t136, .int .i64 0]) ?_ 5 _ rfl; (with_reducible repeat (first | refine blk_drewN ?_ _ | refine blk_drew ?_ | refine blk_alloc ?_ _)); refine blk_put (cs := #[.int .i64 t132, .int .i64 t133, .int .i64 t134, .int .i64 t135, .int .i64 0, .int .i64 0]) ?_ 4 _ rfl; (with_reducible repeat (first | refine blk_drewN ?_ _ | refine blk_drew ?_ | refine blk_alloc ?_ _)); refine blk_put (cs := #[.int .i64 t132, .int .i64 t133, .int .i64 t134, .int .i64 0, .int .i64 0, .int .i64 0]) ?_ 3 _ rfl; (with_reducible repeat (first | refine blk_drewN ?_ _ | refine blk_drew ?_ | refine blk_alloc ?_ _)); refine blk_put (cs := #[.int .i64 t132, .int .i64 t133, .int .i64 0, .int .i64 0, .int .i64 0, .int .i64 0]) ?_ 2 _ rfl; (with_reducible repeat (first | refine blk_drewN ?_ _ | refine blk_drew ?_ | refine blk_alloc ?_ _)); refine blk_put (cs := #[.int .i64 t132, .int .i64 0, .int .i64 0, .int .i64 0, .int .i64 0, .int .i64 0]) ?_ 1 _ rfl; (with_reducible repeat (first | refine blk_drewN ?_ _ | refine blk_drew ?_ | refine blk_alloc ?_ _)); refine blk_put (cs := #[.int .i64 0, .int .i64 0, .int .i64 0, .int .i64 0, .int .i64 0, .int .i64 0]) ?_ 0 _ rfl; (with_reducible repeat (first | refine blk_drewN ?_ _ | refine blk_drew ?_ | refine blk_alloc ?_ _)); exact BK139.out) hb); have n1_ := Aside0.mk (below_step (by repeat (first | (with_reducible first | exact HB.out | apply below_alloc | apply pw_below_drewN | apply below_drew1 | refine below_set ?_ GE139.out) | exact HB.out)) hb); clear BK139; clear HB; have BK139 := n0_; have HB := n1_; clear n0_ n1_; (try clear hb); (try clear hb2); (try clear hk); (try clear hi)) | ((with_reducible refine gate_dst (N := 5) rfl ?_); refine box_event ?hg (N := 5) ?hd (cs := #[.int .i64 0, .int .i64 0, .int .i64 0, .int .i64 0, .int .i64 0, .int .i64 0]) (t := 72) ?hr ?_; (case hd => rfl); (case hg => rfl); (case hr => first | (go_simp; done) | (go_simp; rfl)); intro gb147 hg w18 hbox hb; have n0_ := Aside0.mk (blk_below (g := gb139) (o := .cells #[.int .i64 t132, .int .i64 t133, .int .i64 t134, .int .i64 t135, .int .i64 t136, .int .i64 t137] 72 (0, 0)) (by (with_reducible repeat (first | refine blk_drewN ?_ _ | refine blk_drew ?_ | refine blk_alloc ?_ _)); exact BK139.out) hb); have n1_ := Aside0.mk (below_step (by repeat (first | (with_reducible first | exact HB.out | apply below_alloc | apply pw_below_drewN | apply below_drew1 | refine below_set ?_ GE139.out) | exact HB.out)) hb); have n2_ := Aside0.mk (hbox); have n3_ := Aside0.mk ((by rw [hg]; exact (below_size (by repeat (first | (with_reducible first | exact HB.out | apply below_alloc | apply pw_below_drewN | apply below_drew1 | refine below_set ?_ GE139.out) | exact HB.out))) : w.heap.size ≤ gb147)); have n4_ := Aside0.mk ((by rw [hg]; exact (below_size (by repeat (first | (with_reducible first | exact HB.out | apply below_alloc | apply pw_below_drewN | apply below_drew1 | refine below_set ?_ GE139.out) | exact HB.out))) : w.heap.size ≤ gb147)); have n5_ := Aside0.mk ((by rw [hg]; exact Nat.ne_of_lt (blk_lt (g := gb139) (o := .cells #[.int .i64 t132, .int .i64 t133, .int .i64 t134, .int .i64 t135, .int .i64 t136, .int .i64 t137] 72 (0, 0)) (by (with_reducible repeat (first | refine blk_drewN ?_ _ | refine blk_drew ?_ | refine blk_alloc ?_ _)); exact BK139.out)) : gb139 ≠ gb147)); have n6_ := Aside0.mk ((by rw [hg]; exact Nat.ne_of_gt (blk_lt (g := gb139) (o := .cells #[.int .i64 t132, .int .i64 t133, .int .i64 t134, .int .i64 t135, .int .i64 t136, .int .i64 t137] 72 (0, 0)) (by (with_reducible repeat (first | refine blk_drewN ?_ _ | refine blk_drew ?_ | refine blk_alloc ?_ _)); exact BK139.out)) : gb147 ≠ gb139)); clear BK139; clear HB; have BK139 := n0_; have HB := n1_; have BK147 := n2_; have GW147 := n3_; have GE147 := n4_; have NB139_147 := n5_; have NB147_139 := n6_; clear n0_ n1_ n2_ n3_ n4_ n5_ n6_; clear hb hbox hg; have hnb19 := NB147_139.out; have hnc19 := NB139_147.out; have hcz20_0 : w18.cell? ⟨gb147, 0, none⟩ = some (.int .i64 0) := (blk_cell BK147.out 0).trans rfl; have hcz20_1 : w18.cell? ⟨gb147, 1, none⟩ = some (.int .i64 0) := (blk_cell BK147.out 1).trans rfl; have hcz20_2 : w18.cell? ⟨gb147, 2, none⟩ = some (.int .i64 0) := (blk_cell BK147.out 2).trans rfl; have hcz20_3 : w18.cell? ⟨gb147, 3, none⟩ = some (.int .i64 0) := (blk_cell BK147.out 3).trans rfl; have hcz20_4 : w18.cell? ⟨gb147, 4, none⟩ = some (.int .i64 0) := (blk_cell BK147.out 4).trans rfl; have hcz20_5 : w18.cell? ⟨gb147, 5, none⟩ = some (.int .i64 0) := (blk_cell BK147.out 5).trans rfl; have hfz20_0 := blk_frozen BK147.out 0; have hfz20_1 := blk_frozen BK147.out 1; have hfz20_2 := blk_frozen BK147.out 2; have hfz20_3 := blk_frozen BK147.out 3; have hfz20_4 := blk_frozen BK147.out 4; have hfz20_5 := blk_frozen BK147.out 5; have hcz21_0 : w18.cell? ⟨gb139, 0, none⟩ = some (.int .i64 t132) := (blk_cell BK139.out 0).trans rfl; have hcz21_1 : w18.cell? ⟨gb139, 1, none⟩ = some (.int .i64 t133) := (blk_cell BK139.out 1).trans rfl; have hcz21_2 : w18.cell? ⟨gb139, 2, none⟩ = some (.int .i64 t134) := (blk_cell BK139.out 2).trans rfl; have hcz21_3 : w18.cell? ⟨gb139, 3, none⟩ = some (.int .i64 t135) := (blk_cell BK139.out 3).trans rfl; have hcz21_4 : w18.cell? ⟨gb139, 4, none⟩ = some (.int .i64 t136) := (blk_cell BK139.out 4).trans rfl; have hcz21_5 : w18.cell? ⟨gb139, 5, none⟩ = some (.int .i64 t137) := (blk_cell BK139.out 5).trans rfl; have hfz21_0 := blk_frozen BK139.out 0; have hfz21_1 := blk_frozen BK139.out 1; have hfz21_2 := blk_frozen BK139.out 2; have hfz21_3 := blk_frozen BK139.out 3; have hfz21_4 := blk_frozen BK139.out 4; have hfz21_5 := blk_frozen BK139.out 5) | (go_at_call 48; (with_reducible refine (trailer_Bare.calls _ _ l0 t148 _ ?side1 ?side2 A8.out).mono ?_); (case side1 => exact Kd.C_below HR0.out (by repeat (first | (with_reducible first | exact HB.out | apply below_alloc | apply pw_below_drewN | apply below_drew1 | refine below_set ?_ GE139.out | refine below_set ?_ GE147.out) | exact HB.out))); (case side2 => exact HC0.out); rintro e w22 ⟨v149, rfl, ho0, hb⟩; have n0_ := Aside0.mk (Kd.V_lower (Kd.V_mono (ok' := fun k_ => k_ ≠ gb139 ∧ k_ ≠ gb147) ho0 (fun k_ hk_ => ⟨(Kd.freshB (g := gb139) (o := .cells #[.int .i64 t132, .int .i64 t133, .int .i64 t134, .int .i64 t135, .int .i64 t136, .int .i64 t137] 72 (0, 0)) (by (with_reducible repeat (first | refine blk_drewN ?_ _ | refine blk_drew ?_ | refine blk_alloc ?_ _)); refine blk_far ?_ NB139_147.out _; (with_reducible repeat (first | refine blk_drewN ?_ _ | refine blk_drew ?_ | refine blk_alloc ?_ _)); refine blk_far ?_ NB139_147.out _; (with_reducible repeat (first | refine blk_drewN ?_ _ | refine blk_drew ?_ | refine blk_alloc ?_ _)); refine blk_far ?_ NB139_147.out _; (with_reducible repeat (first | refine blk_drewN ?_ _ | refine blk_drew ?_ | refine blk_alloc ?_ _)); refine blk_far ?_ NB139_147.out _; (with_reducible repeat (first | refine blk_drewN ?_ _ | refine blk_drew ?_ | refine blk_alloc ?_ _)); refine blk_far ?_ NB139_147.out _; (with_reducible repeat (first | refine blk_drewN ?_ _ | refine blk_drew ?_ | refine blk_alloc ?_ _)); refine blk_far ?_ NB139_147.out _; (with_reducible repeat (first | refine blk_drewN ?_ _ | refine blk_drew ?_ | refine blk_alloc ?_ _)); exact BK139.out) k_ hk_), (Kd.freshB (g := gb147) (o := .cells #[.int .i64 t140, .int .i64 t141, .int .i64 t142, .int .i64 t143, .int .i64 t144, .int .i64 t145] 72 (0, 0)) (by (with_reducible repeat (first | refine blk_drewN ?_ _ | refine blk_drew ?_ | refine blk_alloc ?_ _)); refine blk_put (cs := #[.int .i64 t140, .int .i64 t141, .int .i64 t142, .int .i64 t143, .int .i64 t144, .int .i64 0]) ?_ 5 _ rfl; (with_reducible repeat (first | refine blk_drewN ?_ _ | refine blk_drew ?_ | refine blk_alloc ?_ _)); refine blk_put (cs := #[.int .i64 t140, .int .i64 t141, .int .i64 t142, .int .i64 t143, .int .i64 0, .int .i64 0]) ?_ 4 _ rfl; (with_reducible repeat (first | refine blk_drewN ?_ _ | refine blk_drew ?_ | refine blk_alloc ?_ _)); refine blk_put (cs := #[.int .i64 t140, .int .i64 t141, .int .i64 t142, .int .i64 0, .int .i64 0, .int .i64 0]) ?_ 3 _ rfl; (with_reducible repeat (first | refine blk_drewN ?_ _ | refine blk_drew ?_ | refine blk_alloc ?_ _)); refine blk_put (cs := #[.int .i64 t140, .int .i64 t141, .int .i64 0, .int .i64 0, .int .i64 0, .int .i64 0]) ?_ 2 _ rfl; (with_reducible repeat (first | refine blk_drewN ?_ _ | refine blk_drew ?_ | refine blk_alloc ?_ _)); refine blk_put (cs := #[.int .i64 t140, .int .i64 0, .int .i64 0, .int .i64 0, .int .i64 0, .int .i64 0]) ?_ 1 _ rfl; (with_reducible repeat (first | refine blk_drewN ?_ _ | refine blk_drew ?_ | refine blk_alloc ?_ _)); refine blk_put (cs := #[.int .i64 0, .int .i64 0, .int .i64 0, .int .i64 0, .int .i64 0, .int .i64 0]) ?_ 0 _ rfl; (with_reducible repeat (first | refine blk_drewN ?_ _ | refine blk_drew ?_ | refine blk_alloc ?_ _)); exact BK147.out) k_ hk_)⟩)) (below_size (by repeat (first | (with_reducible first | exact HB.out | apply below_alloc | apply pw_below_drewN | apply below_drew1 | refine below_set ?_ GE139.out | refine below_set ?_ GE147.out) | exact HB.out)))); have n1_ := Aside0.mk (blk_below (g := gb139) (o := .cells #[.int .i64 t132, .int .i64 t133, .int .i64 t134, .int .i64 t135, .int .i64 t136, .int .i64 t137] 72 (0, 0)) (by (with_reducible repeat (first | refine blk_drewN ?_ _ | refine blk_drew ?_ | refine blk_alloc ?_ _)); refine blk_far ?_ NB139_147.out _; (with_reducible repeat (first | refine blk_drewN ?_ _ | refine blk_drew ?_ | refine blk_alloc ?_ _)); refine blk_far ?_ NB139_147.out _; (with_reducible repeat (first | refine blk_drewN ?_ _ | refine blk_drew ?_ | refine blk_alloc ?_ _)); refine blk_far ?_ NB139_147.out _; (with_reducible repeat (first | refine blk_drewN ?_ _ | refine blk_drew ?_ | refine blk_alloc ?_ _)); refine blk_far ?_ NB139_147.out _; (with_reducible repeat (first | refine blk_drewN ?_ _ | refine blk_drew ?_ | refine blk_alloc ?_ _)); refine blk_far ?_ NB139_147.out _; (with_reducible repeat (first | refine blk_drewN ?_ _ | refine blk_drew ?_ | refine blk_alloc ?_ _)); refine blk_far ?_ NB139_147.out _; (with_reducible repeat (first | refine blk_drewN ?_ _ | refine blk_drew ?_ | refine blk_alloc ?_ _)); exact BK139.out) hb); have n2_ := Aside0.mk (blk_below (g := gb147) (o := .cells #[.int .i64 t140, .int .i64 t141, .int .i64 t142, .int .i64 t143, .int .i64 t144, .int .i64 t145] 72 (0, 0)) (by (with_reducible repeat (first | refine blk_drewN ?_ _ | refine blk_drew ?_ | refine blk_alloc ?_ _)); refine blk_put (cs := #[.int .i64 t140, .int .i64 t141, .int .i64 t142, .int .i64 t143, .int .i64 t144, .int .i64 0]) ?_ 5 _ rfl; (with_reducible repeat (first | refine blk_drewN ?_ _ | refine blk_drew ?_ | refine blk_alloc ?_ _)); refine blk_put (cs := #[.int .i64 t140, .int .i64 t141, .int .i64 t142, .int .i64 t143, .int .i64 0, .int .i64 0]) ?_ 4 _ rfl; (with_reducible repeat (first | refine blk_drewN ?_ _ | refine blk_drew ?_ | refine blk_alloc ?_ _)); refine blk_put (cs := #[.int .i64 t140, .int .i64 t141, .int .i64 t142, .int .i64 0, .int .i64 0, .int .i64 0]) ?_ 3 _ rfl; (with_reducible repeat (first | refine blk_drewN ?_ _ | refine blk_drew ?_ | refine blk_alloc ?_ _)); refine blk_put (cs := #[.int .i64 t140, .int .i64 t141, .int .i64 0, .int .i64 0, .int .i64 0, .int .i64 0]) ?_ 2 _ rfl; (with_reducible repeat (first | refine blk_drewN ?_ _ | refine blk_drew ?_ | refine blk_alloc ?_ _)); refine blk_put (cs := #[.int .i64 t140, .int .i64 0, .int .i64 0, .int .i64 0, .int .i64 0, .int .i64 0]) ?_ 1 _ rfl; (with_reducible repeat (first | refine blk_drewN ?_ _ | refine blk_drew ?_ | refine blk_alloc ?_ _)); refine blk_put (cs := #[.int .i64 0, .int .i64 0, .int .i64 0, .int .i64 0, .int .i64 0, .int .i64 0]) ?_ 0 _ rfl; (with_reducible repeat (first | refine blk_drewN ?_ _ | refine blk_drew ?_ | refine blk_alloc ?_ _)); exact BK147.out) hb); have n3_ := Aside0.mk (below_step (by repeat (first | (with_reducible first | exact HB.out | apply below_alloc | apply pw_below_drewN | apply below_drew1 | refine below_set ?_ GE139.out | refine below_set ?_ GE147.out) | exact HB.out)) hb); clear BK139; clear BK147; clear HB; have HO150 := n0_; have BK139 := n1_; have BK147 := n2_; have HB := n3_; clear n0_ n1_ n2_ n3_; (try clear hb); (try clear hb2); (try clear hk); (try clear hi); (try clear ho0)) | (go_at_call 49; (with_reducible refine (binderyref24_Bare.calls _ _ l0 t151 _ ?side1 ?side2 A9.out).mono ?_); (case side1 => repeat (first | exact (Kd.C_below HR0.out HB.out) | (with_reducible refine Kd.C_alloc ?_ _) | (with_reducible refine Kd.C_drewN ?_ _) | (with_reducible refine Kd.C_drew ?_))); (case side2 => exact HC0.out); rintro e w23 ⟨v152, rfl, ho0, hb⟩; have n0_ := Aside0.mk (Kd.V_elder' (by (with_reducible repeat (first | apply Kd.V_alloc | apply Kd.V_drewN | apply Kd.V_drew)); exact HO150.out) (Kd.R_base ho0) hb); have n1_ := Aside0.mk (Kd.R_lower ho0 (below_size (by repeat (first | (with_reducible first | exact HB.out | apply below_alloc | apply pw_below_drewN | apply below_drew1 | refine below_set ?_ GE139.out | refine below_set ?_ GE147.out) | exact HB.out)))); have n2_ := Aside0.mk (blk_below (g := gb139) (o := .cells #[.int .i64 t132, .int .i64 t133, .int .i64 t134, .int .i64 t135, .int .i64 t136, .int .i64 t137] 72 (0, 0)) (by (with_reducible repeat (first | refine blk_drewN ?_ _ | refine blk_drew ?_ | refine blk_alloc ?_ _)); exact BK139.out) hb); have n3_ := Aside0.mk (blk_below (g := gb147) (o := .cells #[.int .i64 t140, .int .i64 t141, .int .i64 t142, .int .i64 t143, .int .i64 t144, .int .i64 t145] 72 (0, 0)) (by (with_reducible repeat (first | refine blk_drewN ?_ _ | refine blk_drew ?_ | refine blk_alloc ?_ _)); exact BK147.out) hb); have n4_ := Aside0.mk (below_step (by repeat (first | (with_reducible first | exact HB.out | apply below_alloc | apply pw_below_drewN | apply below_drew1 | refine below_set ?_ GE139.out | refine below_set ?_ GE147.out) | exact HB.out)) hb); clear HO150; clear BK139; clear BK147; clear HB; have HO150 := n0_; have HO153 := n1_; have BK139 := n2_; have BK147 := n3_; have HB := n4_; clear n0_ n1_ n2_ n3_ n4_; (try clear hb); (try clear hb2); (try clear hk); (try clear hi); (try clear ho0); obtain ⟨Ao24, co24, eo24⟩ := Kd.V_slice HO150.out; subst eo24; obtain ⟨Ao25, co25, eo25⟩ := Kd.R_slice HO153.out; subst eo25) | (go_at_call 41; (with_reducible refine (binderylaw23_Pairs.calls _ _ t148 _ _ t151 true _ ?side1 ?side2 ?side3 ?side4 A10.out).mono ?_); (case side1 => repeat (first | exact (Kd.V_reads' HO150.out).2.2 | (with_reducible refine Kd.C_alloc ?_ _) | (with_reducible refine Kd.C_drewN ?_ _) | (with_reducible refine Kd.C_drew ?_))); (case side2 => exact (Kd.V_reads' HO150.out).2.1); (case side3 => repeat (first | exact (Kd.R_reads' HO153.out).2.2 | (with_reducible refine Kd.C_alloc ?_ _) | (with_reducible refine Kd.C_drewN ?_ _) | (with_reducible refine Kd.C_drew ?_))); (case side4 => exact (Kd.R_reads' HO153.out).2.1); rintro e w26 ⟨rfl, hb⟩; have n0_ := Aside0.mk (Kd.V_below (by (with_reducible repeat (first | apply Kd.V_alloc | apply Kd.V_drewN | apply Kd.V_drew)); exact HO150.out) hb); have n1_ := Aside0.mk (Kd.R_below (by (with_reducible repeat (first | apply Kd.R_alloc | apply Kd.R_drewN | apply Kd.R_drew)); exact HO153.out) hb); have n2_ := Aside0.mk (blk_below (g := gb139) (o := .cells #[.int .i64 t132, .int .i64 t133, .int .i64 t134, .int .i64 t135, .int .i64 t136, .int .i64 t137] 72 (0, 0)) (by (with_reducible repeat (first | refine blk_drewN ?_ _ | refine blk_drew ?_ | refine blk_alloc ?_ _)); exact BK139.out) hb); have n3_ := Aside0.mk (blk_below (g := gb147) (o := .cells #[.int .i64 t140, .int .i64 t141, .int .i64 t142, .int .i64 t143, .int .i64 t144, .int .i64 t145] 72 (0, 0)) (by (with_reducible repeat (first | refine blk_drewN ?_ _ | refine blk_drew ?_ | refine blk_alloc ?_ _)); exact BK147.out) hb); have n4_ := Aside0.mk (below_step (by repeat (first | (with_reducible first | exact HB.out | apply below_alloc | apply pw_below_drewN | apply below_drew1 | refine below_set ?_ GE139.out | refine below_set ?_ GE147.out) | exact HB.out)) hb); clear HO150; clear HO153; clear BK139; clear BK147; clear HB; have HO150 := n0_; have HO153 := n1_; have BK139 := n2_; have BK147 := n3_; have HB := n4_; clear n0_ n1_ n2_ n3_ n4_; (try clear hb); (try clear hb2); (try clear hk); (try clear hi)) | (go_at_call 44; (with_reducible refine (binderylaw24_trailers.calls  t155 _ A12.out).mono ?_); rintro e w27 ⟨rfl, hb⟩; have n0_ := Aside0.mk (Kd.V_below (by (with_reducible repeat (first | apply Kd.V_alloc | apply Kd.V_drewN | apply Kd.V_drew)); exact HO150.out) hb); have n1_ := Aside0.mk (Kd.R_below (by (with_reducible repeat (first | apply Kd.R_alloc | apply Kd.R_drewN | apply Kd.R_drew)); exact HO153.out) hb); have n2_ := Aside0.mk (blk_below (g := gb139) (o := .cells #[.int .i64 t132, .int .i64 t133, .int .i64 t134, .int .i64 t135, .int .i64 t136, .int .i64 t137] 72 (0, 0)) (by (with_reducible repeat (first | refine blk_drewN ?_ _ | refine blk_drew ?_ | refine blk_alloc ?_ _)); exact BK139.out) hb); have n3_ := Aside0.mk (blk_below (g := gb147) (o := .cells #[.int .i64 t140, .int .i64 t141, .int .i64 t142, .int .i64 t143, .int .i64 t144, .int .i64 t145] 72 (0, 0)) (by (with_reducible repeat (first | refine blk_drewN ?_ _ | refine blk_drew ?_ | refine blk_alloc ?_ _)); exact BK147.out) hb); have n4_ := Aside0.mk (below_step (by repeat (first | (with_reducible first | exact HB.out | apply below_alloc | apply pw_below_drewN | apply below_drew1 | refine below_set ?_ GE139.out | refine below_set ?_ GE147.out) | exact HB.out)) hb); clear HO150; clear HO153; clear BK139; clear BK147; clear HB; have HO150 := n0_; have HO153 := n1_; have BK139 := n2_; have BK147 := n3_; have HB := n4_; clear n0_ n1_ n2_ n3_ n4_; (try clear hb); (try clear hb2); (try clear hk); (try clear hi)))
          go_ret
          exact ⟨by first | rfl | (simp [errW_none, errW_some] <;> rfl) | (simp [*, errW_none, errW_some] <;> rfl), by repeat (first | (with_reducible first | exact HB.out | apply below_alloc | apply pw_below_drewN | apply below_drew1 | refine below_set ?_ GE139.out | refine below_set ?_ GE147.out) | exact HB.out)⟩
        · replace c11 := Bool.eq_false_iff.mpr c11
          subst c11
          have H1 : (none) = some r := by rw [if_neg (show ¬ (false = true) by decide)] at H; exact H
          clear H
          have H := H1
          clear H1
          exact absurd H (by simp)
      · rw [if_neg c7] at H
        exact absurd H (by simp)
    · rw [if_neg c6] at H
      exact absurd H (by simp)
  · replace c3 := Bool.eq_false_iff.mpr c3
    subst c3
    have H1 : ((binderylaw24_trailers.f).bind fun t131 => (some t131)) = some r := by rw [if_neg (show ¬ (false = true) by decide)] at H; exact H
    clear H
    have H := H1
    clear H1
    replace H := Option.bind_eq_some_iff.mp H
    obtain ⟨t131, A280, H⟩ := H
    replace H : (some t131) = some r := H
    have A28 := Aside0.mk A280
    clear A280
    obtain rfl := Option.some.inj H
    go_enter Try.func7, Try.ntmps7
    go_wp2_with (first | ((with_reducible refine gate_callee (f := 45) rfl ?_); refine goesL_ (some 8) rfl rfl Try.func45 (by kernel_rfl) rfl #[.slice A0 l0.length c0] rfl (by (try simp only [List.map_toArray, List.map_cons, List.map_nil]); first | done | rfl | (simp only [List.length_drop, List.length_take]; rfl)) ?_; (with_reducible refine (binderylaw24_Small.calls k _ _ l0 false _ ?side1 ?side2 A2.out).mono ?_); (case side1 => repeat (first | exact HR0.out | (with_reducible refine Kd.C_alloc ?_ _) | (with_reducible refine Kd.C_drewN ?_ _) | (with_reducible refine Kd.C_drew ?_))); (case side2 => exact HC0.out); rintro e w29 ⟨rfl, hb⟩; refine ⟨_, rfl, ?_⟩; have n0_ := Aside0.mk (below_step (by repeat (first | (with_reducible first | exact HB.out | apply below_alloc | apply pw_below_drewN | apply below_drew1) | exact HB.out)) hb); clear HB; have HB := n0_; clear n0_; (try clear hb); (try clear hb2); (try clear hk); (try clear hi)) | ((with_reducible refine gate_callee (f := 44) rfl ?_); refine goesL_ (some 10) rfl rfl Try.func44 (by kernel_rfl) rfl #[] rfl (by (try simp only [List.map_toArray, List.map_cons, List.map_nil]); first | done | rfl | (simp only [List.length_drop, List.length_take]; rfl)) ?_; (with_reducible refine (binderylaw24_trailers.calls  t131 _ A28.out).mono ?_); rintro e w30 ⟨rfl, hb⟩; refine ⟨_, rfl, ?_⟩; have n0_ := Aside0.mk (below_step (by repeat (first | (with_reducible first | exact HB.out | apply below_alloc | apply pw_below_drewN | apply below_drew1) | exact HB.out)) hb); clear HB; have HB := n0_; clear n0_; (try clear hb); (try clear hb2); (try clear hk); (try clear hi)))
    go_ret
    exact ⟨by first | rfl | (simp [errW_none, errW_some] <;> rfl) | (simp [*, errW_none, errW_some] <;> rfl), by repeat (first | (with_reducible first | exact HB.out | apply below_alloc | apply pw_below_drewN | apply below_drew1) | exact HB.out)⟩
end Go.Proofs.Ytogpnkkoablmiaa.U
end
section
namespace Go.Proofs.Ytogpnkkoablmiaa.P
open Go.RowKit Go.Proofs.Ytogpnkkoablmiaa.V Go.Proofs.Ytogpnkkoablmiaa.U Go.Proofs.Ytogpnkkoablmiaa.R Go.Proofs.Ytogpnkkoablmiaa.Q Go.Proofs.YtogpnkkoablmiaaW.PrintWords Go.Proofs.YtogpnkkoablmiaaW.PrintLast
set_option linter.unusedVariables false
set_option linter.unusedSimpArgs false
theorem few_pairs {d : List S89} (hl : d.length ≤ 80000) (h : ∀ p ∈ d, fewV p.f1) : fewV ⟨6, 0, 0, ⟨#[]⟩, [], d⟩ :=
  fewV_of (by simp) (show d.length ≤ 90000 by omega) (fun x hx => by simp at hx) h
theorem reads_all (d : List S89) : ∃ k, binderylaw24_TrailerReads.f k d = some true := by
  obtain ⟨b, k0, hb, h⟩ := small_all d
  refine ⟨k0, ?_⟩
  unfold binderylaw24_TrailerReads.f
  rw [h k0 (Nat.le_refl _), Option.bind_some]
  cases b with
  | false => rw [if_neg (by simp)]; rfl
  | true =>
    obtain ⟨h60, hf⟩ := hb rfl
    have f1 := few_pairs (by omega) hf
    have f2 : fewV ⟨6, 0, 0, ⟨#[]⟩, [], (⟨⟨#[67, 114, 99]⟩, z35⟩ : S89) :: d⟩ := few_pairs (by simp; omega) (fun p hp => by
      rcases List.mem_cons.1 hp with rfl | hp
      · exact few_ts z35 (by decide)
      · exact hf p hp)
    have o1 : R.trailer_Of.f d = some ((ofS d).1, (ofS d).2.1, (ofS d).2.2.1, (ofS d).2.2.2.1, (ofS d).2.2.2.2.1, (ofS d).2.2.2.2.2.1, (ofS d).2.2.2.2.2.2) := by unfold R.trailer_Of.f; exact if_pos f1
    have o2 : U.binderyref24_Of.f d = some ((ofS d).1, (ofS d).2.1, (ofS d).2.2.1, (ofS d).2.2.2.1, (ofS d).2.2.2.2.1, (ofS d).2.2.2.2.2.1, (ofS d).2.2.2.2.2.2) := by unfold U.binderyref24_Of.f; exact if_pos f1
    have o3 : R.trailer_Bare.f d = some (bareD d) := by unfold R.trailer_Bare.f; exact if_pos f1
    have o4 : U.binderyref24_Bare.f d = some (bareD d) := by unfold U.binderyref24_Bare.f; exact if_pos ⟨f1, f2⟩
    rw [if_pos rfl, o1, Option.bind_some, o2, Option.bind_some, o3, Option.bind_some, o4, Option.bind_some, ex_same, Option.bind_some]
    rw [if_pos (by simp), if_pos rfl, if_pos rfl]
    rfl
end Go.Proofs.Ytogpnkkoablmiaa.P
end
