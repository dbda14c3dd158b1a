/- Parts of the proof: what the theorem reaches, put together by a program of this session. -/
import Derived.ArgAppend
import Derived.Below
import Derived.BigGuardPart
import Derived.BigQuiet
import Derived.BigRegion
import Derived.Deep.AppendLies
import Derived.Deep.CutBlock
import Derived.Deep.DeepCutAuto
import Derived.Deep.Draws
import Derived.Deep.LoopGhost
import Derived.Deep.OwnRows
import Derived.Deep.QuietTactic
import Derived.Deep.RegionHeld3
import Derived.Deep.RegionLaw
import Derived.KernelRfl
import Derived.Laws.BitsLemmas
import Derived.Laws.BytesArg
import Derived.Laws.EntriesVeiled
import Derived.Laws.IdiomCopy
import Derived.Laws.MakeOwn
import Derived.Laws.OwnMore
import Derived.Laws.Rows
import Derived.Laws.Slices
import Derived.Laws.StructEq
import Derived.Lib.AppendIntMem
import Derived.Lib.AppendStr
import Derived.Lib.Bytealg
import Derived.Lib.ConvBytes
import Derived.Lib.Hide
import Derived.Lib.OwnBridge
import Derived.Lib.SliceRun
import Derived.LoopIn
import Derived.LoopNIn
import Derived.Maps.AppendAt
import Derived.Maps.OwnOps
import Derived.Maps.Views
import Derived.OrdersHeld
import Derived.Outline
import Derived.OwnWalk
import Derived.OwnWalkIn
import Derived.RangeFuncBound
import Derived.RangeFuncBox
import Derived.RangeFuncCalls
import Derived.RangeFuncFrom
import Derived.RangeFuncKeeps
import Derived.RangeFuncLeaves
import Derived.RangeFuncNested
import Derived.RowKit
import Derived.RowKit3
import Derived.Shelf.Abstract
import Derived.Shelf.RegionOpen
import Derived.Shelf.SlSortCmp.KitK
import Derived.Shelf.Spec.SlicesInsertGrow
import Derived.Sort.LotA
import Derived.Sort.WalkB12
import Derived.Sort.WalkB2
import Derived.Tactics
import Derived.TacticsInMore
import Derived.Test.YtogpnkkoablmiaaProg
import Derived.WalkKit
import Derived.WalkLawsBesides
import Derived.WideLaws
import Derived.Test.YtogpnkkoablmiaaBP1
import Derived.Test.YtogpnkkoablmiaaBP2
import Derived.Test.YtogpnkkoablmiaaBP3
import Derived.Test.YtogpnkkoablmiaaBP4
import Derived.Test.YtogpnkkoablmiaaBP5
import Derived.Test.YtogpnkkoablmiaaBP6
import Derived.Test.YtogpnkkoablmiaaBP8
import Derived.Test.YtogpnkkoablmiaaBP9
import Derived.Test.YtogpnkkoablmiaaBP10
import Derived.Test.YtogpnkkoablmiaaBP11
import Derived.Test.YtogpnkkoablmiaaBP12
import Derived.Test.YtogpnkkoablmiaaBP13
import Derived.Test.YtogpnkkoablmiaaBP14
import Derived.Test.YtogpnkkoablmiaaBP15
import Derived.Test.YtogpnkkoablmiaaBP16
import Derived.Test.YtogpnkkoablmiaaBP17
import Derived.Test.YtogpnkkoablmiaaBP18
import Derived.Test.YtogpnkkoablmiaaBP19
import Derived.Test.YtogpnkkoablmiaaBP20
section
namespace Go.Proofs.Ytogpnkkoablmiaa.V
open Go.Shelf Go.RowKit Go.Lib Go.Sort Go.Proofs.Ytogpnkkoablmiaa.Q Go.Proofs.YtogpnkkoablmiaaW.PrintWords Go.Proofs.YtogpnkkoablmiaaW.PrintLast Go.Proofs.YtogpnkkoablmiaaW.PrintMore
set_option linter.unusedVariables false
set_option linter.unusedSimpArgs false
def exD : List S89 := [⟨⟨#[66]⟩, ⟨2, 1, 0, ⟨#[]⟩, [], []⟩⟩, ⟨⟨#[65]⟩, ⟨0, 0, 0, ⟨#[]⟩, [], []⟩⟩, ⟨⟨#[66]⟩, ⟨2, 2, 0, ⟨#[]⟩, [], []⟩⟩]
def exP : List S89 := [⟨⟨#[66]⟩, ⟨2, 1, 0, ⟨#[]⟩, [], []⟩⟩]
def exW : List S89 := [⟨⟨#[66]⟩, ⟨2, 1, 0, ⟨#[]⟩, [], []⟩⟩, ⟨⟨#[67]⟩, ⟨7, 3, 1, ⟨#[]⟩, [], []⟩⟩]
theorem ex_plain : plain ⟨6, 0, 0, ⟨#[]⟩, [], exD⟩ = ⟨6, 0, 0, ⟨#[]⟩, [], exP⟩ := by kernel_rfl
theorem ex_plainP : plain ⟨6, 0, 0, ⟨#[]⟩, [], exP⟩ = ⟨6, 0, 0, ⟨#[]⟩, [], exP⟩ := by kernel_rfl
theorem ex_with : withD ⟨6, 0, 0, ⟨#[]⟩, [], exD⟩ ⟨#[67]⟩ ⟨7, 3, 1, ⟨#[]⟩, [], []⟩ = exW := by kernel_rfl
theorem ex_get : getV ⟨6, 0, 0, ⟨#[]⟩, [], exW⟩ ⟨#[67]⟩ = ⟨7, 3, 1, ⟨#[]⟩, [], []⟩ := by kernel_rfl
theorem ex_has : hasK (plain ⟨6, 0, 0, ⟨#[]⟩, [], exW⟩).f5 ⟨#[67]⟩ = true := by kernel_rfl
theorem ex_h1 : holdsV ⟨6, 0, 0, ⟨#[]⟩, [], exW⟩ 3 1 = true := by kernel_rfl
theorem ex_h0 : holdsV ⟨6, 0, 0, ⟨#[]⟩, [], exW⟩ 3 0 = false := by kernel_rfl
theorem ex_c1 : chkV ⟨6, 0, 0, ⟨#[]⟩, [], exD⟩ false 0 = 11 := by kernel_rfl
theorem ex_c2 : chkV ⟨6, 0, 0, ⟨#[]⟩, [], exW⟩ false 0 = 0 := by kernel_rfl
theorem ex_c3 : chkV ⟨8, 0, 0, ⟨#[]⟩, [], []⟩ false 0 = 10 := by kernel_rfl
theorem ex_dep : value_Depth.f 20 6 0 0 ⟨#[]⟩ [] exD = some 1 := by kernel_rfl
theorem ex_siz : value_Size.f 20 6 0 0 ⟨#[]⟩ [] exD = some 4 := by kernel_rfl
theorem ex_fewD : fewV ⟨6, 0, 0, ⟨#[]⟩, [], exD⟩ := by simp [exD, fewV, fewL, fewD, fewP]
theorem ex_fewP : fewV ⟨6, 0, 0, ⟨#[]⟩, [], exP⟩ := by simp [exP, fewV, fewL, fewD, fewP]
theorem ex_fewW : fewV ⟨6, 0, 0, ⟨#[]⟩, [], exW⟩ := by simp [exW, fewV, fewL, fewD, fewP]
theorem ex_fewL : fewV ⟨7, 3, 1, ⟨#[]⟩, [], []⟩ := by simp [fewV, fewL, fewD]
theorem C35_nil (w : World) (A : Option Addr) : k35.C w A ([] : List S35).length [] := ⟨rfl, by simp, fun h => absurd h (by simp)⟩
theorem C89_nil (w : World) (A : Option Addr) : k89.C w A ([] : List S89).length [] := ⟨rfl, by simp, fun h => absurd h (by simp)⟩
theorem C_lit3 (W : World) (e : TypeId) : k89.C (W.alloc (.cells #[.string ⟨#[66]⟩, .int .i64 2, .int .i64 1, .int .i64 0, .string ⟨#[]⟩, .slice none 0 0, .slice none 0 0, .string ⟨#[65]⟩, .int .i64 0, .int .i64 0, .int .i64 0, .string ⟨#[]⟩, .slice none 0 0, .slice none 0 0, .string ⟨#[66]⟩, .int .i64 2, .int .i64 2, .int .i64 0, .string ⟨#[]⟩, .slice none 0 0, .slice none 0 0] e)) (some ⟨W.heap.size, 0, none⟩) 3 exD := by
  refine ⟨rfl, by simp [exD], fun _ => ⟨_, rfl, fun j p hj => ?_⟩⟩
  have hc : ∀ o u, #[.string ⟨#[66]⟩, .int .i64 2, .int .i64 1, .int .i64 0, .string ⟨#[]⟩, .slice none 0 0, .slice none 0 0, .string ⟨#[65]⟩, .int .i64 0, .int .i64 0, .int .i64 0, .string ⟨#[]⟩, .slice none 0 0, .slice none 0 0, .string ⟨#[66]⟩, .int .i64 2, .int .i64 2, .int .i64 0, .string ⟨#[]⟩, .slice none 0 0, .slice none 0 0][o]? = some u → (W.alloc (.cells #[.string ⟨#[66]⟩, .int .i64 2, .int .i64 1, .int .i64 0, .string ⟨#[]⟩, .slice none 0 0, .slice none 0 0, .string ⟨#[65]⟩, .int .i64 0, .int .i64 0, .int .i64 0, .string ⟨#[]⟩, .slice none 0 0, .slice none 0 0, .string ⟨#[66]⟩, .int .i64 2, .int .i64 2, .int .i64 0, .string ⟨#[]⟩, .slice none 0 0, .slice none 0 0] e)).cell? ⟨W.heap.size, o, none⟩ = some u := fun o u h => by rw [World.cell?_alloc_new]; exact h
  match j, hj with
  | 0, hj =>
    obtain rfl : _ = p := Option.some.inj hj
    refine ⟨_, rfl, k89_mk _ _ (c5 := 0) (Nat.le_refl _) (C35_nil _ none) (c6 := 0) (Nat.le_refl _) (C89_nil _ none), fun i u hi => ?_⟩
    rw [Addr.add_lit]
    match i, hi with
    | 0, hi => exact hc 0 u hi
    | 1, hi => exact hc 1 u hi
    | 2, hi => exact hc 2 u hi
    | 3, hi => exact hc 3 u hi
    | 4, hi => exact hc 4 u hi
    | 5, hi => exact hc 5 u hi
    | 6, hi => exact hc 6 u hi
  | 1, hj =>
    obtain rfl : _ = p := Option.some.inj hj
    refine ⟨_, rfl, k89_mk _ _ (c5 := 0) (Nat.le_refl _) (C35_nil _ none) (c6 := 0) (Nat.le_refl _) (C89_nil _ none), fun i u hi => ?_⟩
    rw [Addr.add_lit]
    match i, hi with
    | 0, hi => exact hc 7 u hi
    | 1, hi => exact hc 8 u hi
    | 2, hi => exact hc 9 u hi
    | 3, hi => exact hc 10 u hi
    | 4, hi => exact hc 11 u hi
    | 5, hi => exact hc 12 u hi
    | 6, hi => exact hc 13 u hi
  | 2, hj =>
    obtain rfl : _ = p := Option.some.inj hj
    refine ⟨_, rfl, k89_mk _ _ (c5 := 0) (Nat.le_refl _) (C35_nil _ none) (c6 := 0) (Nat.le_refl _) (C89_nil _ none), fun i u hi => ?_⟩
    rw [Addr.add_lit]
    match i, hi with
    | 0, hi => exact hc 14 u hi
    | 1, hi => exact hc 15 u hi
    | 2, hi => exact hc 16 u hi
    | 3, hi => exact hc 17 u hi
    | 4, hi => exact hc 18 u hi
    | 5, hi => exact hc 19 u hi
    | 6, hi => exact hc 20 u hi
theorem C_lit1 (W : World) (e : TypeId) : k89.C (W.alloc (.cells #[.string ⟨#[66]⟩, .int .i64 2, .int .i64 1, .int .i64 0, .string ⟨#[]⟩, .slice none 0 0, .slice none 0 0] e)) (some ⟨W.heap.size, 0, none⟩) 1 exP := by
  refine ⟨rfl, by simp [exP], fun _ => ⟨_, rfl, fun j p hj => ?_⟩⟩
  have hc : ∀ o u, #[.string ⟨#[66]⟩, .int .i64 2, .int .i64 1, .int .i64 0, .string ⟨#[]⟩, .slice none 0 0, .slice none 0 0][o]? = some u → (W.alloc (.cells #[.string ⟨#[66]⟩, .int .i64 2, .int .i64 1, .int .i64 0, .string ⟨#[]⟩, .slice none 0 0, .slice none 0 0] e)).cell? ⟨W.heap.size, o, none⟩ = some u := fun o u h => by rw [World.cell?_alloc_new]; exact h
  match j, hj with
  | 0, hj =>
    obtain rfl : _ = p := Option.some.inj hj
    refine ⟨_, rfl, k89_mk _ _ (c5 := 0) (Nat.le_refl _) (C35_nil _ none) (c6 := 0) (Nat.le_refl _) (C89_nil _ none), fun i u hi => ?_⟩
    rw [Addr.add_lit]
    match i, hi with
    | 0, hi => exact hc 0 u hi
    | 1, hi => exact hc 1 u hi
    | 2, hi => exact hc 2 u hi
    | 3, hi => exact hc 3 u hi
    | 4, hi => exact hc 4 u hi
    | 5, hi => exact hc 5 u hi
    | 6, hi => exact hc 6 u hi
theorem vcheck_calls (v : S35) (A4 : Option Addr) (c4 : Nat) (A5 : Option Addr) (c5 : Nat) (stream : Bool) (w : World) (la4 : v.f4.length ≤ c4) (ra4 : k35.C w A4 v.f4.length v.f4) (la5 : v.f5.length ≤ c5) (ra5 : k89.C w A5 v.f5.length v.f5) :
    Calls Try.prog 52 #[.agg #[.int .i64 v.f0, .int .i64 v.f1, .int .i64 v.f2, .string v.f3, .slice A4 v.f4.length c4, .slice A5 v.f5.length c5], .bool stream] w fun e w' => e = .returned (.int .i64 (chkV v stream 0)) ∧ RowKit.Below w.heap.size w w' := by
  have hu35 := Try.underlying35
  have H := Aside0.mk (check_all v A4 c4 A5 c5 stream 0 (w.alloc (.cells #[.int .i64 v.f0, .int .i64 v.f1, .int .i64 v.f2, .string v.f3, .slice A4 v.f4.length c4, .slice A5 v.f5.length c5] 35)) (by omega) (by omega) la4 (Kd.C_alloc ra4 _) la5 (Kd.C_alloc ra5 _))
  have HB := Aside0.mk (below_alloc (RowKit.Below.refl w.heap.size w) (.cells #[.int .i64 v.f0, .int .i64 v.f1, .int .i64 v.f2, .string v.f3, .slice A4 v.f4.length c4, .slice A5 v.f5.length c5] 35))
  clear ra4 ra5
  go_enter Try.func52, Try.ntmps52
  go_wp2_with fail
  refine Calls.mono H.out ?_
  rintro e w1 ⟨rfl, hb⟩
  have HB2 := Aside0.mk (below_step HB.out hb)
  clear hb HB H
  go_wp2
  go_ret
  exact ⟨rfl, HB2.out⟩
def VF (w : World) (gD : Addr) (a5 : Option Addr) (W : World) : Prop := k89.C W (some gD) 3 exD ∧ k89.C W a5 2 exW ∧ RowKit.Below w.heap.size w W
theorem VF.below {w : World} {gD : Addr} {a5 : Option Addr} {W W' : World} (h : VF w gD a5 W) (hb : RowKit.Below W.heap.size W W') : VF w gD a5 W' :=
  ⟨Kd.C_below h.1 hb, Kd.C_below h.2.1 hb, h.2.2.trans (hb.mono h.2.2.size)⟩
theorem VF.alloc {w : World} {gD : Addr} {a5 : Option Addr} {W : World} (h : VF w gD a5 W) (o : Obj) : VF w gD a5 (W.alloc o) := h.below (below_alloc (RowKit.Below.refl _ W) o)
theorem VF.drew {w : World} {gD : Addr} {a5 : Option Addr} {W : World} (h : VF w gD a5 W) : VF w gD a5 W.drew := h.below (RowKit.Below.refl _ W).drew
theorem VF.drewN {w : World} {gD : Addr} {a5 : Option Addr} {W : World} (h : VF w gD a5 W) (n : Nat) : VF w gD a5 (W.drewN n) := h.below (pw_below_drewN (RowKit.Below.refl _ W) n)
theorem VF.c1 {w : World} {gD : Addr} {a5 : Option Addr} {W : World} (h : VF w gD a5 W) : k89.C W (some gD) 3 exD := h.1
theorem VF.c2 {w : World} {gD : Addr} {a5 : Option Addr} {W : World} (h : VF w gD a5 W) : k89.C W a5 2 exW := h.2.1
theorem KPl (W : World) (gD : Addr) (h : k89.C W (some gD) 3 exD) : Calls Try.prog 59 #[.agg #[.int .i64 6, .int .i64 0, .int .i64 0, .string ⟨#[]⟩, .slice none 0 0, .slice (some gD) 3 3]] W fun e w' => ∃ p4 q4 p5 q5, e = .returned (.agg #[.int .i64 6, .int .i64 0, .int .i64 0, .string ⟨#[]⟩, .slice p4 0 q4, .slice p5 1 q5]) ∧ 1 ≤ q5 ∧ k89.C w' p5 1 exP ∧ RowKit.Below W.heap.size W w' := by
  refine (plain59_all ⟨6, 0, 0, ⟨#[]⟩, [], exD⟩ none 0 (some gD) 3 W ex_fewD (Nat.le_refl _) (C35_nil _ _) (Nat.le_refl _) h).mono ?_
  rintro e w' ⟨v4, v5, rfl, r4, r5, hb⟩
  rw [ex_plain] at r4 r5 ⊢
  obtain ⟨a, c, rfl, -, -⟩ := Kd.R_reads r4
  obtain ⟨a', c', rfl, h1, h2⟩ := Kd.R_reads r5
  exact ⟨a, c, a', c', rfl, h1, h2, hb⟩
theorem KEq (W : World) (p4 : Option Addr) (q4 : Nat) (p5 : Option Addr) (q5 : Nat) (r5 : Option Addr) (m5 : Nat) (h1 : 1 ≤ q5) (h2 : k89.C W p5 1 exP) (h3 : 1 ≤ m5) (h4 : k89.C W r5 1 exP) : Calls Try.prog 58 #[.agg #[.int .i64 6, .int .i64 0, .int .i64 0, .string ⟨#[]⟩, .slice p4 0 q4, .slice p5 1 q5], .agg #[.int .i64 6, .int .i64 0, .int .i64 0, .string ⟨#[]⟩, .slice none 0 0, .slice r5 1 m5]] W fun e w' => e = .returned (.bool true) ∧ RowKit.Below W.heap.size W w' := by
  refine (equal_all ⟨6, 0, 0, ⟨#[]⟩, [], exP⟩ ⟨6, 0, 0, ⟨#[]⟩, [], exP⟩ p4 q4 p5 q5 none 0 r5 m5 W (Nat.zero_le _) (C35_nil _ _) h1 h2 (Nat.le_refl _) (C35_nil _ _) h3 h4).mono ?_
  rintro e w' ⟨he, hb⟩
  rw [eqB_true rfl] at he
  exact ⟨he, hb⟩
theorem KEl (W : World) (b4 : Option Addr) (d4 : Nat) (b5 : Option Addr) (d5 : Nat) : Calls Try.prog 58 #[.agg #[.int .i64 7, .int .i64 3, .int .i64 1, .string ⟨#[]⟩, .slice b4 0 d4, .slice b5 0 d5], .agg #[.int .i64 7, .int .i64 3, .int .i64 1, .string ⟨#[]⟩, .slice none 0 0, .slice none 0 0]] W fun e w' => e = .returned (.bool true) ∧ RowKit.Below W.heap.size W w' := by
  refine (equal_all ⟨7, 3, 1, ⟨#[]⟩, [], []⟩ ⟨7, 3, 1, ⟨#[]⟩, [], []⟩ b4 d4 b5 d5 none 0 none 0 W (Nat.zero_le _) (C35_nil _ _) (Nat.zero_le _) (C89_nil _ _) (Nat.le_refl _) (C35_nil _ _) (Nat.le_refl _) (C89_nil _ _)).mono ?_
  rintro e w' ⟨he, hb⟩
  rw [eqB_true rfl] at he
  exact ⟨he, hb⟩
theorem KH1 (W : World) (a4 : Option Addr) (n4 : Nat) (a5 : Option Addr) (n5 : Nat) (h1 : 2 ≤ n5) (h2 : k89.C W a5 2 exW) : Calls Try.prog 70 #[.agg #[.int .i64 6, .int .i64 0, .int .i64 0, .string ⟨#[]⟩, .slice a4 0 n4, .slice a5 2 n5], .agg #[.int .i64 3, .int .i64 1]] W fun e w' => e = .returned (.bool true) ∧ RowKit.Below W.heap.size W w' := by
  refine (Holds_calls ⟨6, 0, 0, ⟨#[]⟩, [], exW⟩ a4 n4 a5 n5 3 1 W ex_fewW (Nat.zero_le _) (C35_nil _ _) h1 h2).mono ?_
  rintro e w' ⟨he, hb⟩
  rw [ex_h1] at he
  exact ⟨he, hb⟩
theorem KH0 (W : World) (a4 : Option Addr) (n4 : Nat) (a5 : Option Addr) (n5 : Nat) (h1 : 2 ≤ n5) (h2 : k89.C W a5 2 exW) : Calls Try.prog 70 #[.agg #[.int .i64 6, .int .i64 0, .int .i64 0, .string ⟨#[]⟩, .slice a4 0 n4, .slice a5 2 n5], .agg #[.int .i64 3, .int .i64 0]] W fun e w' => e = .returned (.bool false) ∧ RowKit.Below W.heap.size W w' := by
  refine (Holds_calls ⟨6, 0, 0, ⟨#[]⟩, [], exW⟩ a4 n4 a5 n5 3 0 W ex_fewW (Nat.zero_le _) (C35_nil _ _) h1 h2).mono ?_
  rintro e w' ⟨he, hb⟩
  rw [ex_h0] at he
  exact ⟨he, hb⟩
theorem KC1 (W : World) (gD : Addr) (h : k89.C W (some gD) 3 exD) : Calls Try.prog 52 #[.agg #[.int .i64 6, .int .i64 0, .int .i64 0, .string ⟨#[]⟩, .slice none 0 0, .slice (some gD) 3 3], .bool false] W fun e w' => e = .returned (.int .i64 11) ∧ RowKit.Below W.heap.size W w' := by
  refine (vcheck_calls ⟨6, 0, 0, ⟨#[]⟩, [], exD⟩ none 0 (some gD) 3 false W (Nat.le_refl _) (C35_nil _ _) (Nat.le_refl _) h).mono ?_
  rintro e w' ⟨he, hb⟩
  rw [ex_c1] at he
  exact ⟨he, hb⟩
theorem KC2 (W : World) (a4 : Option Addr) (n4 : Nat) (a5 : Option Addr) (n5 : Nat) (h1 : 2 ≤ n5) (h2 : k89.C W a5 2 exW) : Calls Try.prog 52 #[.agg #[.int .i64 6, .int .i64 0, .int .i64 0, .string ⟨#[]⟩, .slice a4 0 n4, .slice a5 2 n5], .bool false] W fun e w' => e = .returned (.int .i64 0) ∧ RowKit.Below W.heap.size W w' := by
  refine (vcheck_calls ⟨6, 0, 0, ⟨#[]⟩, [], exW⟩ a4 n4 a5 n5 false W (Nat.zero_le _) (C35_nil _ _) h1 h2).mono ?_
  rintro e w' ⟨he, hb⟩
  rw [ex_c2] at he
  exact ⟨he, hb⟩
theorem KC3 (W : World) : Calls Try.prog 52 #[.agg #[.int .i64 8, .int .i64 0, .int .i64 0, .string ⟨#[]⟩, .slice none 0 0, .slice none 0 0], .bool false] W fun e w' => e = .returned (.int .i64 10) ∧ RowKit.Below W.heap.size W w' := by
  refine (vcheck_calls ⟨8, 0, 0, ⟨#[]⟩, [], []⟩ none 0 none 0 false W (Nat.le_refl _) (C35_nil _ _) (Nat.le_refl _) (C89_nil _ _)).mono ?_
  rintro e w' ⟨he, hb⟩
  rw [ex_c3] at he
  exact ⟨he, hb⟩
theorem KDe (W : World) (gD : Addr) (h : k89.C W (some gD) 3 exD) : Calls Try.prog 54 #[.agg #[.int .i64 6, .int .i64 0, .int .i64 0, .string ⟨#[]⟩, .slice none 0 0, .slice (some gD) 3 3]] W fun e w' => e = .returned (.int .i64 1) ∧ RowKit.Below W.heap.size W w' :=
  value_Depth.calls 20 6 0 0 ⟨#[]⟩ none 0 [] (some gD) 3 exD 1 W (C35_nil _ _) (Nat.le_refl _) h (Nat.le_refl _) ex_dep
theorem KSi (W : World) (gD : Addr) (h : k89.C W (some gD) 3 exD) : Calls Try.prog 56 #[.agg #[.int .i64 6, .int .i64 0, .int .i64 0, .string ⟨#[]⟩, .slice none 0 0, .slice (some gD) 3 3]] W fun e w' => e = .returned (.int .i64 4) ∧ RowKit.Below W.heap.size W w' :=
  value_Size.calls 20 6 0 0 ⟨#[]⟩ none 0 [] (some gD) 3 exD 4 W (C35_nil _ _) (Nat.le_refl _) h (Nat.le_refl _) ex_siz
theorem KSa (W : World) (gD : Addr) (h : k89.C W (some gD) 3 exD) (p4 : Option Addr) (q4 : Nat) (p5 : Option Addr) (q5 : Nat) (h1 : 1 ≤ q5) (h2 : k89.C W p5 1 exP) : Calls Try.prog 61 #[.agg #[.int .i64 6, .int .i64 0, .int .i64 0, .string ⟨#[]⟩, .slice none 0 0, .slice (some gD) 3 3], .agg #[.int .i64 6, .int .i64 0, .int .i64 0, .string ⟨#[]⟩, .slice p4 0 q4, .slice p5 1 q5]] W fun e w' => e = .returned (.bool true) ∧ RowKit.Below W.heap.size W w' := by
  refine (same_calls ⟨6, 0, 0, ⟨#[]⟩, [], exD⟩ ⟨6, 0, 0, ⟨#[]⟩, [], exP⟩ none 0 (some gD) 3 p4 q4 p5 q5 W ex_fewD ex_fewP (Nat.le_refl _) (C35_nil _ _) (Nat.le_refl _) h (Nat.zero_le _) (C35_nil _ _) h1 h2).mono ?_
  rintro e w' ⟨he, hb⟩
  rw [ex_plain, ex_plainP, eqB_true rfl] at he
  exact ⟨he, hb⟩
theorem KGe (W : World) (a4 : Option Addr) (n4 : Nat) (a5 : Option Addr) (n5 : Nat) (h1 : 2 ≤ n5) (h2 : k89.C W a5 2 exW) : Calls Try.prog 63 #[.agg #[.int .i64 6, .int .i64 0, .int .i64 0, .string ⟨#[]⟩, .slice a4 0 n4, .slice a5 2 n5], .string ⟨#[67]⟩] W fun e w' => ∃ b4 d4 b5 d5, e = .returned (.tuple #[.agg #[.int .i64 7, .int .i64 3, .int .i64 1, .string ⟨#[]⟩, .slice b4 0 d4, .slice b5 0 d5], .bool true]) ∧ RowKit.Below W.heap.size W w' := by
  refine (get_calls ⟨6, 0, 0, ⟨#[]⟩, [], exW⟩ ⟨#[67]⟩ a4 n4 a5 n5 W ex_fewW (Nat.zero_le _) (C35_nil _ _) h1 h2).mono ?_
  rintro e w' ⟨v4, v5, rfl, r4, r5, hb⟩
  rw [ex_get] at r4 r5 ⊢
  rw [ex_has]
  obtain ⟨a, c, rfl, -, -⟩ := Kd.R_reads r4
  obtain ⟨a', c', rfl, h1, h2⟩ := Kd.R_reads r5
  exact ⟨a, c, a', c', rfl, hb⟩
theorem KWi (W : World) (gD : Addr) (h : k89.C W (some gD) 3 exD) : Calls Try.prog 65 #[.agg #[.int .i64 6, .int .i64 0, .int .i64 0, .string ⟨#[]⟩, .slice none 0 0, .slice (some gD) 3 3], .string ⟨#[67]⟩, .agg #[.int .i64 7, .int .i64 3, .int .i64 1, .string ⟨#[]⟩, .slice none 0 0, .slice none 0 0]] W fun e w' => ∃ a4 n4 a5 n5, e = .returned (.agg #[.int .i64 6, .int .i64 0, .int .i64 0, .string ⟨#[]⟩, .slice a4 0 n4, .slice a5 2 n5]) ∧ 2 ≤ n5 ∧ k89.C w' a5 2 exW ∧ RowKit.Below W.heap.size W w' := by
  refine (with_calls ⟨6, 0, 0, ⟨#[]⟩, [], exD⟩ ⟨7, 3, 1, ⟨#[]⟩, [], []⟩ ⟨#[67]⟩ none 0 (some gD) 3 none 0 none 0 W ex_fewD ex_fewL (Nat.le_refl _) (C35_nil _ _) (Nat.le_refl _) h (Nat.le_refl _) (C35_nil _ _) (Nat.le_refl _) (C89_nil _ _)).mono ?_
  rintro e w' ⟨a4, n4, a5, n5, rfl, h1, h2, h3, h4, hb⟩
  rw [ex_with] at h3 h4 ⊢
  rw [ex_plain]
  exact ⟨a4, n4, a5, n5, rfl, h3, h4, hb⟩
theorem links_not_nil (b : Addr) (w : World) : (binOp .eql 103 (.func (.func 127) #[] #[.pointer (some b)]) .nilFunc).run Try.prog w = .ok (.bool false) w := by
  have h : ∀ d : Nat, (Op.equalIn (d + 1) 103 (.func (.func 127) #[] #[.pointer (some b)]) .nilFunc).run Try.prog w = .ok false w := fun d => by
    simp [Op.equalIn, run_underlying Try.underlying103]
  simp only [binOp]
  simp [Op.equal, Op.maxDepth, h 9999]
end Go.Proofs.Ytogpnkkoablmiaa.V
end
section
namespace Go.Proofs.Ytogpnkkoablmiaa.V
open Go.Shelf Go.RowKit Go.Lib Go.Sort Go.Proofs.Ytogpnkkoablmiaa.Q Go.Proofs.YtogpnkkoablmiaaW.PrintWords Go.Proofs.YtogpnkkoablmiaaW.PrintLast Go.Proofs.YtogpnkkoablmiaaW.PrintMore
set_option linter.unusedVariables false
set_option linter.unusedSimpArgs false
set_option maxHeartbeats 20000000 in
set_option maxRecDepth 100000 in
theorem values_calls (w : World) : Calls Try.prog 51 #[] w fun e w' => e = .returned (.bool true) ∧ RowKit.Below w.heap.size w w' := by
  have hu35 := Try.underlying35
  have hu33 := Try.underlying33
  have hu28 := Try.underlying28
  have hu89 := Try.underlying89
  have T0 := Aside0.mk True.intro
  go_enter Try.func51, Try.ntmps51
  go_wp2_with fail
  have C4 := Aside0.mk (Kd.C_alloc (Kd.C_alloc (C_lit3 (w.alloc (.cells #[.int .i64 2, .int .i64 1, .int .i64 0, .string ⟨#[]⟩, .slice none 0 0, .slice none 0 0] 35)) 89) (.cells #[.int .i64 6, .int .i64 0, .int .i64 0, .string ⟨#[]⟩, .slice none 0 0, .slice (some ⟨w.heap.size + 1, 0, none⟩) 3 3] 35)) (.cells #[.int .i64 7, .int .i64 3, .int .i64 1, .string ⟨#[]⟩, .slice none 0 0, .slice none 0 0] 35))
  have B1 := Aside0.mk (blk_alloc (blk_alloc (blk_alloc (blk_new w (.cells #[.int .i64 2, .int .i64 1, .int .i64 0, .string ⟨#[]⟩, .slice none 0 0, .slice none 0 0] 35)) (.cells #[.string ⟨#[66]⟩, .int .i64 2, .int .i64 1, .int .i64 0, .string ⟨#[]⟩, .slice none 0 0, .slice none 0 0, .string ⟨#[65]⟩, .int .i64 0, .int .i64 0, .int .i64 0, .string ⟨#[]⟩, .slice none 0 0, .slice none 0 0, .string ⟨#[66]⟩, .int .i64 2, .int .i64 2, .int .i64 0, .string ⟨#[]⟩, .slice none 0 0, .slice none 0 0] 89)) (.cells #[.int .i64 6, .int .i64 0, .int .i64 0, .string ⟨#[]⟩, .slice none 0 0, .slice (some ⟨w.heap.size + 1, 0, none⟩) 3 3] 35)) (.cells #[.int .i64 7, .int .i64 3, .int .i64 1, .string ⟨#[]⟩, .slice none 0 0, .slice none 0 0] 35))
  have B2 := Aside0.mk (blk_alloc (blk_new ((w.alloc (.cells #[.int .i64 2, .int .i64 1, .int .i64 0, .string ⟨#[]⟩, .slice none 0 0, .slice none 0 0] 35)).alloc (.cells #[.string ⟨#[66]⟩, .int .i64 2, .int .i64 1, .int .i64 0, .string ⟨#[]⟩, .slice none 0 0, .slice none 0 0, .string ⟨#[65]⟩, .int .i64 0, .int .i64 0, .int .i64 0, .string ⟨#[]⟩, .slice none 0 0, .slice none 0 0, .string ⟨#[66]⟩, .int .i64 2, .int .i64 2, .int .i64 0, .string ⟨#[]⟩, .slice none 0 0, .slice none 0 0] 89)) (.cells #[.int .i64 6, .int .i64 0, .int .i64 0, .string ⟨#[]⟩, .slice none 0 0, .slice (some ⟨w.heap.size + 1, 0, none⟩) 3 3] 35)) (.cells #[.int .i64 7, .int .i64 3, .int .i64 1, .string ⟨#[]⟩, .slice none 0 0, .slice none 0 0] 35))
  have B3 := Aside0.mk (blk_new (((w.alloc (.cells #[.int .i64 2, .int .i64 1, .int .i64 0, .string ⟨#[]⟩, .slice none 0 0, .slice none 0 0] 35)).alloc (.cells #[.string ⟨#[66]⟩, .int .i64 2, .int .i64 1, .int .i64 0, .string ⟨#[]⟩, .slice none 0 0, .slice none 0 0, .string ⟨#[65]⟩, .int .i64 0, .int .i64 0, .int .i64 0, .string ⟨#[]⟩, .slice none 0 0, .slice none 0 0, .string ⟨#[66]⟩, .int .i64 2, .int .i64 2, .int .i64 0, .string ⟨#[]⟩, .slice none 0 0, .slice none 0 0] 89)).alloc (.cells #[.int .i64 6, .int .i64 0, .int .i64 0, .string ⟨#[]⟩, .slice none 0 0, .slice (some ⟨w.heap.size + 1, 0, none⟩) 3 3] 35)) (.cells #[.int .i64 7, .int .i64 3, .int .i64 1, .string ⟨#[]⟩, .slice none 0 0, .slice none 0 0] 35))
  have HB := Aside0.mk (below_alloc (below_alloc (below_alloc (below_alloc (RowKit.Below.refl w.heap.size w) (.cells #[.int .i64 2, .int .i64 1, .int .i64 0, .string ⟨#[]⟩, .slice none 0 0, .slice none 0 0] 35)) (.cells #[.string ⟨#[66]⟩, .int .i64 2, .int .i64 1, .int .i64 0, .string ⟨#[]⟩, .slice none 0 0, .slice none 0 0, .string ⟨#[65]⟩, .int .i64 0, .int .i64 0, .int .i64 0, .string ⟨#[]⟩, .slice none 0 0, .slice none 0 0, .string ⟨#[66]⟩, .int .i64 2, .int .i64 2, .int .i64 0, .string ⟨#[]⟩, .slice none 0 0, .slice none 0 0] 89)) (.cells #[.int .i64 6, .int .i64 0, .int .i64 0, .string ⟨#[]⟩, .slice none 0 0, .slice (some ⟨w.heap.size + 1, 0, none⟩) 3 3] 35)) (.cells #[.int .i64 7, .int .i64 3, .int .i64 1, .string ⟨#[]⟩, .slice none 0 0, .slice none 0 0] 35))
  simp only [World.size_alloc] at C4 B2 B3
  have hs4 : ((((w.alloc (.cells #[.int .i64 2, .int .i64 1, .int .i64 0, .string ⟨#[]⟩, .slice none 0 0, .slice none 0 0] 35)).alloc (.cells #[.string ⟨#[66]⟩, .int .i64 2, .int .i64 1, .int .i64 0, .string ⟨#[]⟩, .slice none 0 0, .slice none 0 0, .string ⟨#[65]⟩, .int .i64 0, .int .i64 0, .int .i64 0, .string ⟨#[]⟩, .slice none 0 0, .slice none 0 0, .string ⟨#[66]⟩, .int .i64 2, .int .i64 2, .int .i64 0, .string ⟨#[]⟩, .slice none 0 0, .slice none 0 0] 89)).alloc (.cells #[.int .i64 6, .int .i64 0, .int .i64 0, .string ⟨#[]⟩, .slice none 0 0, .slice (some ⟨w.heap.size + 1, 0, none⟩) 3 3] 35)).alloc (.cells #[.int .i64 7, .int .i64 3, .int .i64 1, .string ⟨#[]⟩, .slice none 0 0, .slice none 0 0] 35)).heap.size = w.heap.size + 1 + 1 + 1 + 1 := by simp only [World.size_alloc]
  refine Calls.mono (KWi _ ⟨w.heap.size + 1, 0, none⟩ C4.out) ?_
  rintro e w1 ⟨a4, n4, a5, n5, rfl, hn, hC, hb⟩
  have LW := Aside0.mk hn
  have F := Aside0.mk (show VF w ⟨w.heap.size + 1, 0, none⟩ a5 w1 from ⟨Kd.C_below C4.out hb, hC, HB.out.trans (hb.mono HB.out.size)⟩)
  have D1 := Aside0.mk (blk_below B1.out hb)
  have D2 := Aside0.mk (blk_below B2.out hb)
  have D3 := Aside0.mk (blk_below B3.out hb)
  have hs1 : w.heap.size + 1 + 1 + 1 < w1.heap.size := by have := hb.size; omega
  clear hb hC hn B1 B2 B3 C4 HB hs4
  have hnn := links_not_nil
  go_wp2_with fail
  refine Calls.mono (Links_calls _ _ _ _ _ _ _ _ _ _ _) ?_
  rintro e w1' ⟨rfl, rfl⟩
  go_wp2_with fail
  refine Calls.mono (KGe _ a4 n4 a5 n5 LW.out ((F.out.alloc (.cells #[.int .i64 6, .int .i64 0, .int .i64 0, .string ⟨#[]⟩, .slice a4 0 n4, .slice a5 2 n5] 35)).alloc (.cells #[.int .i64 6, .int .i64 0, .int .i64 0, .string ⟨#[]⟩, .slice a4 0 n4, .slice a5 2 n5] 35)).2.1) ?_
  rintro e w2 ⟨b4, d4, b5, d5, rfl, hb⟩
  replace F := Aside0.mk (((F.out.alloc (.cells #[.int .i64 6, .int .i64 0, .int .i64 0, .string ⟨#[]⟩, .slice a4 0 n4, .slice a5 2 n5] 35)).alloc (.cells #[.int .i64 6, .int .i64 0, .int .i64 0, .string ⟨#[]⟩, .slice a4 0 n4, .slice a5 2 n5] 35)).below hb)
  have E1 := Aside0.mk (blk_below (blk_alloc (blk_alloc D1.out (.cells #[.int .i64 6, .int .i64 0, .int .i64 0, .string ⟨#[]⟩, .slice a4 0 n4, .slice a5 2 n5] 35)) (.cells #[.int .i64 6, .int .i64 0, .int .i64 0, .string ⟨#[]⟩, .slice a4 0 n4, .slice a5 2 n5] 35)) hb)
  have E2 := Aside0.mk (blk_below (blk_alloc (blk_alloc D2.out (.cells #[.int .i64 6, .int .i64 0, .int .i64 0, .string ⟨#[]⟩, .slice a4 0 n4, .slice a5 2 n5] 35)) (.cells #[.int .i64 6, .int .i64 0, .int .i64 0, .string ⟨#[]⟩, .slice a4 0 n4, .slice a5 2 n5] 35)) hb)
  have E3 := Aside0.mk (blk_below (blk_alloc (blk_alloc D3.out (.cells #[.int .i64 6, .int .i64 0, .int .i64 0, .string ⟨#[]⟩, .slice a4 0 n4, .slice a5 2 n5] 35)) (.cells #[.int .i64 6, .int .i64 0, .int .i64 0, .string ⟨#[]⟩, .slice a4 0 n4, .slice a5 2 n5] 35)) hb)
  have E4 := Aside0.mk (blk_below (blk_alloc (blk_new w1 (.cells #[.int .i64 6, .int .i64 0, .int .i64 0, .string ⟨#[]⟩, .slice a4 0 n4, .slice a5 2 n5] 35)) (.cells #[.int .i64 6, .int .i64 0, .int .i64 0, .string ⟨#[]⟩, .slice a4 0 n4, .slice a5 2 n5] 35)) hb)
  have hs2 : w1.heap.size < w2.heap.size := by have h := hb.size; simp only [World.size_alloc] at h; omega
  clear hb D1 D2 D3
  go_upto_region 8 with fail
  replace F := Aside0.mk (F.out.alloc (.cells #[.int .i64 7, .int .i64 3, .int .i64 1, .string ⟨#[]⟩, .slice b4 0 d4, .slice b5 0 d5] 35))
  have G1 := Aside0.mk (blk_alloc E1.out (.cells #[.int .i64 7, .int .i64 3, .int .i64 1, .string ⟨#[]⟩, .slice b4 0 d4, .slice b5 0 d5] 35))
  have G2 := Aside0.mk (blk_alloc E2.out (.cells #[.int .i64 7, .int .i64 3, .int .i64 1, .string ⟨#[]⟩, .slice b4 0 d4, .slice b5 0 d5] 35))
  have G3 := Aside0.mk (blk_alloc E3.out (.cells #[.int .i64 7, .int .i64 3, .int .i64 1, .string ⟨#[]⟩, .slice b4 0 d4, .slice b5 0 d5] 35))
  have G4 := Aside0.mk (blk_alloc E4.out (.cells #[.int .i64 7, .int .i64 3, .int .i64 1, .string ⟨#[]⟩, .slice b4 0 d4, .slice b5 0 d5] 35))
  have G5 := Aside0.mk (blk_new w2 (.cells #[.int .i64 7, .int .i64 3, .int .i64 1, .string ⟨#[]⟩, .slice b4 0 d4, .slice b5 0 d5] 35))
  generalize w2.alloc (.cells #[.int .i64 7, .int .i64 3, .int .i64 1, .string ⟨#[]⟩, .slice b4 0 d4, .slice b5 0 d5] 35) = w4 at *
  clear E1 E2 E3 E4
  obtain ⟨u0, u1, u2, u3, u4, u5⟩ := box35 G1.out
  obtain ⟨v0, v1, v2, v3, v4, v5⟩ := box35 G2.out
  obtain ⟨x0, x1, x2, x3, x4, x5⟩ := box35 G3.out
  obtain ⟨y0, y1, y2, y3, y4, y5⟩ := box35 G4.out
  obtain ⟨z0, z1, z2, z3, z4, z5⟩ := box35 G5.out
  go_region_held3 (fun w' => w'.cell? ⟨w.heap.size, 0, none⟩ = some (.int .i64 2) ∧ w'.cell? ⟨w.heap.size, 1, none⟩ = some (.int .i64 1) ∧ w'.cell? ⟨w.heap.size, 2, none⟩ = some (.int .i64 0) ∧ w'.cell? ⟨w.heap.size, 3, none⟩ = some (.string ⟨#[]⟩) ∧ w'.cell? ⟨w.heap.size, 4, none⟩ = some (.slice none 0 0) ∧ w'.cell? ⟨w.heap.size, 5, none⟩ = some (.slice none 0 0) ∧ w'.cell? ⟨w.heap.size + 1 + 1, 0, none⟩ = some (.int .i64 6) ∧ w'.cell? ⟨w.heap.size + 1 + 1, 1, none⟩ = some (.int .i64 0) ∧ w'.cell? ⟨w.heap.size + 1 + 1, 2, none⟩ = some (.int .i64 0) ∧ w'.cell? ⟨w.heap.size + 1 + 1, 3, none⟩ = some (.string ⟨#[]⟩) ∧ w'.cell? ⟨w.heap.size + 1 + 1, 4, none⟩ = some (.slice none 0 0) ∧ w'.cell? ⟨w.heap.size + 1 + 1, 5, none⟩ = some (.slice (some ⟨w.heap.size + 1, 0, none⟩) 3 3) ∧ w'.cell? ⟨w.heap.size + 1 + 1 + 1, 0, none⟩ = some (.int .i64 7) ∧ w'.cell? ⟨w.heap.size + 1 + 1 + 1, 1, none⟩ = some (.int .i64 3) ∧ w'.cell? ⟨w.heap.size + 1 + 1 + 1, 2, none⟩ = some (.int .i64 1) ∧ w'.cell? ⟨w.heap.size + 1 + 1 + 1, 3, none⟩ = some (.string ⟨#[]⟩) ∧ w'.cell? ⟨w.heap.size + 1 + 1 + 1, 4, none⟩ = some (.slice none 0 0) ∧ w'.cell? ⟨w.heap.size + 1 + 1 + 1, 5, none⟩ = some (.slice none 0 0) ∧ w'.cell? ⟨w1.heap.size, 0, none⟩ = some (.int .i64 6) ∧ w'.cell? ⟨w1.heap.size, 1, none⟩ = some (.int .i64 0) ∧ w'.cell? ⟨w1.heap.size, 2, none⟩ = some (.int .i64 0) ∧ w'.cell? ⟨w1.heap.size, 3, none⟩ = some (.string ⟨#[]⟩) ∧ w'.cell? ⟨w1.heap.size, 4, none⟩ = some (.slice a4 0 n4) ∧ w'.cell? ⟨w1.heap.size, 5, none⟩ = some (.slice a5 2 n5) ∧ w'.cell? ⟨w2.heap.size, 0, none⟩ = some (.int .i64 7) ∧ w'.cell? ⟨w2.heap.size, 1, none⟩ = some (.int .i64 3) ∧ w'.cell? ⟨w2.heap.size, 2, none⟩ = some (.int .i64 1) ∧ w'.cell? ⟨w2.heap.size, 3, none⟩ = some (.string ⟨#[]⟩) ∧ w'.cell? ⟨w2.heap.size, 4, none⟩ = some (.slice b4 0 d4) ∧ w'.cell? ⟨w2.heap.size, 5, none⟩ = some (.slice b5 0 d5))
    (first
      | go_keep
      | (go_split_ands
         refine ⟨?_, ?_, ?_, ?_, ?_, ?_, ?_, ?_, ?_, ?_, ?_, ?_, ?_, ?_, ?_, ?_, ?_, ?_, ?_, ?_, ?_, ?_, ?_, ?_, ?_, ?_, ?_, ?_, ?_, ?_⟩ <;> exact (hb_.cell (World.block_lt_of_cell? _ _ (by assumption))).trans (by assumption)))
    ((first
      | (go_at_call 61; (with_reducible refine Calls.mono (KSa _ ⟨w.heap.size + 1, 0, none⟩ ?_ _ _ _ _ ?_ ?_) ?_); (· (exact VF.c1 (w := w) (a5 := a5) (by (with_reducible repeat (first | apply VF.alloc | apply VF.drewN | apply VF.drew)); exact F.out))); (· (exact Q2.out)); (· ((with_reducible repeat (first | apply Kd.C_alloc | apply Kd.C_drewN | apply Kd.C_drew)); exact P2.out)); rintro e wk ⟨rfl, hb_⟩; replace F := Aside0.mk (VF.below (by (with_reducible repeat (first | apply VF.alloc | apply VF.drewN | apply VF.drew)); exact F.out) hb_))
      | (go_at_call 59; have T9 := T8; clear T9; (with_reducible refine Calls.mono (KPl _ ⟨w.heap.size + 1, 0, none⟩ ?_) ?_); (· (exact VF.c1 (w := w) (a5 := a5) (by (with_reducible repeat (first | apply VF.alloc | apply VF.drewN | apply VF.drew)); exact F.out))); rintro e wk ⟨p4', q4', p5', q5', rfl, hq_, hp_, hb_⟩; replace F := Aside0.mk (VF.below (by (with_reducible repeat (first | apply VF.alloc | apply VF.drewN | apply VF.drew)); exact F.out) hb_); have Q2 := Aside0.mk hq_; have P2 := Aside0.mk hp_; clear hq_ hp_)
      | (go_at_call 56; (with_reducible refine Calls.mono (KSi _ ⟨w.heap.size + 1, 0, none⟩ ?_) ?_); (· (exact VF.c1 (w := w) (a5 := a5) (by (with_reducible repeat (first | apply VF.alloc | apply VF.drewN | apply VF.drew)); exact F.out))); rintro e wk ⟨rfl, hb_⟩; replace F := Aside0.mk (VF.below (by (with_reducible repeat (first | apply VF.alloc | apply VF.drewN | apply VF.drew)); exact F.out) hb_); have T8 := T0)
      | (go_at_call 54; (with_reducible refine Calls.mono (KDe _ ⟨w.heap.size + 1, 0, none⟩ ?_) ?_); (· (exact VF.c1 (w := w) (a5 := a5) (by (with_reducible repeat (first | apply VF.alloc | apply VF.drewN | apply VF.drew)); exact F.out))); rintro e wk ⟨rfl, hb_⟩; replace F := Aside0.mk (VF.below (by (with_reducible repeat (first | apply VF.alloc | apply VF.drewN | apply VF.drew)); exact F.out) hb_))
      | (go_at_call 52; (with_reducible refine Calls.mono (KC3 _) ?_); rintro e wk ⟨rfl, hb_⟩; replace F := Aside0.mk (VF.below (by (with_reducible repeat (first | apply VF.alloc | apply VF.drewN | apply VF.drew)); exact F.out) hb_))
      | (go_at_call 52; (with_reducible refine Calls.mono (KC2 _ a4 n4 a5 n5 LW.out ?_) ?_); (· (exact VF.c2 (w := w) (gD := ⟨w.heap.size + 1, 0, none⟩) (by (with_reducible repeat (first | apply VF.alloc | apply VF.drewN | apply VF.drew)); exact F.out))); rintro e wk ⟨rfl, hb_⟩; replace F := Aside0.mk (VF.below (by (with_reducible repeat (first | apply VF.alloc | apply VF.drewN | apply VF.drew)); exact F.out) hb_))
      | (go_at_call 52; (with_reducible refine Calls.mono (KC1 _ ⟨w.heap.size + 1, 0, none⟩ ?_) ?_); (· (exact VF.c1 (w := w) (a5 := a5) (by (with_reducible repeat (first | apply VF.alloc | apply VF.drewN | apply VF.drew)); exact F.out))); rintro e wk ⟨rfl, hb_⟩; replace F := Aside0.mk (VF.below (by (with_reducible repeat (first | apply VF.alloc | apply VF.drewN | apply VF.drew)); exact F.out) hb_))
      | (go_at_call 70; (with_reducible refine Calls.mono (KH0 _ a4 n4 a5 n5 LW.out ?_) ?_); (· (exact VF.c2 (w := w) (gD := ⟨w.heap.size + 1, 0, none⟩) (by (with_reducible repeat (first | apply VF.alloc | apply VF.drewN | apply VF.drew)); exact F.out))); rintro e wk ⟨rfl, hb_⟩; replace F := Aside0.mk (VF.below (by (with_reducible repeat (first | apply VF.alloc | apply VF.drewN | apply VF.drew)); exact F.out) hb_))
      | (go_at_call 70; (with_reducible refine Calls.mono (KH1 _ a4 n4 a5 n5 LW.out ?_) ?_); (· (exact VF.c2 (w := w) (gD := ⟨w.heap.size + 1, 0, none⟩) (by (with_reducible repeat (first | apply VF.alloc | apply VF.drewN | apply VF.drew)); exact F.out))); rintro e wk ⟨rfl, hb_⟩; replace F := Aside0.mk (VF.below (by (with_reducible repeat (first | apply VF.alloc | apply VF.drewN | apply VF.drew)); exact F.out) hb_))
      | (go_at_call 58; (with_reducible refine Calls.mono (KEl _ b4 d4 b5 d5) ?_); rintro e wk ⟨rfl, hb_⟩; replace F := Aside0.mk (VF.below (by (with_reducible repeat (first | apply VF.alloc | apply VF.drewN | apply VF.drew)); exact F.out) hb_))
      | (go_at_call 58; have T9 := HL; clear T9; (with_reducible refine Calls.mono (KEq _ _ _ _ _ _ 1 ?_ ?_ (Nat.le_refl _) ?_) ?_); (· (exact Q1.out)); (· ((with_reducible repeat (first | apply Kd.C_alloc | apply Kd.C_drewN | apply Kd.C_drew)); exact P1.out)); (· ((with_reducible repeat (first | apply Kd.C_alloc | apply Kd.C_drewN | apply Kd.C_drew)); exact HL.out)); rintro e wk ⟨rfl, hb_⟩; replace F := Aside0.mk (VF.below (by (with_reducible repeat (first | apply VF.alloc | apply VF.drewN | apply VF.drew)); exact F.out) hb_))
      | (go_at_call 58; (with_reducible refine Calls.mono (KEq _ _ _ _ _ _ 1 ?_ ?_ (Nat.le_refl _) ?_) ?_); (· (exact Q1.out)); (· ((with_reducible repeat (first | apply Kd.C_alloc | apply Kd.C_drewN | apply Kd.C_drew)); exact P1.out)); (· ((with_reducible repeat (first | apply Kd.C_drewN | apply Kd.C_drew)); exact C_lit1 _ _)); rintro e wk ⟨rfl, hb_⟩; replace F := Aside0.mk (VF.below (by (with_reducible repeat (first | apply VF.alloc | apply VF.drewN | apply VF.drew)); exact F.out) hb_))
      | (go_at_call 59; (with_reducible refine Calls.mono (KPl _ ⟨w.heap.size + 1, 0, none⟩ ?_) ?_); (· (exact VF.c1 (w := w) (a5 := a5) (by (with_reducible repeat (first | apply VF.alloc | apply VF.drewN | apply VF.drew)); exact F.out))); rintro e wk ⟨p4', q4', p5', q5', rfl, hq_, hp_, hb_⟩; replace F := Aside0.mk (VF.below (by (with_reducible repeat (first | apply VF.alloc | apply VF.drewN | apply VF.drew)); exact F.out) hb_); have Q1 := Aside0.mk hq_; have P1 := Aside0.mk hp_; have HL := Aside0.mk (Kd.C_below (show k89.C _ (some ⟨w4.heap.size, 0, none⟩) exP.length exP from (by (with_reducible repeat (first | apply Kd.C_drewN | apply Kd.C_drew)); exact C_lit1 _ _)) hb_); clear hq_ hp_)
      | (go_at_call 59; (with_reducible refine Calls.mono (KPl _ ⟨w.heap.size + 1, 0, none⟩ ?_) ?_); (· (exact VF.c1 (w := w) (a5 := a5) (by (with_reducible repeat (first | apply VF.alloc | apply VF.drewN | apply VF.drew)); exact F.out))); rintro e wk ⟨p4', q4', p5', q5', rfl, hq_, hp_, hb_⟩; replace F := Aside0.mk (VF.below (by (with_reducible repeat (first | apply VF.alloc | apply VF.drewN | apply VF.drew)); exact F.out) hb_); have Q1 := Aside0.mk hq_; have P1 := Aside0.mk hp_; clear hq_ hp_)))
  all_goals
    go_wp2
    go_ret
    exact ⟨rfl, F.out.2.2⟩
end Go.Proofs.Ytogpnkkoablmiaa.V
end
section
namespace Go.Proofs.Ytogpnkkoablmiaa.V
open Go.Proofs.Ytogpnkkoablmiaa.P Go.RowKit Go.Shelf Go.Lib Go.Proofs.Ytogpnkkoablmiaa.Q Go.Proofs.YtogpnkkoablmiaaW.PrintWords Go.Proofs.YtogpnkkoablmiaaW.PrintLast Go.Proofs.YtogpnkkoablmiaaW.PrintMore
set_option linter.unusedVariables false
set_option linter.unusedSimpArgs false
attribute [local go_sem] Oper.semAt_some
end Go.Proofs.Ytogpnkkoablmiaa.V
end
section
namespace Go.Proofs.Ytogpnkkoablmiaa.Y
open Go.RowKit Go.Proofs.Ytogpnkkoablmiaa.Q Go.Proofs.YtogpnkkoablmiaaW.PrintWords Go.Proofs.YtogpnkkoablmiaaW.PrintLast Go.Proofs.YtogpnkkoablmiaaW.PrintMore
attribute [local go_sem] max2_int min2_int max_two min_two max_three min_three max_four min_four   -- for this text's walks alone
set_option linter.unusedVariables false
set_option linter.unusedSimpArgs false
noncomputable def binderyref16_Equal.f (a0_0 : Int) (a0_1 : Int) (a0_2 : Int) (a0_3 : ByteArray) (l0_4 : List (S35)) (l0_5 : List (S89)) (a1_0 : Int) (a1_1 : Int) (a1_2 : Int) (a1_3 : ByteArray) (l1_4 : List (S35)) (l1_5 : List (S89)) : Option (Bool) := some (Go.Proofs.Ytogpnkkoablmiaa.V.eqB (⟨a0_0, a0_1, a0_2, a0_3, l0_4, l0_5⟩ : S35) (⟨a1_0, a1_1, a1_2, a1_3, l1_4, l1_5⟩ : S35))
theorem binderyref16_Equal.calls (a0_0 : Int) (a0_1 : Int) (a0_2 : Int) (a0_3 : ByteArray) (A0_4 : Option Addr) (c0_4 : Nat) (l0_4 : List (S35)) (A0_5 : Option Addr) (c0_5 : Nat) (l0_5 : List (S89)) (a1_0 : Int) (a1_1 : Int) (a1_2 : Int) (a1_3 : ByteArray) (A1_4 : Option Addr) (c1_4 : Nat) (l1_4 : List (S35)) (A1_5 : Option Addr) (c1_5 : Nat) (l1_5 : List (S89)) (r : Bool) (w : World) (hr0_4 : Kd.C k35 w A0_4 l0_4.length l0_4) (hc0_4 : l0_4.length ≤ c0_4) (hr0_5 : Kd.C k89 w A0_5 l0_5.length l0_5) (hc0_5 : l0_5.length ≤ c0_5) (hr1_4 : Kd.C k35 w A1_4 l1_4.length l1_4) (hc1_4 : l1_4.length ≤ c1_4) (hr1_5 : Kd.C k89 w A1_5 l1_5.length l1_5) (hc1_5 : l1_5.length ≤ c1_5) (h : binderyref16_Equal.f a0_0 a0_1 a0_2 a0_3 l0_4 l0_5 a1_0 a1_1 a1_2 a1_3 l1_4 l1_5 = some r) :
    Calls Try.prog 58 #[.agg #[.int .i64 a0_0, .int .i64 a0_1, .int .i64 a0_2, .string a0_3, .slice A0_4 l0_4.length c0_4, .slice A0_5 l0_5.length c0_5], .agg #[.int .i64 a1_0, .int .i64 a1_1, .int .i64 a1_2, .string a1_3, .slice A1_4 l1_4.length c1_4, .slice A1_5 l1_5.length c1_5]] w fun e w' => e = .returned (.bool r) ∧ Below w.heap.size w w' := by
  unfold binderyref16_Equal.f at h
  simp only [Option.some.injEq, Prod.mk.injEq] at h
  obtain rfl := h
  exact Go.Proofs.Ytogpnkkoablmiaa.V.equal_all (⟨a0_0, a0_1, a0_2, a0_3, l0_4, l0_5⟩ : S35) (⟨a1_0, a1_1, a1_2, a1_3, l1_4, l1_5⟩ : S35) A0_4 c0_4 A0_5 c0_5 A1_4 c1_4 A1_5 c1_5 w hc0_4 hr0_4 hc0_5 hr0_5 hc1_4 hr1_4 hc1_5 hr1_5
open Classical in
noncomputable def value_Plain.f (a0_0 : Int) (a0_1 : Int) (a0_2 : Int) (a0_3 : ByteArray) (l0_4 : List (S35)) (l0_5 : List (S89)) : Option (Int × Int × Int × ByteArray × (List (S35)) × (List (S89))) := if Go.Proofs.Ytogpnkkoablmiaa.V.fewV (⟨a0_0, a0_1, a0_2, a0_3, l0_4, l0_5⟩ : S35) then some ((Go.Proofs.Ytogpnkkoablmiaa.V.plain (⟨a0_0, a0_1, a0_2, a0_3, l0_4, l0_5⟩ : S35)).f0, (Go.Proofs.Ytogpnkkoablmiaa.V.plain (⟨a0_0, a0_1, a0_2, a0_3, l0_4, l0_5⟩ : S35)).f1, (Go.Proofs.Ytogpnkkoablmiaa.V.plain (⟨a0_0, a0_1, a0_2, a0_3, l0_4, l0_5⟩ : S35)).f2, (Go.Proofs.Ytogpnkkoablmiaa.V.plain (⟨a0_0, a0_1, a0_2, a0_3, l0_4, l0_5⟩ : S35)).f3, (Go.Proofs.Ytogpnkkoablmiaa.V.plain (⟨a0_0, a0_1, a0_2, a0_3, l0_4, l0_5⟩ : S35)).f4, (Go.Proofs.Ytogpnkkoablmiaa.V.plain (⟨a0_0, a0_1, a0_2, a0_3, l0_4, l0_5⟩ : S35)).f5) else none
theorem value_Plain.calls (a0_0 : Int) (a0_1 : Int) (a0_2 : Int) (a0_3 : ByteArray) (A0_4 : Option Addr) (c0_4 : Nat) (l0_4 : List (S35)) (A0_5 : Option Addr) (c0_5 : Nat) (l0_5 : List (S89)) (r1 : Int) (r2 : Int) (r3 : Int) (r4 : ByteArray) (r5 : List (S35)) (r6 : List (S89)) (w : World) (hr0_4 : Kd.C k35 w A0_4 l0_4.length l0_4) (hc0_4 : l0_4.length ≤ c0_4) (hr0_5 : Kd.C k89 w A0_5 l0_5.length l0_5) (hc0_5 : l0_5.length ≤ c0_5) (h : value_Plain.f a0_0 a0_1 a0_2 a0_3 l0_4 l0_5 = some (r1, r2, r3, r4, r5, r6)) :
    Calls Try.prog 59 #[.agg #[.int .i64 a0_0, .int .i64 a0_1, .int .i64 a0_2, .string a0_3, .slice A0_4 l0_4.length c0_4, .slice A0_5 l0_5.length c0_5]] w fun e w' => ∃ v4_ v5_ : Value, e = .returned (.agg #[.int .i64 r1, .int .i64 r2, .int .i64 r3, .string r4, v4_, v5_]) ∧ Kd.V k35 35 w' w.heap.size (fun k_ => (w.heap.size ≤ k_)) v4_ r5 ∧ Kd.V k89 89 w' w.heap.size (fun k_ => (w.heap.size ≤ k_)) v5_ r6 ∧ Below w.heap.size w w' := by
  unfold value_Plain.f at h
  by_cases hc : Go.Proofs.Ytogpnkkoablmiaa.V.fewV (⟨a0_0, a0_1, a0_2, a0_3, l0_4, l0_5⟩ : S35)
  · rw [if_pos hc] at h
    simp only [Option.some.injEq, Prod.mk.injEq] at h
    obtain ⟨rfl, rfl, rfl, rfl, rfl, rfl⟩ := h
    exact Calls.mono (Go.Proofs.Ytogpnkkoablmiaa.V.plain59_all (⟨a0_0, a0_1, a0_2, a0_3, l0_4, l0_5⟩ : S35) A0_4 c0_4 A0_5 c0_5 w hc hc0_4 hr0_4 hc0_5 hr0_5) (fun e w' h_ => by obtain ⟨v4_, v5_, he, h1, h2, hb⟩ := h_; exact ⟨v4_, v5_, he, Kd.V_mono (Kd.R_V (Kd.R_bound h1)) (fun k_ hk => hk.2.1), Kd.V_mono (Kd.R_V (Kd.R_bound h2)) (fun k_ hk => hk.2.1), hb⟩)
  · rw [if_neg hc] at h
    cases h
open Classical in
noncomputable def value_Same.f (a0_0 : Int) (a0_1 : Int) (a0_2 : Int) (a0_3 : ByteArray) (l0_4 : List (S35)) (l0_5 : List (S89)) (a1_0 : Int) (a1_1 : Int) (a1_2 : Int) (a1_3 : ByteArray) (l1_4 : List (S35)) (l1_5 : List (S89)) : Option (Bool) := if Go.Proofs.Ytogpnkkoablmiaa.V.fewV (⟨a0_0, a0_1, a0_2, a0_3, l0_4, l0_5⟩ : S35) ∧ Go.Proofs.Ytogpnkkoablmiaa.V.fewV (⟨a1_0, a1_1, a1_2, a1_3, l1_4, l1_5⟩ : S35) then some (Go.Proofs.Ytogpnkkoablmiaa.V.eqB (Go.Proofs.Ytogpnkkoablmiaa.V.plain (⟨a0_0, a0_1, a0_2, a0_3, l0_4, l0_5⟩ : S35)) (Go.Proofs.Ytogpnkkoablmiaa.V.plain (⟨a1_0, a1_1, a1_2, a1_3, l1_4, l1_5⟩ : S35))) else none
theorem value_Same.calls (a0_0 : Int) (a0_1 : Int) (a0_2 : Int) (a0_3 : ByteArray) (A0_4 : Option Addr) (c0_4 : Nat) (l0_4 : List (S35)) (A0_5 : Option Addr) (c0_5 : Nat) (l0_5 : List (S89)) (a1_0 : Int) (a1_1 : Int) (a1_2 : Int) (a1_3 : ByteArray) (A1_4 : Option Addr) (c1_4 : Nat) (l1_4 : List (S35)) (A1_5 : Option Addr) (c1_5 : Nat) (l1_5 : List (S89)) (r : Bool) (w : World) (hr0_4 : Kd.C k35 w A0_4 l0_4.length l0_4) (hc0_4 : l0_4.length ≤ c0_4) (hr0_5 : Kd.C k89 w A0_5 l0_5.length l0_5) (hc0_5 : l0_5.length ≤ c0_5) (hr1_4 : Kd.C k35 w A1_4 l1_4.length l1_4) (hc1_4 : l1_4.length ≤ c1_4) (hr1_5 : Kd.C k89 w A1_5 l1_5.length l1_5) (hc1_5 : l1_5.length ≤ c1_5) (h : value_Same.f a0_0 a0_1 a0_2 a0_3 l0_4 l0_5 a1_0 a1_1 a1_2 a1_3 l1_4 l1_5 = some r) :
    Calls Try.prog 61 #[.agg #[.int .i64 a0_0, .int .i64 a0_1, .int .i64 a0_2, .string a0_3, .slice A0_4 l0_4.length c0_4, .slice A0_5 l0_5.length c0_5], .agg #[.int .i64 a1_0, .int .i64 a1_1, .int .i64 a1_2, .string a1_3, .slice A1_4 l1_4.length c1_4, .slice A1_5 l1_5.length c1_5]] w fun e w' => e = .returned (.bool r) ∧ Below w.heap.size w w' := by
  unfold value_Same.f at h
  by_cases hc : Go.Proofs.Ytogpnkkoablmiaa.V.fewV (⟨a0_0, a0_1, a0_2, a0_3, l0_4, l0_5⟩ : S35) ∧ Go.Proofs.Ytogpnkkoablmiaa.V.fewV (⟨a1_0, a1_1, a1_2, a1_3, l1_4, l1_5⟩ : S35)
  · rw [if_pos hc] at h
    simp only [Option.some.injEq, Prod.mk.injEq] at h
    obtain rfl := h
    exact Go.Proofs.Ytogpnkkoablmiaa.V.same_calls (⟨a0_0, a0_1, a0_2, a0_3, l0_4, l0_5⟩ : S35) (⟨a1_0, a1_1, a1_2, a1_3, l1_4, l1_5⟩ : S35) A0_4 c0_4 A0_5 c0_5 A1_4 c1_4 A1_5 c1_5 w hc.1 hc.2 hc0_4 hr0_4 hc0_5 hr0_5 hc1_4 hr1_4 hc1_5 hr1_5
  · rw [if_neg hc] at h
    cases h
noncomputable def binderylaw16_values.f : Option (Bool) := some true
theorem binderylaw16_values.calls (r : Bool) (w : World) (h : binderylaw16_values.f = some r) :
    Calls Try.prog 51 #[] w fun e w' => e = .returned (.bool r) ∧ Below w.heap.size w w' := by
  obtain rfl := Option.some.inj h
  exact Go.Proofs.Ytogpnkkoablmiaa.V.values_calls w
open Classical in
noncomputable def binderyref16_Plain.f (a0_0 : Int) (a0_1 : Int) (a0_2 : Int) (a0_3 : ByteArray) (l0_4 : List (S35)) (l0_5 : List (S89)) : Option (Int × Int × Int × ByteArray × (List (S35)) × (List (S89))) := if Go.Proofs.Ytogpnkkoablmiaa.V.fewV (⟨a0_0, a0_1, a0_2, a0_3, l0_4, l0_5⟩ : S35) then some ((Go.Proofs.Ytogpnkkoablmiaa.V.plain (⟨a0_0, a0_1, a0_2, a0_3, l0_4, l0_5⟩ : S35)).f0, (Go.Proofs.Ytogpnkkoablmiaa.V.plain (⟨a0_0, a0_1, a0_2, a0_3, l0_4, l0_5⟩ : S35)).f1, (Go.Proofs.Ytogpnkkoablmiaa.V.plain (⟨a0_0, a0_1, a0_2, a0_3, l0_4, l0_5⟩ : S35)).f2, (Go.Proofs.Ytogpnkkoablmiaa.V.plain (⟨a0_0, a0_1, a0_2, a0_3, l0_4, l0_5⟩ : S35)).f3, (Go.Proofs.Ytogpnkkoablmiaa.V.plain (⟨a0_0, a0_1, a0_2, a0_3, l0_4, l0_5⟩ : S35)).f4, (Go.Proofs.Ytogpnkkoablmiaa.V.plain (⟨a0_0, a0_1, a0_2, a0_3, l0_4, l0_5⟩ : S35)).f5) else none
theorem binderyref16_Plain.calls (a0_0 : Int) (a0_1 : Int) (a0_2 : Int) (a0_3 : ByteArray) (A0_4 : Option Addr) (c0_4 : Nat) (l0_4 : List (S35)) (A0_5 : Option Addr) (c0_5 : Nat) (l0_5 : List (S89)) (r1 : Int) (r2 : Int) (r3 : Int) (r4 : ByteArray) (r5 : List (S35)) (r6 : List (S89)) (w : World) (hr0_4 : Kd.C k35 w A0_4 l0_4.length l0_4) (hc0_4 : l0_4.length ≤ c0_4) (hr0_5 : Kd.C k89 w A0_5 l0_5.length l0_5) (hc0_5 : l0_5.length ≤ c0_5) (h : binderyref16_Plain.f a0_0 a0_1 a0_2 a0_3 l0_4 l0_5 = some (r1, r2, r3, r4, r5, r6)) :
    Calls Try.prog 60 #[.agg #[.int .i64 a0_0, .int .i64 a0_1, .int .i64 a0_2, .string a0_3, .slice A0_4 l0_4.length c0_4, .slice A0_5 l0_5.length c0_5]] w fun e w' => ∃ v4_ v5_ : Value, e = .returned (.agg #[.int .i64 r1, .int .i64 r2, .int .i64 r3, .string r4, v4_, v5_]) ∧ Kd.V k35 35 w' w.heap.size (fun k_ => (w.heap.size ≤ k_)) v4_ r5 ∧ Kd.V k89 89 w' w.heap.size (fun k_ => (w.heap.size ≤ k_)) v5_ r6 ∧ Below w.heap.size w w' := by
  unfold binderyref16_Plain.f at h
  by_cases hc : Go.Proofs.Ytogpnkkoablmiaa.V.fewV (⟨a0_0, a0_1, a0_2, a0_3, l0_4, l0_5⟩ : S35)
  · rw [if_pos hc] at h
    simp only [Option.some.injEq, Prod.mk.injEq] at h
    obtain ⟨rfl, rfl, rfl, rfl, rfl, rfl⟩ := h
    exact Calls.mono (Go.Proofs.Ytogpnkkoablmiaa.V.rplain_all (⟨a0_0, a0_1, a0_2, a0_3, l0_4, l0_5⟩ : S35) A0_4 c0_4 A0_5 c0_5 w hc hc0_4 hr0_4 hc0_5 hr0_5) (fun e w' h_ => by obtain ⟨v4_, v5_, he, h1, h2, hb⟩ := h_; exact ⟨v4_, v5_, he, Kd.V_mono (Kd.R_V (Kd.R_bound h1)) (fun k_ hk => hk.2.1), Kd.V_mono (Kd.R_V (Kd.R_bound h2)) (fun k_ hk => hk.2.1), hb⟩)
  · rw [if_neg hc] at h
    cases h
open Classical in
noncomputable def binderyref16_Same.f (a0_0 : Int) (a0_1 : Int) (a0_2 : Int) (a0_3 : ByteArray) (l0_4 : List (S35)) (l0_5 : List (S89)) (a1_0 : Int) (a1_1 : Int) (a1_2 : Int) (a1_3 : ByteArray) (l1_4 : List (S35)) (l1_5 : List (S89)) : Option (Bool) := if Go.Proofs.Ytogpnkkoablmiaa.V.fewV (⟨a0_0, a0_1, a0_2, a0_3, l0_4, l0_5⟩ : S35) ∧ Go.Proofs.Ytogpnkkoablmiaa.V.fewV (⟨a1_0, a1_1, a1_2, a1_3, l1_4, l1_5⟩ : S35) then some (Go.Proofs.Ytogpnkkoablmiaa.V.eqB (Go.Proofs.Ytogpnkkoablmiaa.V.plain (⟨a0_0, a0_1, a0_2, a0_3, l0_4, l0_5⟩ : S35)) (Go.Proofs.Ytogpnkkoablmiaa.V.plain (⟨a1_0, a1_1, a1_2, a1_3, l1_4, l1_5⟩ : S35))) else none
theorem binderyref16_Same.calls (a0_0 : Int) (a0_1 : Int) (a0_2 : Int) (a0_3 : ByteArray) (A0_4 : Option Addr) (c0_4 : Nat) (l0_4 : List (S35)) (A0_5 : Option Addr) (c0_5 : Nat) (l0_5 : List (S89)) (a1_0 : Int) (a1_1 : Int) (a1_2 : Int) (a1_3 : ByteArray) (A1_4 : Option Addr) (c1_4 : Nat) (l1_4 : List (S35)) (A1_5 : Option Addr) (c1_5 : Nat) (l1_5 : List (S89)) (r : Bool) (w : World) (hr0_4 : Kd.C k35 w A0_4 l0_4.length l0_4) (hc0_4 : l0_4.length ≤ c0_4) (hr0_5 : Kd.C k89 w A0_5 l0_5.length l0_5) (hc0_5 : l0_5.length ≤ c0_5) (hr1_4 : Kd.C k35 w A1_4 l1_4.length l1_4) (hc1_4 : l1_4.length ≤ c1_4) (hr1_5 : Kd.C k89 w A1_5 l1_5.length l1_5) (hc1_5 : l1_5.length ≤ c1_5) (h : binderyref16_Same.f a0_0 a0_1 a0_2 a0_3 l0_4 l0_5 a1_0 a1_1 a1_2 a1_3 l1_4 l1_5 = some r) :
    Calls Try.prog 62 #[.agg #[.int .i64 a0_0, .int .i64 a0_1, .int .i64 a0_2, .string a0_3, .slice A0_4 l0_4.length c0_4, .slice A0_5 l0_5.length c0_5], .agg #[.int .i64 a1_0, .int .i64 a1_1, .int .i64 a1_2, .string a1_3, .slice A1_4 l1_4.length c1_4, .slice A1_5 l1_5.length c1_5]] w fun e w' => e = .returned (.bool r) ∧ Below w.heap.size w w' := by
  unfold binderyref16_Same.f at h
  by_cases hc : Go.Proofs.Ytogpnkkoablmiaa.V.fewV (⟨a0_0, a0_1, a0_2, a0_3, l0_4, l0_5⟩ : S35) ∧ Go.Proofs.Ytogpnkkoablmiaa.V.fewV (⟨a1_0, a1_1, a1_2, a1_3, l1_4, l1_5⟩ : S35)
  · rw [if_pos hc] at h
    simp only [Option.some.injEq, Prod.mk.injEq] at h
    obtain rfl := h
    exact Go.Proofs.Ytogpnkkoablmiaa.V.rsame_calls (⟨a0_0, a0_1, a0_2, a0_3, l0_4, l0_5⟩ : S35) (⟨a1_0, a1_1, a1_2, a1_3, l1_4, l1_5⟩ : S35) A0_4 c0_4 A0_5 c0_5 A1_4 c1_4 A1_5 c1_5 w hc.1 hc.2 hc0_4 hr0_4 hc0_5 hr0_5 hc1_4 hr1_4 hc1_5 hr1_5
  · rw [if_neg hc] at h
    cases h
end Go.Proofs.Ytogpnkkoablmiaa.Y
end
section
namespace Go.Proofs.Ytogpnkkoablmiaa.Y
open Go.RowKit Go.Proofs.Ytogpnkkoablmiaa.Q Go.Proofs.YtogpnkkoablmiaaW.PrintWords Go.Proofs.YtogpnkkoablmiaaW.PrintLast Go.Proofs.YtogpnkkoablmiaaW.PrintMore
attribute [local go_sem] max2_int min2_int max_two min_two max_three min_three max_four min_four   -- for this text's walks alone
set_option linter.unusedVariables false
set_option linter.unusedSimpArgs false
noncomputable def binderylaw16_ValuePlains.j0 : Nat → Bool → Int → Int → Int → ByteArray → List (S35) → List (S89) → Int → Int → Int → ByteArray → List (S35) → List (S89) → Option (Bool)
  | 0, _, _, _, _, _, _, _, _, _, _, _, _, _ => none
  | k + 1, x12, x123000, x123001, x123002, x123003, x123004, x123005, x124000, x124001, x124002, x124003, x124004, x124005 => if x12 = true then ((binderylaw16_values.f).bind fun t126 => (some t126)) else ((value_Plain.f x123000 x123001 x123002 x123003 x123004 x123005).bind fun bt127 => ((binderyref16_Plain.f x123000 x123001 x123002 x123003 x123004 x123005).bind fun bt137 => ((binderyref16_Equal.f bt127.1 bt127.2.1 bt127.2.2.1 bt127.2.2.2.1 bt127.2.2.2.2.1 bt127.2.2.2.2.2 bt137.1 bt137.2.1 bt137.2.2.1 bt137.2.2.2.1 bt137.2.2.2.2.1 bt137.2.2.2.2.2).bind fun t147 => (if t147 = true then ((value_Same.f x123000 x123001 x123002 x123003 x123004 x123005 x124000 x124001 x124002 x124003 x124004 x124005).bind fun t148 => ((binderyref16_Same.f x123000 x123001 x123002 x123003 x123004 x123005 x124000 x124001 x124002 x124003 x124004 x124005).bind fun t149 => (if (t148 == t149) = true then ((value_Same.f x123000 x123001 x123002 x123003 x123004 x123005 x123000 x123001 x123002 x123003 x123004 x123005).bind fun t150 => (if t150 = true then ((binderylaw16_values.f).bind fun t151 => (some t151)) else (none))) else (none)))) else (none)))))
noncomputable def binderylaw16_ValuePlains.f (k : Nat) (a0_0 : Int) (a0_1 : Int) (a0_2 : Int) (a0_3 : ByteArray) (l0_4 : List (S35)) (l0_5 : List (S89)) (a1_0 : Int) (a1_1 : Int) (a1_2 : Int) (a1_3 : ByteArray) (l1_4 : List (S35)) (l1_5 : List (S89)) : Option (Bool) := (binderyref16_Few.f k a0_0 a0_1 a0_2 a0_3 l0_4 l0_5 500).bind fun t124 => (if t124 = true then ((binderyref16_Few.f k a1_0 a1_1 a1_2 a1_3 l1_4 l1_5 500).bind fun t125 => (binderylaw16_ValuePlains.j0 k (!t125) a0_0 a0_1 a0_2 a0_3 l0_4 l0_5 a1_0 a1_1 a1_2 a1_3 l1_4 l1_5)) else (binderylaw16_ValuePlains.j0 k true a0_0 a0_1 a0_2 a0_3 l0_4 l0_5 a1_0 a1_1 a1_2 a1_3 l1_4 l1_5))
noncomputable def binderylaw16_ValuePlains.T3 : Bool × List (List Nat × List Nat) := (true, [([], []), ([0], [0]), ([], []), ([2, 1], [2]), ([1, 3, 3], [1, 3]), ([4, 4], [4]), ([5], [5]), ([5], [5]), ([6, 7, 5, 5], [5, 6, 7]), ([5], [5]), ([5], [5]), ([9, 10, 8, 5], [5, 9, 10]), ([8, 11, 5], [5, 8, 11]), ([5, 12], [5, 12]), ([13, 11], [13]), ([14], [14]), ([14], [14]), ([15, 16, 14, 14], [14, 15, 16]), ([14, 17], [14, 17]), ([18, 17], [18]), ([19, 19], [19]), ([19, 20], [19, 20]), ([21, 20, 0, 1, 2, 3, 4, 5, 6, 7, 8, 9, 10, 11, 12, 13, 14, 15, 16, 17, 18, 19, 20, 21], [21])])
noncomputable def binderylaw16_ValuePlains.B3 : List Nat := [0, 1, 0, 7, 15, 31, 63, 63, 255, 63, 63, 2047, 4095, 8191, 16383, 32767, 32767, 131071, 262143, 524287, 1048575, 2097151, 4194303]
theorem binderylaw16_ValuePlains.tab3 : rtab .any (opsOf Try.f10 3) = binderylaw16_ValuePlains.T3 := by kernel_rfl
theorem binderylaw16_ValuePlains.bits3 : waitsOk binderylaw16_ValuePlains.T3.2 binderylaw16_ValuePlains.B3 = true := by kernel_rfl
set_option maxHeartbeats 8000000 in
set_option maxRecDepth 100000 in
theorem binderylaw16_ValuePlains.calls (k : Nat) (a0_0 : Int) (a0_1 : Int) (a0_2 : Int) (a0_3 : ByteArray) (A0_4 : Option Addr) (c0_4 : Nat) (l0_4 : List (S35)) (A0_5 : Option Addr) (c0_5 : Nat) (l0_5 : List (S89)) (a1_0 : Int) (a1_1 : Int) (a1_2 : Int) (a1_3 : ByteArray) (A1_4 : Option Addr) (c1_4 : Nat) (l1_4 : List (S35)) (A1_5 : Option Addr) (c1_5 : Nat) (l1_5 : List (S89)) (r : Bool) (w : World) (hr0_4 : Kd.C k35 w A0_4 l0_4.length l0_4) (hc0_4 : l0_4.length ≤ c0_4) (hr0_5 : Kd.C k89 w A0_5 l0_5.length l0_5) (hc0_5 : l0_5.length ≤ c0_5) (hr1_4 : Kd.C k35 w A1_4 l1_4.length l1_4) (hc1_4 : l1_4.length ≤ c1_4) (hr1_5 : Kd.C k89 w A1_5 l1_5.length l1_5) (hc1_5 : l1_5.length ≤ c1_5) (h : binderylaw16_ValuePlains.f k a0_0 a0_1 a0_2 a0_3 l0_4 l0_5 a1_0 a1_1 a1_2 a1_3 l1_4 l1_5 = some r) :
    Calls Try.prog 10 #[.agg #[.int .i64 a0_0, .int .i64 a0_1, .int .i64 a0_2, .string a0_3, .slice A0_4 l0_4.length c0_4, .slice A0_5 l0_5.length c0_5], .agg #[.int .i64 a1_0, .int .i64 a1_1, .int .i64 a1_2, .string a1_3, .slice A1_4 l1_4.length c1_4, .slice A1_5 l1_5.length c1_5]] w fun e w' => e = .returned (.bool r) ∧ Below w.heap.size w w' := by
  have hu35 := Try.underlying35
  have HR0_4 := Aside0.mk hr0_4
  have HC0_4 := Aside0.mk hc0_4
  clear hr0_4 hc0_4
  have HR0_5 := Aside0.mk hr0_5
  have HC0_5 := Aside0.mk hc0_5
  clear hr0_5 hc0_5
  have HR1_4 := Aside0.mk hr1_4
  have HC1_4 := Aside0.mk hc1_4
  clear hr1_4 hc1_4
  have HR1_5 := Aside0.mk hr1_5
  have HC1_5 := Aside0.mk hc1_5
  clear hr1_5 hc1_5
  have HB := Aside0.mk (Below.refl w.heap.size w)
  have H : ((binderyref16_Few.f k a0_0 a0_1 a0_2 a0_3 l0_4 l0_5 500).bind fun t124 => (if t124 = true then ((binderyref16_Few.f k a1_0 a1_1 a1_2 a1_3 l1_4 l1_5 500).bind fun t125 => (binderylaw16_ValuePlains.j0 k (!t125) a0_0 a0_1 a0_2 a0_3 l0_4 l0_5 a1_0 a1_1 a1_2 a1_3 l1_4 l1_5)) else (binderylaw16_ValuePlains.j0 k true a0_0 a0_1 a0_2 a0_3 l0_4 l0_5 a1_0 a1_1 a1_2 a1_3 l1_4 l1_5))) = some r := h
  clear h
  have HC3 := Aside0.mk H
  clear H
  go_enter Try.func10, Try.ntmps10
  go_upto_region 1 with (first | ((with_reducible refine gate_dst (N := 2) rfl ?_); refine box_event ?hg (N := 2) ?hd (cs := #[.int .i64 a0_0, .int .i64 a0_1, .int .i64 a0_2, .string a0_3, .slice A0_4 l0_4.length c0_4, .slice A0_5 l0_5.length c0_5]) (t := 35) ?hr ?_; (case hd => rfl); (case hg => rfl); (case hr => first | (go_simp; done) | (go_simp; rfl)); intro gb122 hg w4 hbox hb; have n0_ := Aside0.mk (below_step (by repeat (first | (with_reducible first | exact HB.out | apply below_alloc | apply pw_below_drewN | apply below_drew1) | exact HB.out)) hb); have n1_ := Aside0.mk (hbox); have n2_ := Aside0.mk ((by rw [hg]; exact (below_size (by repeat (first | (with_reducible first | exact HB.out | apply below_alloc | apply pw_below_drewN | apply below_drew1) | exact HB.out))) : w.heap.size ≤ gb122)); have n3_ := Aside0.mk ((by rw [hg]; exact (below_size (by repeat (first | (with_reducible first | exact HB.out | apply below_alloc | apply pw_below_drewN | apply below_drew1) | exact HB.out))) : w.heap.size ≤ gb122)); clear HB; have HB := n0_; have BK122 := n1_; have GW122 := n2_; have GE122 := n3_; clear n0_ n1_ n2_ n3_; clear hb hbox hg) | ((with_reducible refine gate_dst (N := 3) rfl ?_); refine box_event ?hg (N := 3) ?hd (cs := #[.int .i64 a1_0, .int .i64 a1_1, .int .i64 a1_2, .string a1_3, .slice A1_4 l1_4.length c1_4, .slice A1_5 l1_5.length c1_5]) (t := 35) ?hr ?_; (case hd => rfl); (case hg => rfl); (case hr => first | (go_simp; done) | (go_simp; rfl)); intro gb123 hg w5 hbox hb; have n0_ := Aside0.mk (blk_below (g := gb122) (o := .cells #[.int .i64 a0_0, .int .i64 a0_1, .int .i64 a0_2, .string a0_3, .slice A0_4 l0_4.length c0_4, .slice A0_5 l0_5.length c0_5] 35 (0, 0)) (by (with_reducible repeat (first | refine blk_drewN ?_ _ | refine blk_drew ?_ | refine blk_alloc ?_ _)); exact BK122.out) hb); have n1_ := Aside0.mk (below_step (by repeat (first | (with_reducible first | exact HB.out | apply below_alloc | apply pw_below_drewN | apply below_drew1 | refine below_set ?_ GE122.out) | exact HB.out)) hb); have n2_ := Aside0.mk (hbox); have n3_ := Aside0.mk ((by rw [hg]; exact (below_size (by repeat (first | (with_reducible first | exact HB.out | apply below_alloc | apply pw_below_drewN | apply below_drew1 | refine below_set ?_ GE122.out) | exact HB.out))) : w.heap.size ≤ gb123)); have n4_ := Aside0.mk ((by rw [hg]; exact (below_size (by repeat (first | (with_reducible first | exact HB.out | apply below_alloc | apply pw_below_drewN | apply below_drew1 | refine below_set ?_ GE122.out) | exact HB.out))) : w.heap.size ≤ gb123)); have n5_ := Aside0.mk ((by rw [hg]; exact Nat.ne_of_lt (blk_lt (g := gb122) (o := .cells #[.int .i64 a0_0, .int .i64 a0_1, .int .i64 a0_2, .string a0_3, .slice A0_4 l0_4.length c0_4, .slice A0_5 l0_5.length c0_5] 35 (0, 0)) (by (with_reducible repeat (first | refine blk_drewN ?_ _ | refine blk_drew ?_ | refine blk_alloc ?_ _)); exact BK122.out)) : gb122 ≠ gb123)); have n6_ := Aside0.mk ((by rw [hg]; exact Nat.ne_of_gt (blk_lt (g := gb122) (o := .cells #[.int .i64 a0_0, .int .i64 a0_1, .int .i64 a0_2, .string a0_3, .slice A0_4 l0_4.length c0_4, .slice A0_5 l0_5.length c0_5] 35 (0, 0)) (by (with_reducible repeat (first | refine blk_drewN ?_ _ | refine blk_drew ?_ | refine blk_alloc ?_ _)); exact BK122.out)) : gb123 ≠ gb122)); clear BK122; clear HB; have BK122 := n0_; have HB := n1_; have BK123 := n2_; have GW123 := n3_; have GE123 := n4_; have NB122_123 := n5_; have NB123_122 := n6_; clear n0_ n1_ n2_ n3_ n4_ n5_ n6_; clear hb hbox hg))
  (try simp only [Act.put, List.setIfInBounds_toArray, List.set_cons_zero, List.set_cons_succ])
  go_cut [12] (fun v12 wc => ∃ (kq : Nat) (x12_2 : Bool), v12 = .bool x12_2 ∧ Aside0 (binderylaw16_ValuePlains.j0 kq x12_2 a0_0 a0_1 a0_2 a0_3 l0_4 l0_5 a1_0 a1_1 a1_2 a1_3 l1_4 l1_5 = some r) ∧ Aside0 (kq ≤ k) ∧ Aside0 (wc.heap[gb122]? = some (.cells #[.int .i64 a0_0, .int .i64 a0_1, .int .i64 a0_2, .string a0_3, (.slice A0_4 l0_4.length c0_4), (.slice A0_5 l0_5.length c0_5)] 35 (0, 0))) ∧ Aside0 (wc.heap[gb123]? = some (.cells #[.int .i64 a1_0, .int .i64 a1_1, .int .i64 a1_2, .string a1_3, (.slice A1_4 l1_4.length c1_4), (.slice A1_5 l1_5.length c1_5)] 35 (0, 0))) ∧ Aside0 (Below w.heap.size w wc))
  case first =>
    have H := HC3.out
    clear HC3
    replace H := Option.bind_eq_some_iff.mp H
    obtain ⟨t124, A60, H⟩ := H
    replace H : (if t124 = true then ((binderyref16_Few.f k a1_0 a1_1 a1_2 a1_3 l1_4 l1_5 500).bind fun t125 => (binderylaw16_ValuePlains.j0 k (!t125) a0_0 a0_1 a0_2 a0_3 l0_4 l0_5 a1_0 a1_1 a1_2 a1_3 l1_4 l1_5)) else (binderylaw16_ValuePlains.j0 k true a0_0 a0_1 a0_2 a0_3 l0_4 l0_5 a1_0 a1_1 a1_2 a1_3 l1_4 l1_5)) = some r := H
    have A6 := Aside0.mk A60
    clear A60
    by_cases c7 : t124 = true
    · subst c7
      have H1 : ((binderyref16_Few.f k a1_0 a1_1 a1_2 a1_3 l1_4 l1_5 500).bind fun t125 => (binderylaw16_ValuePlains.j0 k (!t125) a0_0 a0_1 a0_2 a0_3 l0_4 l0_5 a1_0 a1_1 a1_2 a1_3 l1_4 l1_5)) = some r := by rw [if_pos rfl] at H; exact H
      clear H
      have H := H1
      clear H1
      replace H := Option.bind_eq_some_iff.mp H
      obtain ⟨t125, A80, H⟩ := H
      replace H : (binderylaw16_ValuePlains.j0 k (!t125) a0_0 a0_1 a0_2 a0_3 l0_4 l0_5 a1_0 a1_1 a1_2 a1_3 l1_4 l1_5) = some r := H
      have A8 := Aside0.mk A80
      clear A80
      have H' := Aside0.mk H
      clear H
      have hnb9 := NB122_123.out
      have hnc9 := NB123_122.out
      have hcz10_0 : w5.cell? ⟨gb122, 0, none⟩ = some (.int .i64 a0_0) := (blk_cell BK122.out 0).trans rfl
      have hcz10_1 : w5.cell? ⟨gb122, 1, none⟩ = some (.int .i64 a0_1) := (blk_cell BK122.out 1).trans rfl
      have hcz10_2 : w5.cell? ⟨gb122, 2, none⟩ = some (.int .i64 a0_2) := (blk_cell BK122.out 2).trans rfl
      have hcz10_3 : w5.cell? ⟨gb122, 3, none⟩ = some (.string a0_3) := (blk_cell BK122.out 3).trans rfl
      have hcz10_4 : w5.cell? ⟨gb122, 4, none⟩ = some (.slice A0_4 l0_4.length c0_4) := (blk_cell BK122.out 4).trans rfl
      have hcz10_5 : w5.cell? ⟨gb122, 5, none⟩ = some (.slice A0_5 l0_5.length c0_5) := (blk_cell BK122.out 5).trans rfl
      have hfz10_0 := blk_frozen BK122.out 0
      have hfz10_1 := blk_frozen BK122.out 1
      have hfz10_2 := blk_frozen BK122.out 2
      have hfz10_3 := blk_frozen BK122.out 3
      have hfz10_4 := blk_frozen BK122.out 4
      have hfz10_5 := blk_frozen BK122.out 5
      go_wp2_with (first | ((with_reducible refine gate_callee (f := 50) rfl ?_); refine goesL_ (some 6) rfl rfl Try.func50 (by kernel_rfl) rfl #[.agg #[.int .i64 a0_0, .int .i64 a0_1, .int .i64 a0_2, .string a0_3, .slice A0_4 l0_4.length c0_4, .slice A0_5 l0_5.length c0_5], .int .i64 500] rfl (by (try simp only [List.map_toArray, List.map_cons, List.map_nil]); first | done | rfl | (simp only [List.length_drop, List.length_take]; rfl)) ?_; (with_reducible refine (binderyref16_Few.calls k a0_0 a0_1 a0_2 a0_3 _ _ l0_4 _ _ l0_5 500 true _ ?side1 ?side2 ?side3 ?side4 A6.out).mono ?_); (case side1 => repeat (first | exact (Kd.C_below HR0_4.out HB.out) | (with_reducible refine Kd.C_alloc ?_ _) | (with_reducible refine Kd.C_drewN ?_ _) | (with_reducible refine Kd.C_drew ?_))); (case side2 => exact HC0_4.out); (case side3 => repeat (first | exact (Kd.C_below HR0_5.out HB.out) | (with_reducible refine Kd.C_alloc ?_ _) | (with_reducible refine Kd.C_drewN ?_ _) | (with_reducible refine Kd.C_drew ?_))); (case side4 => exact HC0_5.out); rintro e w11 ⟨rfl, hb⟩; refine ⟨_, rfl, ?_⟩; have n0_ := Aside0.mk (blk_below (g := gb122) (o := .cells #[.int .i64 a0_0, .int .i64 a0_1, .int .i64 a0_2, .string a0_3, .slice A0_4 l0_4.length c0_4, .slice A0_5 l0_5.length c0_5] 35 (0, 0)) (by (with_reducible repeat (first | refine blk_drewN ?_ _ | refine blk_drew ?_ | refine blk_alloc ?_ _)); exact BK122.out) hb); have n1_ := Aside0.mk (blk_below (g := gb123) (o := .cells #[.int .i64 a1_0, .int .i64 a1_1, .int .i64 a1_2, .string a1_3, .slice A1_4 l1_4.length c1_4, .slice A1_5 l1_5.length c1_5] 35 (0, 0)) (by (with_reducible repeat (first | refine blk_drewN ?_ _ | refine blk_drew ?_ | refine blk_alloc ?_ _)); exact BK123.out) hb); have n2_ := Aside0.mk (below_step (by repeat (first | (with_reducible first | exact HB.out | apply below_alloc | apply pw_below_drewN | apply below_drew1 | refine below_set ?_ GE122.out | refine below_set ?_ GE123.out) | exact HB.out)) hb); clear BK122; clear BK123; clear HB; have BK122 := n0_; have BK123 := n1_; have HB := n2_; clear n0_ n1_ n2_; (try clear hb); (try clear hb2); (try clear hk); (try clear hi); have hcz12_0 : w11.cell? ⟨gb123, 0, none⟩ = some (.int .i64 a1_0) := (blk_cell BK123.out 0).trans rfl; have hcz12_1 : w11.cell? ⟨gb123, 1, none⟩ = some (.int .i64 a1_1) := (blk_cell BK123.out 1).trans rfl; have hcz12_2 : w11.cell? ⟨gb123, 2, none⟩ = some (.int .i64 a1_2) := (blk_cell BK123.out 2).trans rfl; have hcz12_3 : w11.cell? ⟨gb123, 3, none⟩ = some (.string a1_3) := (blk_cell BK123.out 3).trans rfl; have hcz12_4 : w11.cell? ⟨gb123, 4, none⟩ = some (.slice A1_4 l1_4.length c1_4) := (blk_cell BK123.out 4).trans rfl; have hcz12_5 : w11.cell? ⟨gb123, 5, none⟩ = some (.slice A1_5 l1_5.length c1_5) := (blk_cell BK123.out 5).trans rfl; have hfz12_0 := blk_frozen BK123.out 0; have hfz12_1 := blk_frozen BK123.out 1; have hfz12_2 := blk_frozen BK123.out 2; have hfz12_3 := blk_frozen BK123.out 3; have hfz12_4 := blk_frozen BK123.out 4; have hfz12_5 := blk_frozen BK123.out 5) | (go_at_call 50; (with_reducible refine (binderyref16_Few.calls k a1_0 a1_1 a1_2 a1_3 _ _ l1_4 _ _ l1_5 500 t125 _ ?side1 ?side2 ?side3 ?side4 A8.out).mono ?_); (case side1 => repeat (first | exact (Kd.C_below HR1_4.out HB.out) | (with_reducible refine Kd.C_alloc ?_ _) | (with_reducible refine Kd.C_drewN ?_ _) | (with_reducible refine Kd.C_drew ?_))); (case side2 => exact HC1_4.out); (case side3 => repeat (first | exact (Kd.C_below HR1_5.out HB.out) | (with_reducible refine Kd.C_alloc ?_ _) | (with_reducible refine Kd.C_drewN ?_ _) | (with_reducible refine Kd.C_drew ?_))); (case side4 => exact HC1_5.out); rintro e w13 ⟨rfl, hb⟩; have n0_ := Aside0.mk (blk_below (g := gb122) (o := .cells #[.int .i64 a0_0, .int .i64 a0_1, .int .i64 a0_2, .string a0_3, .slice A0_4 l0_4.length c0_4, .slice A0_5 l0_5.length c0_5] 35 (0, 0)) (by (with_reducible repeat (first | refine blk_drewN ?_ _ | refine blk_drew ?_ | refine blk_alloc ?_ _)); exact BK122.out) hb); have n1_ := Aside0.mk (blk_below (g := gb123) (o := .cells #[.int .i64 a1_0, .int .i64 a1_1, .int .i64 a1_2, .string a1_3, .slice A1_4 l1_4.length c1_4, .slice A1_5 l1_5.length c1_5] 35 (0, 0)) (by (with_reducible repeat (first | refine blk_drewN ?_ _ | refine blk_drew ?_ | refine blk_alloc ?_ _)); exact BK123.out) hb); have n2_ := Aside0.mk (below_step (by repeat (first | (with_reducible first | exact HB.out | apply below_alloc | apply pw_below_drewN | apply below_drew1 | refine below_set ?_ GE122.out | refine below_set ?_ GE123.out) | exact HB.out)) hb); clear BK122; clear BK123; clear HB; have BK122 := n0_; have BK123 := n1_; have HB := n2_; clear n0_ n1_ n2_; (try clear hb); (try clear hb2); (try clear hk); (try clear hi)))
      go_meet
      case rel => exact ⟨_, (!t125), (by first | rfl | (simp; done) | (simp [*]; done)), H', ⟨by first | omega | exact Nat.le_refl _⟩, ⟨by (with_reducible repeat (first | refine blk_drewN ?_ _ | refine blk_drew ?_ | refine blk_alloc ?_ _)); exact BK122.out⟩, ⟨by (with_reducible repeat (first | refine blk_drewN ?_ _ | refine blk_drew ?_ | refine blk_alloc ?_ _)); exact BK123.out⟩, ⟨by repeat (first | (with_reducible first | exact HB.out | apply below_alloc | apply pw_below_drewN | apply below_drew1 | refine below_set ?_ GE122.out | refine below_set ?_ GE123.out) | exact HB.out)⟩⟩
    · replace c7 := Bool.eq_false_iff.mpr c7
      subst c7
      have H1 : (binderylaw16_ValuePlains.j0 k true a0_0 a0_1 a0_2 a0_3 l0_4 l0_5 a1_0 a1_1 a1_2 a1_3 l1_4 l1_5) = some r := by rw [if_neg (show ¬ (false = true) by decide)] at H; exact H
      clear H
      have H := H1
      clear H1
      have H' := Aside0.mk H
      clear H
      have hnb14 := NB122_123.out
      have hnc14 := NB123_122.out
      have hcz15_0 : w5.cell? ⟨gb122, 0, none⟩ = some (.int .i64 a0_0) := (blk_cell BK122.out 0).trans rfl
      have hcz15_1 : w5.cell? ⟨gb122, 1, none⟩ = some (.int .i64 a0_1) := (blk_cell BK122.out 1).trans rfl
      have hcz15_2 : w5.cell? ⟨gb122, 2, none⟩ = some (.int .i64 a0_2) := (blk_cell BK122.out 2).trans rfl
      have hcz15_3 : w5.cell? ⟨gb122, 3, none⟩ = some (.string a0_3) := (blk_cell BK122.out 3).trans rfl
      have hcz15_4 : w5.cell? ⟨gb122, 4, none⟩ = some (.slice A0_4 l0_4.length c0_4) := (blk_cell BK122.out 4).trans rfl
      have hcz15_5 : w5.cell? ⟨gb122, 5, none⟩ = some (.slice A0_5 l0_5.length c0_5) := (blk_cell BK122.out 5).trans rfl
      have hfz15_0 := blk_frozen BK122.out 0
      have hfz15_1 := blk_frozen BK122.out 1
      have hfz15_2 := blk_frozen BK122.out 2
      have hfz15_3 := blk_frozen BK122.out 3
      have hfz15_4 := blk_frozen BK122.out 4
      have hfz15_5 := blk_frozen BK122.out 5
      go_wp2_with (first | ((with_reducible refine gate_callee (f := 50) rfl ?_); refine goesL_ (some 6) rfl rfl Try.func50 (by kernel_rfl) rfl #[.agg #[.int .i64 a0_0, .int .i64 a0_1, .int .i64 a0_2, .string a0_3, .slice A0_4 l0_4.length c0_4, .slice A0_5 l0_5.length c0_5], .int .i64 500] rfl (by (try simp only [List.map_toArray, List.map_cons, List.map_nil]); first | done | rfl | (simp only [List.length_drop, List.length_take]; rfl)) ?_; (with_reducible refine (binderyref16_Few.calls k a0_0 a0_1 a0_2 a0_3 _ _ l0_4 _ _ l0_5 500 false _ ?side1 ?side2 ?side3 ?side4 A6.out).mono ?_); (case side1 => repeat (first | exact (Kd.C_below HR0_4.out HB.out) | (with_reducible refine Kd.C_alloc ?_ _) | (with_reducible refine Kd.C_drewN ?_ _) | (with_reducible refine Kd.C_drew ?_))); (case side2 => exact HC0_4.out); (case side3 => repeat (first | exact (Kd.C_below HR0_5.out HB.out) | (with_reducible refine Kd.C_alloc ?_ _) | (with_reducible refine Kd.C_drewN ?_ _) | (with_reducible refine Kd.C_drew ?_))); (case side4 => exact HC0_5.out); rintro e w16 ⟨rfl, hb⟩; refine ⟨_, rfl, ?_⟩; have n0_ := Aside0.mk (blk_below (g := gb122) (o := .cells #[.int .i64 a0_0, .int .i64 a0_1, .int .i64 a0_2, .string a0_3, .slice A0_4 l0_4.length c0_4, .slice A0_5 l0_5.length c0_5] 35 (0, 0)) (by (with_reducible repeat (first | refine blk_drewN ?_ _ | refine blk_drew ?_ | refine blk_alloc ?_ _)); exact BK122.out) hb); have n1_ := Aside0.mk (blk_below (g := gb123) (o := .cells #[.int .i64 a1_0, .int .i64 a1_1, .int .i64 a1_2, .string a1_3, .slice A1_4 l1_4.length c1_4, .slice A1_5 l1_5.length c1_5] 35 (0, 0)) (by (with_reducible repeat (first | refine blk_drewN ?_ _ | refine blk_drew ?_ | refine blk_alloc ?_ _)); exact BK123.out) hb); have n2_ := Aside0.mk (below_step (by repeat (first | (with_reducible first | exact HB.out | apply below_alloc | apply pw_below_drewN | apply below_drew1 | refine below_set ?_ GE122.out | refine below_set ?_ GE123.out) | exact HB.out)) hb); clear BK122; clear BK123; clear HB; have BK122 := n0_; have BK123 := n1_; have HB := n2_; clear n0_ n1_ n2_; (try clear hb); (try clear hb2); (try clear hk); (try clear hi)))
      go_meet
      case rel => exact ⟨_, (true), (by first | rfl | (simp; done) | (simp [*]; done)), H', ⟨by first | omega | exact Nat.le_refl _⟩, ⟨by (with_reducible repeat (first | refine blk_drewN ?_ _ | refine blk_drew ?_ | refine blk_alloc ?_ _)); exact BK122.out⟩, ⟨by (with_reducible repeat (first | refine blk_drewN ?_ _ | refine blk_drew ?_ | refine blk_alloc ?_ _)); exact BK123.out⟩, ⟨by repeat (first | (with_reducible first | exact HB.out | apply below_alloc | apply pw_below_drewN | apply below_drew1 | refine below_set ?_ GE122.out | refine below_set ?_ GE123.out) | exact HB.out)⟩⟩
  case rest =>
    clear HC3
    try clear c1
    try clear p2
    try clear c5
    try clear c7
    try clear c9
    try clear c10
    try clear c14
    try clear hcz10_0
    try clear hcz10_1
    try clear hcz10_2
    try clear hcz10_3
    try clear hcz10_4
    try clear hcz10_5
    try clear hcz12_0
    try clear hcz12_1
    try clear hcz12_2
    try clear hcz12_3
    try clear hcz12_4
    try clear hcz12_5
    try clear hcz15_0
    try clear hcz15_1
    try clear hcz15_2
    try clear hcz15_3
    try clear hcz15_4
    try clear hcz15_5
    try clear hfz10_0
    try clear hfz10_1
    try clear hfz10_2
    try clear hfz10_3
    try clear hfz10_4
    try clear hfz10_5
    try clear hfz12_0
    try clear hfz12_1
    try clear hfz12_2
    try clear hfz12_3
    try clear hfz12_4
    try clear hfz12_5
    try clear hfz15_0
    try clear hfz15_1
    try clear hfz15_2
    try clear hfz15_3
    try clear hfz15_4
    try clear hfz15_5
    obtain ⟨kq, x12_2, rfl, HA, HJ2, BK122, BK123, HB⟩ := hcut
    cases kq with
    | zero => exact absurd HA.out (by simp [binderylaw16_ValuePlains.j0])
    | succ kj2 =>
      have H := HA.out
      clear HA
      simp only [binderylaw16_ValuePlains.j0] at H
      by_cases c17 : x12_2 = true
      · subst c17
        have H1 : ((binderylaw16_values.f).bind fun t126 => (some t126)) = some r := by rw [if_pos rfl] at H; exact H
        clear H
        have H := H1
        clear H1
        replace H := Option.bind_eq_some_iff.mp H
        obtain ⟨t126, A180, H⟩ := H
        replace H : (some t126) = some r := H
        have A18 := Aside0.mk A180
        clear A180
        obtain rfl := Option.some.inj H
        go_wp2_with (first | ((with_reducible refine gate_callee (f := 51) rfl ?_); refine goesL_ (some 13) rfl rfl Try.func51 (by kernel_rfl) rfl #[] rfl (by (try simp only [List.map_toArray, List.map_cons, List.map_nil]); first | done | rfl | (simp only [List.length_drop, List.length_take]; rfl)) ?_; (with_reducible refine (binderylaw16_values.calls  t126 _ A18.out).mono ?_); rintro e w19 ⟨rfl, hb⟩; refine ⟨_, rfl, ?_⟩; have n0_ := Aside0.mk (blk_below (g := gb122) (o := .cells #[.int .i64 a0_0, .int .i64 a0_1, .int .i64 a0_2, .string a0_3, .slice A0_4 l0_4.length c0_4, .slice A0_5 l0_5.length c0_5] 35 (0, 0)) (by (with_reducible repeat (first | refine blk_drewN ?_ _ | refine blk_drew ?_ | refine blk_alloc ?_ _)); exact BK122.out) hb); have n1_ := Aside0.mk (blk_below (g := gb123) (o := .cells #[.int .i64 a1_0, .int .i64 a1_1, .int .i64 a1_2, .string a1_3, .slice A1_4 l1_4.length c1_4, .slice A1_5 l1_5.length c1_5] 35 (0, 0)) (by (with_reducible repeat (first | refine blk_drewN ?_ _ | refine blk_drew ?_ | refine blk_alloc ?_ _)); exact BK123.out) hb); have n2_ := Aside0.mk (below_step (by repeat (first | (with_reducible first | exact HB.out | apply below_alloc | apply pw_below_drewN | apply below_drew1 | refine below_set ?_ GE122.out | refine below_set ?_ GE123.out) | exact HB.out)) hb); clear BK122; clear BK123; clear HB; have BK122 := n0_; have BK123 := n1_; have HB := n2_; clear n0_ n1_ n2_; (try clear hb); (try clear hb2); (try clear hk); (try clear hi)))
        go_ret
        exact ⟨by first | rfl | (simp [errW_none, errW_some] <;> rfl) | (simp [*, errW_none, errW_some] <;> rfl), by repeat (first | (with_reducible first | exact HB.out | apply below_alloc | apply pw_below_drewN | apply below_drew1 | refine below_set ?_ GE122.out | refine below_set ?_ GE123.out) | exact HB.out)⟩
      · replace c17 := Bool.eq_false_iff.mpr c17
        subst c17
        have H1 : ((value_Plain.f a0_0 a0_1 a0_2 a0_3 l0_4 l0_5).bind fun bt127 => ((binderyref16_Plain.f a0_0 a0_1 a0_2 a0_3 l0_4 l0_5).bind fun bt137 => ((binderyref16_Equal.f bt127.1 bt127.2.1 bt127.2.2.1 bt127.2.2.2.1 bt127.2.2.2.2.1 bt127.2.2.2.2.2 bt137.1 bt137.2.1 bt137.2.2.1 bt137.2.2.2.1 bt137.2.2.2.2.1 bt137.2.2.2.2.2).bind fun t147 => (if t147 = true then ((value_Same.f a0_0 a0_1 a0_2 a0_3 l0_4 l0_5 a1_0 a1_1 a1_2 a1_3 l1_4 l1_5).bind fun t148 => ((binderyref16_Same.f a0_0 a0_1 a0_2 a0_3 l0_4 l0_5 a1_0 a1_1 a1_2 a1_3 l1_4 l1_5).bind fun t149 => (if (t148 == t149) = true then ((value_Same.f a0_0 a0_1 a0_2 a0_3 l0_4 l0_5 a0_0 a0_1 a0_2 a0_3 l0_4 l0_5).bind fun t150 => (if t150 = true then ((binderylaw16_values.f).bind fun t151 => (some t151)) else (none))) else (none)))) else (none))))) = some r := by rw [if_neg (show ¬ (false = true) by decide)] at H; exact H
        clear H
        have H := H1
        clear H1
        replace H := Option.bind_eq_some_iff.mp H
        obtain ⟨⟨t127, t128, t129, t130, t131, t134⟩, A200, H⟩ := H
        replace H : ((binderyref16_Plain.f a0_0 a0_1 a0_2 a0_3 l0_4 l0_5).bind fun bt137 => ((binderyref16_Equal.f t127 t128 t129 t130 t131 t134 bt137.1 bt137.2.1 bt137.2.2.1 bt137.2.2.2.1 bt137.2.2.2.2.1 bt137.2.2.2.2.2).bind fun t147 => (if t147 = true then ((value_Same.f a0_0 a0_1 a0_2 a0_3 l0_4 l0_5 a1_0 a1_1 a1_2 a1_3 l1_4 l1_5).bind fun t148 => ((binderyref16_Same.f a0_0 a0_1 a0_2 a0_3 l0_4 l0_5 a1_0 a1_1 a1_2 a1_3 l1_4 l1_5).bind fun t149 => (if (t148 == t149) = true then ((value_Same.f a0_0 a0_1 a0_2 a0_3 l0_4 l0_5 a0_0 a0_1 a0_2 a0_3 l0_4 l0_5).bind fun t150 => (if t150 = true then ((binderylaw16_values.f).bind fun t151 => (some t151)) else (none))) else (none)))) else (none)))) = some r := H
        have A20 := Aside0.mk A200
        clear A200
        replace H := Option.bind_eq_some_iff.mp H
        obtain ⟨⟨t137, t138, t139, t140, t141, t144⟩, A210, H⟩ := H
        replace H : ((binderyref16_Equal.f t127 t128 t129 t130 t131 t134 t137 t138 t139 t140 t141 t144).bind fun t147 => (if t147 = true then ((value_Same.f a0_0 a0_1 a0_2 a0_3 l0_4 l0_5 a1_0 a1_1 a1_2 a1_3 l1_4 l1_5).bind fun t148 => ((binderyref16_Same.f a0_0 a0_1 a0_2 a0_3 l0_4 l0_5 a1_0 a1_1 a1_2 a1_3 l1_4 l1_5).bind fun t149 => (if (t148 == t149) = true then ((value_Same.f a0_0 a0_1 a0_2 a0_3 l0_4 l0_5 a0_0 a0_1 a0_2 a0_3 l0_4 l0_5).bind fun t150 => (if t150 = true then ((binderylaw16_values.f).bind fun t151 => (some t151)) else (none))) else (none)))) else (none))) = some r := H
        have A21 := Aside0.mk A210
        clear A210
        replace H := Option.bind_eq_some_iff.mp H
        obtain ⟨t147, A220, H⟩ := H
        replace H : (if t147 = true then ((value_Same.f a0_0 a0_1 a0_2 a0_3 l0_4 l0_5 a1_0 a1_1 a1_2 a1_3 l1_4 l1_5).bind fun t148 => ((binderyref16_Same.f a0_0 a0_1 a0_2 a0_3 l0_4 l0_5 a1_0 a1_1 a1_2 a1_3 l1_4 l1_5).bind fun t149 => (if (t148 == t149) = true then ((value_Same.f a0_0 a0_1 a0_2 a0_3 l0_4 l0_5 a0_0 a0_1 a0_2 a0_3 l0_4 l0_5).bind fun t150 => (if t150 = true then ((binderylaw16_values.f).bind fun t151 => (some t151)) else (none))) else (none)))) else (none)) = some r := H
        have A22 := Aside0.mk A220
        clear A220
        by_cases c23 : t147 = true
        · subst c23
          have H1 : ((value_Same.f a0_0 a0_1 a0_2 a0_3 l0_4 l0_5 a1_0 a1_1 a1_2 a1_3 l1_4 l1_5).bind fun t148 => ((binderyref16_Same.f a0_0 a0_1 a0_2 a0_3 l0_4 l0_5 a1_0 a1_1 a1_2 a1_3 l1_4 l1_5).bind fun t149 => (if (t148 == t149) = true then ((value_Same.f a0_0 a0_1 a0_2 a0_3 l0_4 l0_5 a0_0 a0_1 a0_2 a0_3 l0_4 l0_5).bind fun t150 => (if t150 = true then ((binderylaw16_values.f).bind fun t151 => (some t151)) else (none))) else (none)))) = some r := by rw [if_pos rfl] at H; exact H
          clear H
          have H := H1
          clear H1
          replace H := Option.bind_eq_some_iff.mp H
          obtain ⟨t148, A240, H⟩ := H
          replace H : ((binderyref16_Same.f a0_0 a0_1 a0_2 a0_3 l0_4 l0_5 a1_0 a1_1 a1_2 a1_3 l1_4 l1_5).bind fun t149 => (if (t148 == t149) = true then ((value_Same.f a0_0 a0_1 a0_2 a0_3 l0_4 l0_5 a0_0 a0_1 a0_2 a0_3 l0_4 l0_5).bind fun t150 => (if t150 = true then ((binderylaw16_values.f).bind fun t151 => (some t151)) else (none))) else (none))) = some r := H
          have A24 := Aside0.mk A240
          clear A240
          replace H := Option.bind_eq_some_iff.mp H
          obtain ⟨t149, A250, H⟩ := H
          replace H : (if (t148 == t149) = true then ((value_Same.f a0_0 a0_1 a0_2 a0_3 l0_4 l0_5 a0_0 a0_1 a0_2 a0_3 l0_4 l0_5).bind fun t150 => (if t150 = true then ((binderylaw16_values.f).bind fun t151 => (some t151)) else (none))) else (none)) = some r := H
          have A25 := Aside0.mk A250
          clear A250
          by_cases c26 : (t148 == t149) = true
          · rw [if_pos c26] at H
            have c26b0 : (t148 == t149) = true := c26
            (try (have c26b1 : decide (t148 = t149) = true := by simpa using c26))
            (try (have c26b2 : (t148 == t149) = true := by simpa using c26))
            clear c26
            replace H := Option.bind_eq_some_iff.mp H
            obtain ⟨t150, A270, H⟩ := H
            replace H : (if t150 = true then ((binderylaw16_values.f).bind fun t151 => (some t151)) else (none)) = some r := H
            have A27 := Aside0.mk A270
            clear A270
            by_cases c28 : t150 = true
            · subst c28
              have H1 : ((binderylaw16_values.f).bind fun t151 => (some t151)) = some r := by rw [if_pos rfl] at H; exact H
              clear H
              have H := H1
              clear H1
              replace H := Option.bind_eq_some_iff.mp H
              obtain ⟨t151, A290, H⟩ := H
              replace H : (some t151) = some r := H
              have A29 := Aside0.mk A290
              clear A290
              obtain rfl := Option.some.inj H
              try go_wp2
              have n0_ := Aside0.mk (blk_drew BK122.out)
              have n1_ := Aside0.mk (blk_drew BK123.out)
              have n2_ := Aside0.mk (below_drew1 HB.out)
              clear BK122
              clear BK123
              clear HB
              have BK122 := n0_
              have BK123 := n1_
              have HB := n2_
              clear n0_ n1_ n2_
              refine start_ (n := 23) (S := fun w' => w'.cell? ⟨gb122, 0, none⟩ = some (.int .i64 a0_0) ∧ w'.cell? ⟨gb122, 1, none⟩ = some (.int .i64 a0_1) ∧ w'.cell? ⟨gb122, 2, none⟩ = some (.int .i64 a0_2) ∧ w'.cell? ⟨gb122, 3, none⟩ = some (.string a0_3) ∧ w'.cell? ⟨gb122, 4, none⟩ = some (.slice A0_4 l0_4.length c0_4) ∧ w'.cell? ⟨gb122, 5, none⟩ = some (.slice A0_5 l0_5.length c0_5) ∧ w'.cell? ⟨gb123, 0, none⟩ = some (.int .i64 a1_0) ∧ w'.cell? ⟨gb123, 1, none⟩ = some (.int .i64 a1_1) ∧ w'.cell? ⟨gb123, 2, none⟩ = some (.int .i64 a1_2) ∧ w'.cell? ⟨gb123, 3, none⟩ = some (.string a1_3) ∧ w'.cell? ⟨gb123, 4, none⟩ = some (.slice A1_4 l1_4.length c1_4) ∧ w'.cell? ⟨gb123, 5, none⟩ = some (.slice A1_5 l1_5.length c1_5)) (ds := []) #[false, false, false, false, false, false, false, false, false, false, false, false, false, false, false, false, false, false, false, false, false, false, false] (by kernel_rfl) rfl rfl ⟨(blk_cell BK122.out 0).trans rfl, (blk_cell BK122.out 1).trans rfl, (blk_cell BK122.out 2).trans rfl, (blk_cell BK122.out 3).trans rfl, (blk_cell BK122.out 4).trans rfl, (blk_cell BK122.out 5).trans rfl, (blk_cell BK123.out 0).trans rfl, (blk_cell BK123.out 1).trans rfl, (blk_cell BK123.out 2).trans rfl, (blk_cell BK123.out 3).trans rfl, (blk_cell BK123.out 4).trans rfl, (blk_cell BK123.out 5).trans rfl⟩ (fun hHeld => ?_); refine with_tabW binderylaw16_ValuePlains.tab3 binderylaw16_ValuePlains.bits3 (fun HT_ HW_ => ?_)
              generalize wc.drew = w30 at BK122 BK123 HB hHeld ⊢
              refine take_ (i := 0) (N := some 14) (v := ?_) (a' := ?_) #[true, false, false, false, false, false, false, false, false, false, false, false, false, false, false, false, false, false, false, false, false, false, false] rfl rfl (take_ofW HT_.out HW_.out (by kernel_rfl)) (fun _ _ _ h => h) (Or.inl ⟨by rfl, ?_⟩) hHeld ?_ ?_
              rotate_left
              · rintro w' ⟨s0, s1, s2, s3, s4, s5, s6, s7, s8, s9, s10, s11⟩
                go_simp
                with_reducible rfl
              rotate_left
              · simp only [Act.put, List.setIfInBounds_toArray, List.set_cons_zero, List.set_cons_succ, i64_w, i32_w]
                rfl
              refine take_ (i := 2) (N := some 16) (v := ?_) (a' := ?_) #[true, false, true, false, false, false, false, false, false, false, false, false, false, false, false, false, false, false, false, false, false, false, false] rfl rfl (take_ofW HT_.out HW_.out (by kernel_rfl)) (fun _ _ _ h => h) (Or.inl ⟨by rfl, ?_⟩) hHeld ?_ ?_
              rotate_left
              · rintro w' ⟨s0, s1, s2, s3, s4, s5, s6, s7, s8, s9, s10, s11⟩
                go_simp
                with_reducible rfl
              rotate_left
              · simp only [Act.put, List.setIfInBounds_toArray, List.set_cons_zero, List.set_cons_succ, i64_w, i32_w]
                rfl
              refine one_ (i := 1) (N := some 15) #[true, true, true, false, false, false, false, false, false, false, false, false, false, false, false, false, false, false, false, false, false, false, false] rfl rfl (one_of HT_.out (by kernel_rfl)) (by decide) (fun K hK => ?_)
              refine goes_ Try.func59 (by kernel_rfl) rfl #[.agg #[.int .i64 a0_0, .int .i64 a0_1, .int .i64 a0_2, .string a0_3, .slice A0_4 l0_4.length c0_4, .slice A0_5 l0_5.length c0_5]] (by rfl) rfl rfl (by (try simp only [List.map_toArray, List.map_cons, List.map_nil]); first | done | rfl | (simp only [List.length_drop, List.length_take]; rfl)) ?_
              with_reducible refine (value_Plain.calls a0_0 a0_1 a0_2 a0_3 _ _ l0_4 _ _ l0_5 t127 t128 t129 t130 t131 t134 _ ?side1 ?side2 ?side3 ?side4 A20.out).mono ?_
              (case side1 => repeat (first | exact (Kd.C_below HR0_4.out HB.out) | (with_reducible refine Kd.C_alloc ?_ _) | (with_reducible refine Kd.C_drewN ?_ _) | (with_reducible refine Kd.C_drew ?_)))
              (case side2 => exact HC0_4.out)
              (case side3 => repeat (first | exact (Kd.C_below HR0_5.out HB.out) | (with_reducible refine Kd.C_alloc ?_ _) | (with_reducible refine Kd.C_drewN ?_ _) | (with_reducible refine Kd.C_drew ?_)))
              (case side4 => exact HC0_5.out)
              rintro e w31 ⟨v132, v135, rfl, ho0, ho1, hb⟩
              refine ⟨_, rfl, ?_⟩
              have n0_ := Aside0.mk (Kd.V_lower (Kd.V_mono (ok' := fun k_ => k_ ≠ gb122 ∧ k_ ≠ gb123) ho0 (fun k_ hk_ => ⟨(Kd.freshB (g := gb122) (o := .cells #[.int .i64 a0_0, .int .i64 a0_1, .int .i64 a0_2, .string a0_3, .slice A0_4 l0_4.length c0_4, .slice A0_5 l0_5.length c0_5] 35 (0, 0)) (by (with_reducible repeat (first | refine blk_drewN ?_ _ | refine blk_drew ?_ | refine blk_alloc ?_ _)); exact BK122.out) k_ hk_), (Kd.freshB (g := gb123) (o := .cells #[.int .i64 a1_0, .int .i64 a1_1, .int .i64 a1_2, .string a1_3, .slice A1_4 l1_4.length c1_4, .slice A1_5 l1_5.length c1_5] 35 (0, 0)) (by (with_reducible repeat (first | refine blk_drewN ?_ _ | refine blk_drew ?_ | refine blk_alloc ?_ _)); exact BK123.out) k_ hk_)⟩)) (below_size (by repeat (first | (with_reducible first | exact HB.out | apply below_alloc | apply pw_below_drewN | apply below_drew1 | refine below_set ?_ GE122.out | refine below_set ?_ GE123.out) | exact HB.out))))
              have n1_ := Aside0.mk (Kd.V_lower (Kd.V_mono (ok' := fun k_ => k_ ≠ gb122 ∧ k_ ≠ gb123) ho1 (fun k_ hk_ => ⟨(Kd.freshB (g := gb122) (o := .cells #[.int .i64 a0_0, .int .i64 a0_1, .int .i64 a0_2, .string a0_3, .slice A0_4 l0_4.length c0_4, .slice A0_5 l0_5.length c0_5] 35 (0, 0)) (by (with_reducible repeat (first | refine blk_drewN ?_ _ | refine blk_drew ?_ | refine blk_alloc ?_ _)); exact BK122.out) k_ hk_), (Kd.freshB (g := gb123) (o := .cells #[.int .i64 a1_0, .int .i64 a1_1, .int .i64 a1_2, .string a1_3, .slice A1_4 l1_4.length c1_4, .slice A1_5 l1_5.length c1_5] 35 (0, 0)) (by (with_reducible repeat (first | refine blk_drewN ?_ _ | refine blk_drew ?_ | refine blk_alloc ?_ _)); exact BK123.out) k_ hk_)⟩)) (below_size (by repeat (first | (with_reducible first | exact HB.out | apply below_alloc | apply pw_below_drewN | apply below_drew1 | refine below_set ?_ GE122.out | refine below_set ?_ GE123.out) | exact HB.out))))
              have n2_ := Aside0.mk (blk_below (g := gb122) (o := .cells #[.int .i64 a0_0, .int .i64 a0_1, .int .i64 a0_2, .string a0_3, .slice A0_4 l0_4.length c0_4, .slice A0_5 l0_5.length c0_5] 35 (0, 0)) (by (with_reducible repeat (first | refine blk_drewN ?_ _ | refine blk_drew ?_ | refine blk_alloc ?_ _)); exact BK122.out) hb)
              have n3_ := Aside0.mk (blk_below (g := gb123) (o := .cells #[.int .i64 a1_0, .int .i64 a1_1, .int .i64 a1_2, .string a1_3, .slice A1_4 l1_4.length c1_4, .slice A1_5 l1_5.length c1_5] 35 (0, 0)) (by (with_reducible repeat (first | refine blk_drewN ?_ _ | refine blk_drew ?_ | refine blk_alloc ?_ _)); exact BK123.out) hb)
              have n4_ := Aside0.mk (below_step (by repeat (first | (with_reducible first | exact HB.out | apply below_alloc | apply pw_below_drewN | apply below_drew1 | refine below_set ?_ GE122.out | refine below_set ?_ GE123.out) | exact HB.out)) hb)
              clear BK122
              clear BK123
              clear HB
              have HO133 := n0_
              have HO136 := n1_
              have BK122 := n2_
              have BK123 := n3_
              have HB := n4_
              clear n0_ n1_ n2_ n3_ n4_
              (try clear hb)
              (try clear hb2)
              (try clear hk)
              (try clear hi)
              (try clear ho0)
              (try clear ho1)
              refine hK.out _ _ ⟨(blk_cell BK122.out 0).trans rfl, (blk_cell BK122.out 1).trans rfl, (blk_cell BK122.out 2).trans rfl, (blk_cell BK122.out 3).trans rfl, (blk_cell BK122.out 4).trans rfl, (blk_cell BK122.out 5).trans rfl, (blk_cell BK123.out 0).trans rfl, (blk_cell BK123.out 1).trans rfl, (blk_cell BK123.out 2).trans rfl, (blk_cell BK123.out 3).trans rfl, (blk_cell BK123.out 4).trans rfl, (blk_cell BK123.out 5).trans rfl⟩ (fun hHeld => ?_)
              clear hK K
              refine norm_ (a' := ?_) ?_ ?_
              rotate_left
              · show Act.put _ (some 15) _ = _
                simp only [Act.put, List.setIfInBounds_toArray, List.set_cons_zero, List.set_cons_succ, i64_w, i32_w]
                rfl
              refine one_ (i := 3) (N := some 17) #[true, true, true, true, false, false, false, false, false, false, false, false, false, false, false, false, false, false, false, false, false, false, false] rfl rfl (one_of HT_.out (by kernel_rfl)) (by decide) (fun K hK => ?_)
              refine goes_ Try.func60 (by kernel_rfl) rfl #[.agg #[.int .i64 a0_0, .int .i64 a0_1, .int .i64 a0_2, .string a0_3, .slice A0_4 l0_4.length c0_4, .slice A0_5 l0_5.length c0_5]] (by rfl) rfl rfl (by (try simp only [List.map_toArray, List.map_cons, List.map_nil]); first | done | rfl | (simp only [List.length_drop, List.length_take]; rfl)) ?_
              with_reducible refine (binderyref16_Plain.calls a0_0 a0_1 a0_2 a0_3 _ _ l0_4 _ _ l0_5 t137 t138 t139 t140 t141 t144 _ ?side1 ?side2 ?side3 ?side4 A21.out).mono ?_
              (case side1 => repeat (first | exact (Kd.C_below HR0_4.out HB.out) | (with_reducible refine Kd.C_alloc ?_ _) | (with_reducible refine Kd.C_drewN ?_ _) | (with_reducible refine Kd.C_drew ?_)))
              (case side2 => exact HC0_4.out)
              (case side3 => repeat (first | exact (Kd.C_below HR0_5.out HB.out) | (with_reducible refine Kd.C_alloc ?_ _) | (with_reducible refine Kd.C_drewN ?_ _) | (with_reducible refine Kd.C_drew ?_)))
              (case side4 => exact HC0_5.out)
              rintro e w32 ⟨v142, v145, rfl, ho0, ho1, hb⟩
              refine ⟨_, rfl, ?_⟩
              have n0_ := Aside0.mk (Kd.V_below (by (with_reducible repeat (first | apply Kd.V_alloc | apply Kd.V_drewN | apply Kd.V_drew)); exact HO133.out) hb)
              have n1_ := Aside0.mk (Kd.V_below (by (with_reducible repeat (first | apply Kd.V_alloc | apply Kd.V_drewN | apply Kd.V_drew)); exact HO136.out) hb)
              have n2_ := Aside0.mk (Kd.V_lower (Kd.V_mono (ok' := fun k_ => k_ ≠ gb122 ∧ k_ ≠ gb123) ho0 (fun k_ hk_ => ⟨(Kd.freshB (g := gb122) (o := .cells #[.int .i64 a0_0, .int .i64 a0_1, .int .i64 a0_2, .string a0_3, .slice A0_4 l0_4.length c0_4, .slice A0_5 l0_5.length c0_5] 35 (0, 0)) (by (with_reducible repeat (first | refine blk_drewN ?_ _ | refine blk_drew ?_ | refine blk_alloc ?_ _)); exact BK122.out) k_ hk_), (Kd.freshB (g := gb123) (o := .cells #[.int .i64 a1_0, .int .i64 a1_1, .int .i64 a1_2, .string a1_3, .slice A1_4 l1_4.length c1_4, .slice A1_5 l1_5.length c1_5] 35 (0, 0)) (by (with_reducible repeat (first | refine blk_drewN ?_ _ | refine blk_drew ?_ | refine blk_alloc ?_ _)); exact BK123.out) k_ hk_)⟩)) (below_size (by repeat (first | (with_reducible first | exact HB.out | apply below_alloc | apply pw_below_drewN | apply below_drew1 | refine below_set ?_ GE122.out | refine below_set ?_ GE123.out) | exact HB.out))))
              have n3_ := Aside0.mk (Kd.V_lower (Kd.V_mono (ok' := fun k_ => k_ ≠ gb122 ∧ k_ ≠ gb123) ho1 (fun k_ hk_ => ⟨(Kd.freshB (g := gb122) (o := .cells #[.int .i64 a0_0, .int .i64 a0_1, .int .i64 a0_2, .string a0_3, .slice A0_4 l0_4.length c0_4, .slice A0_5 l0_5.length c0_5] 35 (0, 0)) (by (with_reducible repeat (first | refine blk_drewN ?_ _ | refine blk_drew ?_ | refine blk_alloc ?_ _)); exact BK122.out) k_ hk_), (Kd.freshB (g := gb123) (o := .cells #[.int .i64 a1_0, .int .i64 a1_1, .int .i64 a1_2, .string a1_3, .slice A1_4 l1_4.length c1_4, .slice A1_5 l1_5.length c1_5] 35 (0, 0)) (by (with_reducible repeat (first | refine blk_drewN ?_ _ | refine blk_drew ?_ | refine blk_alloc ?_ _)); exact BK123.out) k_ hk_)⟩)) (below_size (by repeat (first | (with_reducible first | exact HB.out | apply below_alloc | apply pw_below_drewN | apply below_drew1 | refine below_set ?_ GE122.out | refine below_set ?_ GE123.out) | exact HB.out))))
              have n4_ := Aside0.mk (blk_below (g := gb122) (o := .cells #[.int .i64 a0_0, .int .i64 a0_1, .int .i64 a0_2, .string a0_3, .slice A0_4 l0_4.length c0_4, .slice A0_5 l0_5.length c0_5] 35 (0, 0)) (by (with_reducible repeat (first | refine blk_drewN ?_ _ | refine blk_drew ?_ | refine blk_alloc ?_ _)); exact BK122.out) hb)
              have n5_ := Aside0.mk (blk_below (g := gb123) (o := .cells #[.int .i64 a1_0, .int .i64 a1_1, .int .i64 a1_2, .string a1_3, .slice A1_4 l1_4.length c1_4, .slice A1_5 l1_5.length c1_5] 35 (0, 0)) (by (with_reducible repeat (first | refine blk_drewN ?_ _ | refine blk_drew ?_ | refine blk_alloc ?_ _)); exact BK123.out) hb)
              have n6_ := Aside0.mk (below_step (by repeat (first | (with_reducible first | exact HB.out | apply below_alloc | apply pw_below_drewN | apply below_drew1 | refine below_set ?_ GE122.out | refine below_set ?_ GE123.out) | exact HB.out)) hb)
              clear HO133
              clear HO136
              clear BK122
              clear BK123
              clear HB
              have HO133 := n0_
              have HO136 := n1_
              have HO143 := n2_
              have HO146 := n3_
              have BK122 := n4_
              have BK123 := n5_
              have HB := n6_
              clear n0_ n1_ n2_ n3_ n4_ n5_ n6_
              (try clear hb)
              (try clear hb2)
              (try clear hk)
              (try clear hi)
              (try clear ho0)
              (try clear ho1)
              obtain ⟨Ao33, co33, eo33⟩ := Kd.V_slice HO133.out
              (first | subst eo33 | (injection eo33 with f1_ f2_ f3_; have f4_ := f1_.symm; have f5_ := f3_.symm; clear f1_ f2_ f3_; subst f4_; subst f5_))
              obtain ⟨Ao34, co34, eo34⟩ := Kd.V_slice HO136.out
              (first | subst eo34 | (injection eo34 with f1_ f2_ f3_; have f4_ := f1_.symm; have f5_ := f3_.symm; clear f1_ f2_ f3_; subst f4_; subst f5_))
              obtain ⟨Ao35, co35, eo35⟩ := Kd.V_slice HO143.out
              (first | subst eo35 | (injection eo35 with f1_ f2_ f3_; have f4_ := f1_.symm; have f5_ := f3_.symm; clear f1_ f2_ f3_; subst f4_; subst f5_))
              obtain ⟨Ao36, co36, eo36⟩ := Kd.V_slice HO146.out
              (first | subst eo36 | (injection eo36 with f1_ f2_ f3_; have f4_ := f1_.symm; have f5_ := f3_.symm; clear f1_ f2_ f3_; subst f4_; subst f5_))
              refine hK.out _ _ ⟨(blk_cell BK122.out 0).trans rfl, (blk_cell BK122.out 1).trans rfl, (blk_cell BK122.out 2).trans rfl, (blk_cell BK122.out 3).trans rfl, (blk_cell BK122.out 4).trans rfl, (blk_cell BK122.out 5).trans rfl, (blk_cell BK123.out 0).trans rfl, (blk_cell BK123.out 1).trans rfl, (blk_cell BK123.out 2).trans rfl, (blk_cell BK123.out 3).trans rfl, (blk_cell BK123.out 4).trans rfl, (blk_cell BK123.out 5).trans rfl⟩ (fun hHeld => ?_)
              clear hK K
              refine norm_ (a' := ?_) ?_ ?_
              rotate_left
              · show Act.put _ (some 17) _ = _
                simp only [Act.put, List.setIfInBounds_toArray, List.set_cons_zero, List.set_cons_succ, i64_w, i32_w]
                rfl
              refine one_ (i := 4) (N := some 18) #[true, true, true, true, true, false, false, false, false, false, false, false, false, false, false, false, false, false, false, false, false, false, false] rfl rfl (one_of HT_.out (by kernel_rfl)) (by decide) (fun K hK => ?_)
              refine goes_ Try.func58 (by kernel_rfl) rfl #[.agg #[.int .i64 t127, .int .i64 t128, .int .i64 t129, .string t130, .slice Ao33 t131.length co33, .slice Ao34 t134.length co34], .agg #[.int .i64 t137, .int .i64 t138, .int .i64 t139, .string t140, .slice Ao35 t141.length co35, .slice Ao36 t144.length co36]] (by rfl) rfl rfl (by (try simp only [List.map_toArray, List.map_cons, List.map_nil]); first | done | rfl | (simp only [List.length_drop, List.length_take]; rfl)) ?_
              with_reducible refine (binderyref16_Equal.calls t127 t128 t129 t130 _ _ t131 _ _ t134 t137 t138 t139 t140 _ _ t141 _ _ t144 true _ ?side1 ?side2 ?side3 ?side4 ?side5 ?side6 ?side7 ?side8 A22.out).mono ?_
              (case side1 => repeat (first | exact (Kd.V_reads' HO133.out).2.2 | (with_reducible refine Kd.C_alloc ?_ _) | (with_reducible refine Kd.C_drewN ?_ _) | (with_reducible refine Kd.C_drew ?_)))
              (case side2 => exact (Kd.V_reads' HO133.out).2.1)
              (case side3 => repeat (first | exact (Kd.V_reads' HO136.out).2.2 | (with_reducible refine Kd.C_alloc ?_ _) | (with_reducible refine Kd.C_drewN ?_ _) | (with_reducible refine Kd.C_drew ?_)))
              (case side4 => exact (Kd.V_reads' HO136.out).2.1)
              (case side5 => repeat (first | exact (Kd.V_reads' HO143.out).2.2 | (with_reducible refine Kd.C_alloc ?_ _) | (with_reducible refine Kd.C_drewN ?_ _) | (with_reducible refine Kd.C_drew ?_)))
              (case side6 => exact (Kd.V_reads' HO143.out).2.1)
              (case side7 => repeat (first | exact (Kd.V_reads' HO146.out).2.2 | (with_reducible refine Kd.C_alloc ?_ _) | (with_reducible refine Kd.C_drewN ?_ _) | (with_reducible refine Kd.C_drew ?_)))
              (case side8 => exact (Kd.V_reads' HO146.out).2.1)
              rintro e w37 ⟨rfl, hb⟩
              refine ⟨_, rfl, ?_⟩
              have n0_ := Aside0.mk (Kd.V_below (by (with_reducible repeat (first | apply Kd.V_alloc | apply Kd.V_drewN | apply Kd.V_drew)); exact HO133.out) hb)
              have n1_ := Aside0.mk (Kd.V_below (by (with_reducible repeat (first | apply Kd.V_alloc | apply Kd.V_drewN | apply Kd.V_drew)); exact HO136.out) hb)
              have n2_ := Aside0.mk (Kd.V_below (by (with_reducible repeat (first | apply Kd.V_alloc | apply Kd.V_drewN | apply Kd.V_drew)); exact HO143.out) hb)
              have n3_ := Aside0.mk (Kd.V_below (by (with_reducible repeat (first | apply Kd.V_alloc | apply Kd.V_drewN | apply Kd.V_drew)); exact HO146.out) hb)
              have n4_ := Aside0.mk (blk_below (g := gb122) (o := .cells #[.int .i64 a0_0, .int .i64 a0_1, .int .i64 a0_2, .string a0_3, .slice A0_4 l0_4.length c0_4, .slice A0_5 l0_5.length c0_5] 35 (0, 0)) (by (with_reducible repeat (first | refine blk_drewN ?_ _ | refine blk_drew ?_ | refine blk_alloc ?_ _)); exact BK122.out) hb)
              have n5_ := Aside0.mk (blk_below (g := gb123) (o := .cells #[.int .i64 a1_0, .int .i64 a1_1, .int .i64 a1_2, .string a1_3, .slice A1_4 l1_4.length c1_4, .slice A1_5 l1_5.length c1_5] 35 (0, 0)) (by (with_reducible repeat (first | refine blk_drewN ?_ _ | refine blk_drew ?_ | refine blk_alloc ?_ _)); exact BK123.out) hb)
              have n6_ := Aside0.mk (below_step (by repeat (first | (with_reducible first | exact HB.out | apply below_alloc | apply pw_below_drewN | apply below_drew1 | refine below_set ?_ GE122.out | refine below_set ?_ GE123.out) | exact HB.out)) hb)
              clear HO133
              clear HO136
              clear HO143
              clear HO146
              clear BK122
              clear BK123
              clear HB
              have HO133 := n0_
              have HO136 := n1_
              have HO143 := n2_
              have HO146 := n3_
              have BK122 := n4_
              have BK123 := n5_
              have HB := n6_
              clear n0_ n1_ n2_ n3_ n4_ n5_ n6_
              (try clear hb)
              (try clear hb2)
              (try clear hk)
              (try clear hi)
              refine hK.out _ _ ⟨(blk_cell BK122.out 0).trans rfl, (blk_cell BK122.out 1).trans rfl, (blk_cell BK122.out 2).trans rfl, (blk_cell BK122.out 3).trans rfl, (blk_cell BK122.out 4).trans rfl, (blk_cell BK122.out 5).trans rfl, (blk_cell BK123.out 0).trans rfl, (blk_cell BK123.out 1).trans rfl, (blk_cell BK123.out 2).trans rfl, (blk_cell BK123.out 3).trans rfl, (blk_cell BK123.out 4).trans rfl, (blk_cell BK123.out 5).trans rfl⟩ (fun hHeld => ?_)
              clear hK K
              refine norm_ (a' := ?_) ?_ ?_
              rotate_left
              · show Act.put _ (some 18) _ = _
                simp only [Act.put, List.setIfInBounds_toArray, List.set_cons_zero, List.set_cons_succ, i64_w, i32_w]
                rfl
              refine pure_ (i := 5) (N := some 19) (v := ?_) (a' := ?_) #[true, true, true, true, true, true, false, false, false, false, false, false, false, false, false, false, false, false, false, false, false, false, false] rfl rfl (any_of HT_.out (by kernel_rfl)) (fun _ _ _ h => h) (Or.inl ⟨by rfl, ?_⟩) ?_ ?_
              rotate_left
              · intro w'
                go_simp
                with_reducible rfl
              rotate_left
              · simp only [Act.put, List.setIfInBounds_toArray, List.set_cons_zero, List.set_cons_succ, i64_w, i32_w]
                rfl
              refine take_ (i := 6) (N := some 20) (v := ?_) (a' := ?_) #[true, true, true, true, true, true, true, false, false, false, false, false, false, false, false, false, false, false, false, false, false, false, false] rfl rfl (take_ofW HT_.out HW_.out (by kernel_rfl)) (fun _ _ _ h => h) (Or.inl ⟨by rfl, ?_⟩) hHeld ?_ ?_
              rotate_left
              · rintro w' ⟨s0, s1, s2, s3, s4, s5, s6, s7, s8, s9, s10, s11⟩
                go_simp
                with_reducible rfl
              rotate_left
              · simp only [Act.put, List.setIfInBounds_toArray, List.set_cons_zero, List.set_cons_succ, i64_w, i32_w]
                rfl
              refine take_ (i := 7) (N := some 21) (v := ?_) (a' := ?_) #[true, true, true, true, true, true, true, true, false, false, false, false, false, false, false, false, false, false, false, false, false, false, false] rfl rfl (take_ofW HT_.out HW_.out (by kernel_rfl)) (fun _ _ _ h => h) (Or.inl ⟨by rfl, ?_⟩) hHeld ?_ ?_
              rotate_left
              · rintro w' ⟨s0, s1, s2, s3, s4, s5, s6, s7, s8, s9, s10, s11⟩
                go_simp
                with_reducible rfl
              rotate_left
              · simp only [Act.put, List.setIfInBounds_toArray, List.set_cons_zero, List.set_cons_succ, i64_w, i32_w]
                rfl
              refine take_ (i := 9) (N := some 23) (v := ?_) (a' := ?_) #[true, true, true, true, true, true, true, true, false, true, false, false, false, false, false, false, false, false, false, false, false, false, false] rfl rfl (take_ofW HT_.out HW_.out (by kernel_rfl)) (fun _ _ _ h => h) (Or.inl ⟨by rfl, ?_⟩) hHeld ?_ ?_
              rotate_left
              · rintro w' ⟨s0, s1, s2, s3, s4, s5, s6, s7, s8, s9, s10, s11⟩
                go_simp
                with_reducible rfl
              rotate_left
              · simp only [Act.put, List.setIfInBounds_toArray, List.set_cons_zero, List.set_cons_succ, i64_w, i32_w]
                rfl
              refine take_ (i := 10) (N := some 24) (v := ?_) (a' := ?_) #[true, true, true, true, true, true, true, true, false, true, true, false, false, false, false, false, false, false, false, false, false, false, false] rfl rfl (take_ofW HT_.out HW_.out (by kernel_rfl)) (fun _ _ _ h => h) (Or.inl ⟨by rfl, ?_⟩) hHeld ?_ ?_
              rotate_left
              · rintro w' ⟨s0, s1, s2, s3, s4, s5, s6, s7, s8, s9, s10, s11⟩
                go_simp
                with_reducible rfl
              rotate_left
              · simp only [Act.put, List.setIfInBounds_toArray, List.set_cons_zero, List.set_cons_succ, i64_w, i32_w]
                rfl
              refine one_ (i := 8) (N := some 22) #[true, true, true, true, true, true, true, true, true, true, true, false, false, false, false, false, false, false, false, false, false, false, false] rfl rfl (one_of HT_.out (by kernel_rfl)) (by decide) (fun K hK => ?_)
              refine goes_ Try.func61 (by kernel_rfl) rfl #[.agg #[.int .i64 a0_0, .int .i64 a0_1, .int .i64 a0_2, .string a0_3, .slice A0_4 l0_4.length c0_4, .slice A0_5 l0_5.length c0_5], .agg #[.int .i64 a1_0, .int .i64 a1_1, .int .i64 a1_2, .string a1_3, .slice A1_4 l1_4.length c1_4, .slice A1_5 l1_5.length c1_5]] (by rfl) rfl rfl (by (try simp only [List.map_toArray, List.map_cons, List.map_nil]); first | done | rfl | (simp only [List.length_drop, List.length_take]; rfl)) ?_
              with_reducible refine (value_Same.calls a0_0 a0_1 a0_2 a0_3 _ _ l0_4 _ _ l0_5 a1_0 a1_1 a1_2 a1_3 _ _ l1_4 _ _ l1_5 t148 _ ?side1 ?side2 ?side3 ?side4 ?side5 ?side6 ?side7 ?side8 A24.out).mono ?_
              (case side1 => repeat (first | exact (Kd.C_below HR0_4.out HB.out) | (with_reducible refine Kd.C_alloc ?_ _) | (with_reducible refine Kd.C_drewN ?_ _) | (with_reducible refine Kd.C_drew ?_)))
              (case side2 => exact HC0_4.out)
              (case side3 => repeat (first | exact (Kd.C_below HR0_5.out HB.out) | (with_reducible refine Kd.C_alloc ?_ _) | (with_reducible refine Kd.C_drewN ?_ _) | (with_reducible refine Kd.C_drew ?_)))
              (case side4 => exact HC0_5.out)
              (case side5 => repeat (first | exact (Kd.C_below HR1_4.out HB.out) | (with_reducible refine Kd.C_alloc ?_ _) | (with_reducible refine Kd.C_drewN ?_ _) | (with_reducible refine Kd.C_drew ?_)))
              (case side6 => exact HC1_4.out)
              (case side7 => repeat (first | exact (Kd.C_below HR1_5.out HB.out) | (with_reducible refine Kd.C_alloc ?_ _) | (with_reducible refine Kd.C_drewN ?_ _) | (with_reducible refine Kd.C_drew ?_)))
              (case side8 => exact HC1_5.out)
              rintro e w38 ⟨rfl, hb⟩
              refine ⟨_, rfl, ?_⟩
              have n0_ := Aside0.mk (Kd.V_below (by (with_reducible repeat (first | apply Kd.V_alloc | apply Kd.V_drewN | apply Kd.V_drew)); exact HO133.out) hb)
              have n1_ := Aside0.mk (Kd.V_below (by (with_reducible repeat (first | apply Kd.V_alloc | apply Kd.V_drewN | apply Kd.V_drew)); exact HO136.out) hb)
              have n2_ := Aside0.mk (Kd.V_below (by (with_reducible repeat (first | apply Kd.V_alloc | apply Kd.V_drewN | apply Kd.V_drew)); exact HO143.out) hb)
              have n3_ := Aside0.mk (Kd.V_below (by (with_reducible repeat (first | apply Kd.V_alloc | apply Kd.V_drewN | apply Kd.V_drew)); exact HO146.out) hb)
              have n4_ := Aside0.mk (blk_below (g := gb122) (o := .cells #[.int .i64 a0_0, .int .i64 a0_1, .int .i64 a0_2, .string a0_3, .slice A0_4 l0_4.length c0_4, .slice A0_5 l0_5.length c0_5] 35 (0, 0)) (by (with_reducible repeat (first | refine blk_drewN ?_ _ | refine blk_drew ?_ | refine blk_alloc ?_ _)); exact BK122.out) hb)
              have n5_ := Aside0.mk (blk_below (g := gb123) (o := .cells #[.int .i64 a1_0, .int .i64 a1_1, .int .i64 a1_2, .string a1_3, .slice A1_4 l1_4.length c1_4, .slice A1_5 l1_5.length c1_5] 35 (0, 0)) (by (with_reducible repeat (first | refine blk_drewN ?_ _ | refine blk_drew ?_ | refine blk_alloc ?_ _)); exact BK123.out) hb)
              have n6_ := Aside0.mk (below_step (by repeat (first | (with_reducible first | exact HB.out | apply below_alloc | apply pw_below_drewN | apply below_drew1 | refine below_set ?_ GE122.out | refine below_set ?_ GE123.out) | exact HB.out)) hb)
              clear HO133
              clear HO136
              clear HO143
              clear HO146
              clear BK122
              clear BK123
              clear HB
              have HO133 := n0_
              have HO136 := n1_
              have HO143 := n2_
              have HO146 := n3_
              have BK122 := n4_
              have BK123 := n5_
              have HB := n6_
              clear n0_ n1_ n2_ n3_ n4_ n5_ n6_
              (try clear hb)
              (try clear hb2)
              (try clear hk)
              (try clear hi)
              refine hK.out _ _ ⟨(blk_cell BK122.out 0).trans rfl, (blk_cell BK122.out 1).trans rfl, (blk_cell BK122.out 2).trans rfl, (blk_cell BK122.out 3).trans rfl, (blk_cell BK122.out 4).trans rfl, (blk_cell BK122.out 5).trans rfl, (blk_cell BK123.out 0).trans rfl, (blk_cell BK123.out 1).trans rfl, (blk_cell BK123.out 2).trans rfl, (blk_cell BK123.out 3).trans rfl, (blk_cell BK123.out 4).trans rfl, (blk_cell BK123.out 5).trans rfl⟩ (fun hHeld => ?_)
              clear hK K
              refine norm_ (a' := ?_) ?_ ?_
              rotate_left
              · show Act.put _ (some 22) _ = _
                simp only [Act.put, List.setIfInBounds_toArray, List.set_cons_zero, List.set_cons_succ, i64_w, i32_w]
                rfl
              refine one_ (i := 11) (N := some 25) #[true, true, true, true, true, true, true, true, true, true, true, true, false, false, false, false, false, false, false, false, false, false, false] rfl rfl (one_of HT_.out (by kernel_rfl)) (by decide) (fun K hK => ?_)
              refine goes_ Try.func62 (by kernel_rfl) rfl #[.agg #[.int .i64 a0_0, .int .i64 a0_1, .int .i64 a0_2, .string a0_3, .slice A0_4 l0_4.length c0_4, .slice A0_5 l0_5.length c0_5], .agg #[.int .i64 a1_0, .int .i64 a1_1, .int .i64 a1_2, .string a1_3, .slice A1_4 l1_4.length c1_4, .slice A1_5 l1_5.length c1_5]] (by rfl) rfl rfl (by (try simp only [List.map_toArray, List.map_cons, List.map_nil]); first | done | rfl | (simp only [List.length_drop, List.length_take]; rfl)) ?_
              with_reducible refine (binderyref16_Same.calls a0_0 a0_1 a0_2 a0_3 _ _ l0_4 _ _ l0_5 a1_0 a1_1 a1_2 a1_3 _ _ l1_4 _ _ l1_5 t149 _ ?side1 ?side2 ?side3 ?side4 ?side5 ?side6 ?side7 ?side8 A25.out).mono ?_
              (case side1 => repeat (first | exact (Kd.C_below HR0_4.out HB.out) | (with_reducible refine Kd.C_alloc ?_ _) | (with_reducible refine Kd.C_drewN ?_ _) | (with_reducible refine Kd.C_drew ?_)))
              (case side2 => exact HC0_4.out)
              (case side3 => repeat (first | exact (Kd.C_below HR0_5.out HB.out) | (with_reducible refine Kd.C_alloc ?_ _) | (with_reducible refine Kd.C_drewN ?_ _) | (with_reducible refine Kd.C_drew ?_)))
              (case side4 => exact HC0_5.out)
              (case side5 => repeat (first | exact (Kd.C_below HR1_4.out HB.out) | (with_reducible refine Kd.C_alloc ?_ _) | (with_reducible refine Kd.C_drewN ?_ _) | (with_reducible refine Kd.C_drew ?_)))
              (case side6 => exact HC1_4.out)
              (case side7 => repeat (first | exact (Kd.C_below HR1_5.out HB.out) | (with_reducible refine Kd.C_alloc ?_ _) | (with_reducible refine Kd.C_drewN ?_ _) | (with_reducible refine Kd.C_drew ?_)))
              (case side8 => exact HC1_5.out)
              rintro e w39 ⟨rfl, hb⟩
              refine ⟨_, rfl, ?_⟩
              have n0_ := Aside0.mk (Kd.V_below (by (with_reducible repeat (first | apply Kd.V_alloc | apply Kd.V_drewN | apply Kd.V_drew)); exact HO133.out) hb)
              have n1_ := Aside0.mk (Kd.V_below (by (with_reducible repeat (first | apply Kd.V_alloc | apply Kd.V_drewN | apply Kd.V_drew)); exact HO136.out) hb)
              have n2_ := Aside0.mk (Kd.V_below (by (with_reducible repeat (first | apply Kd.V_alloc | apply Kd.V_drewN | apply Kd.V_drew)); exact HO143.out) hb)
              have n3_ := Aside0.mk (Kd.V_below (by (with_reducible repeat (first | apply Kd.V_alloc | apply Kd.V_drewN | apply Kd.V_drew)); exact HO146.out) hb)
              have n4_ := Aside0.mk (blk_below (g := gb122) (o := .cells #[.int .i64 a0_0, .int .i64 a0_1, .int .i64 a0_2, .string a0_3, .slice A0_4 l0_4.length c0_4, .slice A0_5 l0_5.length c0_5] 35 (0, 0)) (by (with_reducible repeat (first | refine blk_drewN ?_ _ | refine blk_drew ?_ | refine blk_alloc ?_ _)); exact BK122.out) hb)
              have n5_ := Aside0.mk (blk_below (g := gb123) (o := .cells #[.int .i64 a1_0, .int .i64 a1_1, .int .i64 a1_2, .string a1_3, .slice A1_4 l1_4.length c1_4, .slice A1_5 l1_5.length c1_5] 35 (0, 0)) (by (with_reducible repeat (first | refine blk_drewN ?_ _ | refine blk_drew ?_ | refine blk_alloc ?_ _)); exact BK123.out) hb)
              have n6_ := Aside0.mk (below_step (by repeat (first | (with_reducible first | exact HB.out | apply below_alloc | apply pw_below_drewN | apply below_drew1 | refine below_set ?_ GE122.out | refine below_set ?_ GE123.out) | exact HB.out)) hb)
              clear HO133
              clear HO136
              clear HO143
              clear HO146
              clear BK122
              clear BK123
              clear HB
              have HO133 := n0_
              have HO136 := n1_
              have HO143 := n2_
              have HO146 := n3_
              have BK122 := n4_
              have BK123 := n5_
              have HB := n6_
              clear n0_ n1_ n2_ n3_ n4_ n5_ n6_
              (try clear hb)
              (try clear hb2)
              (try clear hk)
              (try clear hi)
              refine hK.out _ _ ⟨(blk_cell BK122.out 0).trans rfl, (blk_cell BK122.out 1).trans rfl, (blk_cell BK122.out 2).trans rfl, (blk_cell BK122.out 3).trans rfl, (blk_cell BK122.out 4).trans rfl, (blk_cell BK122.out 5).trans rfl, (blk_cell BK123.out 0).trans rfl, (blk_cell BK123.out 1).trans rfl, (blk_cell BK123.out 2).trans rfl, (blk_cell BK123.out 3).trans rfl, (blk_cell BK123.out 4).trans rfl, (blk_cell BK123.out 5).trans rfl⟩ (fun hHeld => ?_)
              clear hK K
              refine norm_ (a' := ?_) ?_ ?_
              rotate_left
              · show Act.put _ (some 25) _ = _
                simp only [Act.put, List.setIfInBounds_toArray, List.set_cons_zero, List.set_cons_succ, i64_w, i32_w]
                rfl
              refine pure_ (i := 12) (N := some 26) (v := ?_) (a' := ?_) #[true, true, true, true, true, true, true, true, true, true, true, true, true, false, false, false, false, false, false, false, false, false, false] rfl rfl (any_of HT_.out (by kernel_rfl)) (fun _ _ _ h => h) (Or.inl ⟨by rfl, ?_⟩) ?_ ?_
              rotate_left
              · intro w'
                go_simp
                with_reducible rfl
              rotate_left
              · simp only [Act.put, List.setIfInBounds_toArray, List.set_cons_zero, List.set_cons_succ, i64_w, i32_w]
                rfl
              refine pure_ (i := 13) (N := some 27) (v := ?_) (a' := ?_) #[true, true, true, true, true, true, true, true, true, true, true, true, true, true, false, false, false, false, false, false, false, false, false] rfl rfl (any_of HT_.out (by kernel_rfl)) (fun _ _ _ h => h) (Or.inl ⟨by rfl, ?_⟩) ?_ ?_
              rotate_left
              · intro w'
                go_simp
                with_reducible rfl
              rotate_left
              · simp only [Act.put, List.setIfInBounds_toArray, List.set_cons_zero, List.set_cons_succ, i64_w, i32_w]
                rfl
              refine pure_ (i := 14) (N := some 28) (v := ?_) (a' := ?_) #[true, true, true, true, true, true, true, true, true, true, true, true, true, true, true, false, false, false, false, false, false, false, false] rfl rfl (any_of HT_.out (by kernel_rfl)) (fun _ _ _ h => h) (Or.inl ⟨by rfl, ?_⟩) ?_ ?_
              rotate_left
              · intro w'
                go_simp
                with_reducible rfl
              rotate_left
              · simp only [Act.put, List.setIfInBounds_toArray, List.set_cons_zero, List.set_cons_succ, i64_w, i32_w]
                rfl
              refine take_ (i := 15) (N := some 29) (v := ?_) (a' := ?_) #[true, true, true, true, true, true, true, true, true, true, true, true, true, true, true, true, false, false, false, false, false, false, false] rfl rfl (take_ofW HT_.out HW_.out (by kernel_rfl)) (fun _ _ _ h => h) (Or.inl ⟨by rfl, ?_⟩) hHeld ?_ ?_
              rotate_left
              · rintro w' ⟨s0, s1, s2, s3, s4, s5, s6, s7, s8, s9, s10, s11⟩
                go_simp
                with_reducible rfl
              rotate_left
              · simp only [Act.put, List.setIfInBounds_toArray, List.set_cons_zero, List.set_cons_succ, i64_w, i32_w]
                rfl
              refine take_ (i := 16) (N := some 30) (v := ?_) (a' := ?_) #[true, true, true, true, true, true, true, true, true, true, true, true, true, true, true, true, true, false, false, false, false, false, false] rfl rfl (take_ofW HT_.out HW_.out (by kernel_rfl)) (fun _ _ _ h => h) (Or.inl ⟨by rfl, ?_⟩) hHeld ?_ ?_
              rotate_left
              · rintro w' ⟨s0, s1, s2, s3, s4, s5, s6, s7, s8, s9, s10, s11⟩
                go_simp
                with_reducible rfl
              rotate_left
              · simp only [Act.put, List.setIfInBounds_toArray, List.set_cons_zero, List.set_cons_succ, i64_w, i32_w]
                rfl
              refine one_ (i := 17) (N := some 31) #[true, true, true, true, true, true, true, true, true, true, true, true, true, true, true, true, true, true, false, false, false, false, false] rfl rfl (one_of HT_.out (by kernel_rfl)) (by decide) (fun K hK => ?_)
              refine goes_ Try.func61 (by kernel_rfl) rfl #[.agg #[.int .i64 a0_0, .int .i64 a0_1, .int .i64 a0_2, .string a0_3, .slice A0_4 l0_4.length c0_4, .slice A0_5 l0_5.length c0_5], .agg #[.int .i64 a0_0, .int .i64 a0_1, .int .i64 a0_2, .string a0_3, .slice A0_4 l0_4.length c0_4, .slice A0_5 l0_5.length c0_5]] (by rfl) rfl rfl (by (try simp only [List.map_toArray, List.map_cons, List.map_nil]); first | done | rfl | (simp only [List.length_drop, List.length_take]; rfl)) ?_
              with_reducible refine (value_Same.calls a0_0 a0_1 a0_2 a0_3 _ _ l0_4 _ _ l0_5 a0_0 a0_1 a0_2 a0_3 _ _ l0_4 _ _ l0_5 true _ ?side1 ?side2 ?side3 ?side4 ?side5 ?side6 ?side7 ?side8 A27.out).mono ?_
              (case side1 => repeat (first | exact (Kd.C_below HR0_4.out HB.out) | (with_reducible refine Kd.C_alloc ?_ _) | (with_reducible refine Kd.C_drewN ?_ _) | (with_reducible refine Kd.C_drew ?_)))
              (case side2 => exact HC0_4.out)
              (case side3 => repeat (first | exact (Kd.C_below HR0_5.out HB.out) | (with_reducible refine Kd.C_alloc ?_ _) | (with_reducible refine Kd.C_drewN ?_ _) | (with_reducible refine Kd.C_drew ?_)))
              (case side4 => exact HC0_5.out)
              (case side5 => repeat (first | exact (Kd.C_below HR0_4.out HB.out) | (with_reducible refine Kd.C_alloc ?_ _) | (with_reducible refine Kd.C_drewN ?_ _) | (with_reducible refine Kd.C_drew ?_)))
              (case side6 => exact HC0_4.out)
              (case side7 => repeat (first | exact (Kd.C_below HR0_5.out HB.out) | (with_reducible refine Kd.C_alloc ?_ _) | (with_reducible refine Kd.C_drewN ?_ _) | (with_reducible refine Kd.C_drew ?_)))
              (case side8 => exact HC0_5.out)
              rintro e w40 ⟨rfl, hb⟩
              refine ⟨_, rfl, ?_⟩
              have n0_ := Aside0.mk (Kd.V_below (by (with_reducible repeat (first | apply Kd.V_alloc | apply Kd.V_drewN | apply Kd.V_drew)); exact HO133.out) hb)
              have n1_ := Aside0.mk (Kd.V_below (by (with_reducible repeat (first | apply Kd.V_alloc | apply Kd.V_drewN | apply Kd.V_drew)); exact HO136.out) hb)
              have n2_ := Aside0.mk (Kd.V_below (by (with_reducible repeat (first | apply Kd.V_alloc | apply Kd.V_drewN | apply Kd.V_drew)); exact HO143.out) hb)
              have n3_ := Aside0.mk (Kd.V_below (by (with_reducible repeat (first | apply Kd.V_alloc | apply Kd.V_drewN | apply Kd.V_drew)); exact HO146.out) hb)
              have n4_ := Aside0.mk (blk_below (g := gb122) (o := .cells #[.int .i64 a0_0, .int .i64 a0_1, .int .i64 a0_2, .string a0_3, .slice A0_4 l0_4.length c0_4, .slice A0_5 l0_5.length c0_5] 35 (0, 0)) (by (with_reducible repeat (first | refine blk_drewN ?_ _ | refine blk_drew ?_ | refine blk_alloc ?_ _)); exact BK122.out) hb)
              have n5_ := Aside0.mk (blk_below (g := gb123) (o := .cells #[.int .i64 a1_0, .int .i64 a1_1, .int .i64 a1_2, .string a1_3, .slice A1_4 l1_4.length c1_4, .slice A1_5 l1_5.length c1_5] 35 (0, 0)) (by (with_reducible repeat (first | refine blk_drewN ?_ _ | refine blk_drew ?_ | refine blk_alloc ?_ _)); exact BK123.out) hb)
              have n6_ := Aside0.mk (below_step (by repeat (first | (with_reducible first | exact HB.out | apply below_alloc | apply pw_below_drewN | apply below_drew1 | refine below_set ?_ GE122.out | refine below_set ?_ GE123.out) | exact HB.out)) hb)
              clear HO133
              clear HO136
              clear HO143
              clear HO146
              clear BK122
              clear BK123
              clear HB
              have HO133 := n0_
              have HO136 := n1_
              have HO143 := n2_
              have HO146 := n3_
              have BK122 := n4_
              have BK123 := n5_
              have HB := n6_
              clear n0_ n1_ n2_ n3_ n4_ n5_ n6_
              (try clear hb)
              (try clear hb2)
              (try clear hk)
              (try clear hi)
              refine hK.out _ _ ⟨(blk_cell BK122.out 0).trans rfl, (blk_cell BK122.out 1).trans rfl, (blk_cell BK122.out 2).trans rfl, (blk_cell BK122.out 3).trans rfl, (blk_cell BK122.out 4).trans rfl, (blk_cell BK122.out 5).trans rfl, (blk_cell BK123.out 0).trans rfl, (blk_cell BK123.out 1).trans rfl, (blk_cell BK123.out 2).trans rfl, (blk_cell BK123.out 3).trans rfl, (blk_cell BK123.out 4).trans rfl, (blk_cell BK123.out 5).trans rfl⟩ (fun hHeld => ?_)
              clear hK K
              refine norm_ (a' := ?_) ?_ ?_
              rotate_left
              · show Act.put _ (some 31) _ = _
                simp only [Act.put, List.setIfInBounds_toArray, List.set_cons_zero, List.set_cons_succ, i64_w, i32_w]
                rfl
              refine pure_ (i := 18) (N := some 32) (v := ?_) (a' := ?_) #[true, true, true, true, true, true, true, true, true, true, true, true, true, true, true, true, true, true, true, false, false, false, false] rfl rfl (any_of HT_.out (by kernel_rfl)) (fun _ _ _ h => h) (Or.inl ⟨by rfl, ?_⟩) ?_ ?_
              rotate_left
              · intro w'
                go_simp
                with_reducible rfl
              rotate_left
              · simp only [Act.put, List.setIfInBounds_toArray, List.set_cons_zero, List.set_cons_succ, i64_w, i32_w]
                rfl
              refine pure_ (i := 19) (N := some 33) (v := ?_) (a' := ?_) #[true, true, true, true, true, true, true, true, true, true, true, true, true, true, true, true, true, true, true, true, false, false, false] rfl rfl (any_of HT_.out (by kernel_rfl)) (fun _ _ _ h => h) (Or.inl ⟨by rfl, ?_⟩) ?_ ?_
              rotate_left
              · intro w'
                go_simp
                with_reducible rfl
              rotate_left
              · simp only [Act.put, List.setIfInBounds_toArray, List.set_cons_zero, List.set_cons_succ, i64_w, i32_w]
                rfl
              refine one_ (i := 20) (N := some 34) #[true, true, true, true, true, true, true, true, true, true, true, true, true, true, true, true, true, true, true, true, true, false, false] rfl rfl (one_of HT_.out (by kernel_rfl)) (by decide) (fun K hK => ?_)
              refine goes_ Try.func51 (by kernel_rfl) rfl #[] (by rfl) rfl rfl (by (try simp only [List.map_toArray, List.map_cons, List.map_nil]); first | done | rfl | (simp only [List.length_drop, List.length_take]; rfl)) ?_
              with_reducible refine (binderylaw16_values.calls  t151 _ A29.out).mono ?_
              rintro e w41 ⟨rfl, hb⟩
              refine ⟨_, rfl, ?_⟩
              have n0_ := Aside0.mk (Kd.V_below (by (with_reducible repeat (first | apply Kd.V_alloc | apply Kd.V_drewN | apply Kd.V_drew)); exact HO133.out) hb)
              have n1_ := Aside0.mk (Kd.V_below (by (with_reducible repeat (first | apply Kd.V_alloc | apply Kd.V_drewN | apply Kd.V_drew)); exact HO136.out) hb)
              have n2_ := Aside0.mk (Kd.V_below (by (with_reducible repeat (first | apply Kd.V_alloc | apply Kd.V_drewN | apply Kd.V_drew)); exact HO143.out) hb)
              have n3_ := Aside0.mk (Kd.V_below (by (with_reducible repeat (first | apply Kd.V_alloc | apply Kd.V_drewN | apply Kd.V_drew)); exact HO146.out) hb)
              have n4_ := Aside0.mk (blk_below (g := gb122) (o := .cells #[.int .i64 a0_0, .int .i64 a0_1, .int .i64 a0_2, .string a0_3, .slice A0_4 l0_4.length c0_4, .slice A0_5 l0_5.length c0_5] 35 (0, 0)) (by (with_reducible repeat (first | refine blk_drewN ?_ _ | refine blk_drew ?_ | refine blk_alloc ?_ _)); exact BK122.out) hb)
              have n5_ := Aside0.mk (blk_below (g := gb123) (o := .cells #[.int .i64 a1_0, .int .i64 a1_1, .int .i64 a1_2, .string a1_3, .slice A1_4 l1_4.length c1_4, .slice A1_5 l1_5.length c1_5] 35 (0, 0)) (by (with_reducible repeat (first | refine blk_drewN ?_ _ | refine blk_drew ?_ | refine blk_alloc ?_ _)); exact BK123.out) hb)
              have n6_ := Aside0.mk (below_step (by repeat (first | (with_reducible first | exact HB.out | apply below_alloc | apply pw_below_drewN | apply below_drew1 | refine below_set ?_ GE122.out | refine below_set ?_ GE123.out) | exact HB.out)) hb)
              clear HO133
              clear HO136
              clear HO143
              clear HO146
              clear BK122
              clear BK123
              clear HB
              have HO133 := n0_
              have HO136 := n1_
              have HO143 := n2_
              have HO146 := n3_
              have BK122 := n4_
              have BK123 := n5_
              have HB := n6_
              clear n0_ n1_ n2_ n3_ n4_ n5_ n6_
              (try clear hb)
              (try clear hb2)
              (try clear hk)
              (try clear hi)
              refine hK.out _ _ ⟨(blk_cell BK122.out 0).trans rfl, (blk_cell BK122.out 1).trans rfl, (blk_cell BK122.out 2).trans rfl, (blk_cell BK122.out 3).trans rfl, (blk_cell BK122.out 4).trans rfl, (blk_cell BK122.out 5).trans rfl, (blk_cell BK123.out 0).trans rfl, (blk_cell BK123.out 1).trans rfl, (blk_cell BK123.out 2).trans rfl, (blk_cell BK123.out 3).trans rfl, (blk_cell BK123.out 4).trans rfl, (blk_cell BK123.out 5).trans rfl⟩ (fun hHeld => ?_)
              clear hK K
              refine norm_ (a' := ?_) ?_ ?_
              rotate_left
              · show Act.put _ (some 34) _ = _
                simp only [Act.put, List.setIfInBounds_toArray, List.set_cons_zero, List.set_cons_succ, i64_w, i32_w]
                rfl
              refine pure_ (i := 21) (N := some 35) (v := ?_) (a' := ?_) #[true, true, true, true, true, true, true, true, true, true, true, true, true, true, true, true, true, true, true, true, true, true, false] rfl rfl (any_of HT_.out (by kernel_rfl)) (fun _ _ _ h => h) (Or.inl ⟨by rfl, ?_⟩) ?_ ?_
              rotate_left
              · intro w'
                go_simp
                with_reducible rfl
              rotate_left
              · simp only [Act.put, List.setIfInBounds_toArray, List.set_cons_zero, List.set_cons_succ, i64_w, i32_w]
                rfl
              refine pure_ (i := 22) (N := some 4) (v := ?_) (a' := ?_) #[true, true, true, true, true, true, true, true, true, true, true, true, true, true, true, true, true, true, true, true, true, true, true] rfl rfl (any_of HT_.out (by kernel_rfl)) (fun _ _ _ h => h) (Or.inl ⟨by rfl, ?_⟩) ?_ ?_
              rotate_left
              · intro w'
                go_simp
                with_reducible rfl
              rotate_left
              · simp only [Act.put, List.setIfInBounds_toArray, List.set_cons_zero, List.set_cons_succ, i64_w, i32_w]
                rfl
              refine done_ (done_of HT_.out (by kernel_rfl)) ?_
              try go_wp2
              go_ret
              exact ⟨by first | rfl | (simp [errW_none, errW_some] <;> rfl) | (simp [*, errW_none, errW_some] <;> rfl), by repeat (first | (with_reducible first | exact HB.out | apply below_alloc | apply pw_below_drewN | apply below_drew1 | refine below_set ?_ GE122.out | refine below_set ?_ GE123.out) | exact HB.out)⟩
            · replace c28 := Bool.eq_false_iff.mpr c28
              subst c28
              have H1 : (none) = some r := by rw [if_neg (show ¬ (false = true) by decide)] at H; exact H
              clear H
              have H := H1
              clear H1
              exact absurd H (by simp)
          · rw [if_neg c26] at H
            exact absurd H (by simp)
        · replace c23 := Bool.eq_false_iff.mpr c23
          subst c23
          have H1 : (none) = some r := by rw [if_neg (show ¬ (false = true) by decide)] at H; exact H
          clear H
          have H := H1
          clear H1
          exact absurd H (by simp)
end Go.Proofs.Ytogpnkkoablmiaa.Y
end
section
namespace Go.Proofs.Ytogpnkkoablmiaa.P
open Go.RowKit Go.Proofs.Ytogpnkkoablmiaa.V Go.Proofs.Ytogpnkkoablmiaa.Y Go.Proofs.Ytogpnkkoablmiaa.Q Go.Proofs.YtogpnkkoablmiaaW.PrintWords Go.Proofs.YtogpnkkoablmiaaW.PrintLast
set_option linter.unusedVariables false
set_option linter.unusedSimpArgs false
theorem plain_f {v : S35} (h : fewV v) : value_Plain.f v.f0 v.f1 v.f2 v.f3 v.f4 v.f5 = some ((plain v).f0, (plain v).f1, (plain v).f2, (plain v).f3, (plain v).f4, (plain v).f5) := by cases v; unfold value_Plain.f; exact if_pos h
theorem rplain_f {v : S35} (h : fewV v) : binderyref16_Plain.f v.f0 v.f1 v.f2 v.f3 v.f4 v.f5 = some ((plain v).f0, (plain v).f1, (plain v).f2, (plain v).f3, (plain v).f4, (plain v).f5) := by cases v; unfold binderyref16_Plain.f; exact if_pos h
theorem same_f {v w : S35} (h : fewV v) (hw : fewV w) : value_Same.f v.f0 v.f1 v.f2 v.f3 v.f4 v.f5 w.f0 w.f1 w.f2 w.f3 w.f4 w.f5 = some (eqB (plain v) (plain w)) := by cases v; cases w; unfold value_Same.f; exact if_pos ⟨h, hw⟩
theorem rsame_f {v w : S35} (h : fewV v) (hw : fewV w) : binderyref16_Same.f v.f0 v.f1 v.f2 v.f3 v.f4 v.f5 w.f0 w.f1 w.f2 w.f3 w.f4 w.f5 = some (eqB (plain v) (plain w)) := by cases v; cases w; unfold binderyref16_Same.f; exact if_pos ⟨h, hw⟩
theorem eq_f (v w : S35) : binderyref16_Equal.f v.f0 v.f1 v.f2 v.f3 v.f4 v.f5 w.f0 w.f1 w.f2 w.f3 w.f4 w.f5 = some (eqB v w) := by cases v; cases w; unfold binderyref16_Equal.f; rfl
theorem values_f : binderylaw16_values.f = some true := by unfold binderylaw16_values.f; rfl
theorem plains_all (v w : S35) : ∃ k, binderylaw16_ValuePlains.f k v.f0 v.f1 v.f2 v.f3 v.f4 v.f5 w.f0 w.f1 w.f2 w.f3 w.f4 w.f5 = some true := by
  obtain ⟨b, k0, hb, hk⟩ := few_all v 500 (by omega) (by omega)
  obtain ⟨b1, k1, hb1, hk1⟩ := few_all w 500 (by omega) (by omega)
  have hj : ∀ k, binderylaw16_ValuePlains.j0 (k + 1) true v.f0 v.f1 v.f2 v.f3 v.f4 v.f5 w.f0 w.f1 w.f2 w.f3 w.f4 w.f5 = some true := fun k => by
    rw [binderylaw16_ValuePlains.j0]
    rw [if_pos rfl, values_f]; rfl
  refine ⟨max k0 k1 + 1, ?_⟩
  unfold binderylaw16_ValuePlains.f
  rw [hk _ (by omega), Option.bind_some]
  cases b with
  | false => rw [if_neg (by decide), hj]
  | true =>
    rw [if_pos rfl, hk1 _ (by omega), Option.bind_some]
    cases b1 with
    | false => exact hj _
    | true =>
      obtain ⟨ht, hf, hs⟩ := hb rfl
      obtain ⟨ht1, hf1, hs1⟩ := hb1 rfl
      rw [binderylaw16_ValuePlains.j0]
      rw [if_neg (by decide), plain_f hf, Option.bind_some, rplain_f hf, Option.bind_some]
      simp only []
      rw [eq_f, eqB_true rfl, Option.bind_some, if_pos rfl, same_f hf hf1, Option.bind_some, rsame_f hf hf1, Option.bind_some, if_pos (by simp), same_f hf hf, eqB_true rfl, Option.bind_some, if_pos rfl, values_f]
      rfl
end Go.Proofs.Ytogpnkkoablmiaa.P
end
