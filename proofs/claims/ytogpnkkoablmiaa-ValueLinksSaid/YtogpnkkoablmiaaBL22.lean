/- Parts of the proof: what the theorem reaches, put together by a program of this session. -/
import Derived.ArgAppend
import Derived.Below
import Derived.BigGuardPart
import Derived.BigQuiet
import Derived.BigRegion
import Derived.Deep.AppendLies
import Derived.Deep.CutBlock
import Derived.Deep.DeepCutAuto
import Derived.Deep.Draws
import Derived.Deep.LoopGhost
import Derived.Deep.OwnRows
import Derived.Deep.QuietTactic
import Derived.Deep.RegionHeld3
import Derived.Deep.RegionLaw
import Derived.KernelRfl
import Derived.Laws.BitsLemmas
import Derived.Laws.BytesArg
import Derived.Laws.EntriesVeiled
import Derived.Laws.IdiomCopy
import Derived.Laws.MakeOwn
import Derived.Laws.OwnMore
import Derived.Laws.Rows
import Derived.Laws.Slices
import Derived.Laws.StructEq
import Derived.Lib.AppendIntMem
import Derived.Lib.AppendStr
import Derived.Lib.Bytealg
import Derived.Lib.ConvBytes
import Derived.Lib.Hide
import Derived.Lib.OwnBridge
import Derived.Lib.SliceRun
import Derived.LoopIn
import Derived.LoopNIn
import Derived.Maps.AppendAt
import Derived.Maps.OwnOps
import Derived.Maps.Views
import Derived.OrdersHeld
import Derived.Outline
import Derived.OwnWalk
import Derived.OwnWalkIn
import Derived.RangeFuncBound
import Derived.RangeFuncBox
import Derived.RangeFuncCalls
import Derived.RangeFuncFrom
import Derived.RangeFuncKeeps
import Derived.RangeFuncLeaves
import Derived.RangeFuncNested
import Derived.RowKit
import Derived.RowKit3
import Derived.Shelf.Abstract
import Derived.Shelf.RegionOpen
import Derived.Shelf.SlSortCmp.KitK
import Derived.Shelf.Spec.SlicesInsertGrow
import Derived.Sort.LotA
import Derived.Sort.WalkB12
import Derived.Sort.WalkB2
import Derived.Tactics
import Derived.TacticsInMore
import Derived.Test.YtogpnkkoablmiaaProg
import Derived.WalkKit
import Derived.WalkLawsBesides
import Derived.WideLaws
import Derived.Test.YtogpnkkoablmiaaBL1
import Derived.Test.YtogpnkkoablmiaaBL2
import Derived.Test.YtogpnkkoablmiaaBL3
import Derived.Test.YtogpnkkoablmiaaBL4
import Derived.Test.YtogpnkkoablmiaaBL5
import Derived.Test.YtogpnkkoablmiaaBL6
import Derived.Test.YtogpnkkoablmiaaBL7
import Derived.Test.YtogpnkkoablmiaaBL9
import Derived.Test.YtogpnkkoablmiaaBL10
import Derived.Test.YtogpnkkoablmiaaBL11
import Derived.Test.YtogpnkkoablmiaaBL12
import Derived.Test.YtogpnkkoablmiaaBL13
import Derived.Test.YtogpnkkoablmiaaBL14
import Derived.Test.YtogpnkkoablmiaaBL15
import Derived.Test.YtogpnkkoablmiaaBL16
import Derived.Test.YtogpnkkoablmiaaBL17
import Derived.Test.YtogpnkkoablmiaaBL18
import Derived.Test.YtogpnkkoablmiaaBL19
import Derived.Test.YtogpnkkoablmiaaBL20
import Derived.Test.YtogpnkkoablmiaaBL21
section
namespace Go.Proofs.Ytogpnkkoablmiaa.V
open Go.Shelf Go.RowKit Go.Lib Go.Sort Go.Proofs.Ytogpnkkoablmiaa.Q Go.Proofs.YtogpnkkoablmiaaW.PrintWords Go.Proofs.YtogpnkkoablmiaaW.PrintLast Go.Proofs.YtogpnkkoablmiaaW.PrintMore
set_option linter.unusedVariables false
set_option linter.unusedSimpArgs false
def exD : List S89 := [⟨⟨#[66]⟩, ⟨2, 1, 0, ⟨#[]⟩, [], []⟩⟩, ⟨⟨#[65]⟩, ⟨0, 0, 0, ⟨#[]⟩, [], []⟩⟩, ⟨⟨#[66]⟩, ⟨2, 2, 0, ⟨#[]⟩, [], []⟩⟩]
def exP : List S89 := [⟨⟨#[66]⟩, ⟨2, 1, 0, ⟨#[]⟩, [], []⟩⟩]
def exW : List S89 := [⟨⟨#[66]⟩, ⟨2, 1, 0, ⟨#[]⟩, [], []⟩⟩, ⟨⟨#[67]⟩, ⟨7, 3, 1, ⟨#[]⟩, [], []⟩⟩]
theorem ex_plain : plain ⟨6, 0, 0, ⟨#[]⟩, [], exD⟩ = ⟨6, 0, 0, ⟨#[]⟩, [], exP⟩ := by kernel_rfl
theorem ex_plainP : plain ⟨6, 0, 0, ⟨#[]⟩, [], exP⟩ = ⟨6, 0, 0, ⟨#[]⟩, [], exP⟩ := by kernel_rfl
theorem ex_with : withD ⟨6, 0, 0, ⟨#[]⟩, [], exD⟩ ⟨#[67]⟩ ⟨7, 3, 1, ⟨#[]⟩, [], []⟩ = exW := by kernel_rfl
theorem ex_get : getV ⟨6, 0, 0, ⟨#[]⟩, [], exW⟩ ⟨#[67]⟩ = ⟨7, 3, 1, ⟨#[]⟩, [], []⟩ := by kernel_rfl
theorem ex_has : hasK (plain ⟨6, 0, 0, ⟨#[]⟩, [], exW⟩).f5 ⟨#[67]⟩ = true := by kernel_rfl
theorem ex_h1 : holdsV ⟨6, 0, 0, ⟨#[]⟩, [], exW⟩ 3 1 = true := by kernel_rfl
theorem ex_h0 : holdsV ⟨6, 0, 0, ⟨#[]⟩, [], exW⟩ 3 0 = false := by kernel_rfl
theorem ex_c1 : chkV ⟨6, 0, 0, ⟨#[]⟩, [], exD⟩ false 0 = 11 := by kernel_rfl
theorem ex_c2 : chkV ⟨6, 0, 0, ⟨#[]⟩, [], exW⟩ false 0 = 0 := by kernel_rfl
theorem ex_c3 : chkV ⟨8, 0, 0, ⟨#[]⟩, [], []⟩ false 0 = 10 := by kernel_rfl
theorem ex_dep : value_Depth.f 20 6 0 0 ⟨#[]⟩ [] exD = some 1 := by kernel_rfl
theorem ex_siz : value_Size.f 20 6 0 0 ⟨#[]⟩ [] exD = some 4 := by kernel_rfl
theorem ex_fewD : fewV ⟨6, 0, 0, ⟨#[]⟩, [], exD⟩ := by simp [exD, fewV, fewL, fewD, fewP]
theorem ex_fewP : fewV ⟨6, 0, 0, ⟨#[]⟩, [], exP⟩ := by simp [exP, fewV, fewL, fewD, fewP]
theorem ex_fewW : fewV ⟨6, 0, 0, ⟨#[]⟩, [], exW⟩ := by simp [exW, fewV, fewL, fewD, fewP]
theorem ex_fewL : fewV ⟨7, 3, 1, ⟨#[]⟩, [], []⟩ := by simp [fewV, fewL, fewD]
theorem C35_nil (w : World) (A : Option Addr) : k35.C w A ([] : List S35).length [] := ⟨rfl, by simp, fun h => absurd h (by simp)⟩
theorem C89_nil (w : World) (A : Option Addr) : k89.C w A ([] : List S89).length [] := ⟨rfl, by simp, fun h => absurd h (by simp)⟩
theorem C_lit3 (W : World) (e : TypeId) : k89.C (W.alloc (.cells #[.string ⟨#[66]⟩, .int .i64 2, .int .i64 1, .int .i64 0, .string ⟨#[]⟩, .slice none 0 0, .slice none 0 0, .string ⟨#[65]⟩, .int .i64 0, .int .i64 0, .int .i64 0, .string ⟨#[]⟩, .slice none 0 0, .slice none 0 0, .string ⟨#[66]⟩, .int .i64 2, .int .i64 2, .int .i64 0, .string ⟨#[]⟩, .slice none 0 0, .slice none 0 0] e)) (some ⟨W.heap.size, 0, none⟩) 3 exD := by
  refine ⟨rfl, by simp [exD], fun _ => ⟨_, rfl, fun j p hj => ?_⟩⟩
  have hc : ∀ o u, #[.string ⟨#[66]⟩, .int .i64 2, .int .i64 1, .int .i64 0, .string ⟨#[]⟩, .slice none 0 0, .slice none 0 0, .string ⟨#[65]⟩, .int .i64 0, .int .i64 0, .int .i64 0, .string ⟨#[]⟩, .slice none 0 0, .slice none 0 0, .string ⟨#[66]⟩, .int .i64 2, .int .i64 2, .int .i64 0, .string ⟨#[]⟩, .slice none 0 0, .slice none 0 0][o]? = some u → (W.alloc (.cells #[.string ⟨#[66]⟩, .int .i64 2, .int .i64 1, .int .i64 0, .string ⟨#[]⟩, .slice none 0 0, .slice none 0 0, .string ⟨#[65]⟩, .int .i64 0, .int .i64 0, .int .i64 0, .string ⟨#[]⟩, .slice none 0 0, .slice none 0 0, .string ⟨#[66]⟩, .int .i64 2, .int .i64 2, .int .i64 0, .string ⟨#[]⟩, .slice none 0 0, .slice none 0 0] e)).cell? ⟨W.heap.size, o, none⟩ = some u := fun o u h => by rw [World.cell?_alloc_new]; exact h
  match j, hj with
  | 0, hj =>
    obtain rfl : _ = p := Option.some.inj hj
    refine ⟨_, rfl, k89_mk _ _ (c5 := 0) (Nat.le_refl _) (C35_nil _ none) (c6 := 0) (Nat.le_refl _) (C89_nil _ none), fun i u hi => ?_⟩
    rw [Addr.add_lit]
    match i, hi with
    | 0, hi => exact hc 0 u hi
    | 1, hi => exact hc 1 u hi
    | 2, hi => exact hc 2 u hi
    | 3, hi => exact hc 3 u hi
    | 4, hi => exact hc 4 u hi
    | 5, hi => exact hc 5 u hi
    | 6, hi => exact hc 6 u hi
  | 1, hj =>
    obtain rfl : _ = p := Option.some.inj hj
    refine ⟨_, rfl, k89_mk _ _ (c5 := 0) (Nat.le_refl _) (C35_nil _ none) (c6 := 0) (Nat.le_refl _) (C89_nil _ none), fun i u hi => ?_⟩
    rw [Addr.add_lit]
    match i, hi with
    | 0, hi => exact hc 7 u hi
    | 1, hi => exact hc 8 u hi
    | 2, hi => exact hc 9 u hi
    | 3, hi => exact hc 10 u hi
    | 4, hi => exact hc 11 u hi
    | 5, hi => exact hc 12 u hi
    | 6, hi => exact hc 13 u hi
  | 2, hj =>
    obtain rfl : _ = p := Option.some.inj hj
    refine ⟨_, rfl, k89_mk _ _ (c5 := 0) (Nat.le_refl _) (C35_nil _ none) (c6 := 0) (Nat.le_refl _) (C89_nil _ none), fun i u hi => ?_⟩
    rw [Addr.add_lit]
    match i, hi with
    | 0, hi => exact hc 14 u hi
    | 1, hi => exact hc 15 u hi
    | 2, hi => exact hc 16 u hi
    | 3, hi => exact hc 17 u hi
    | 4, hi => exact hc 18 u hi
    | 5, hi => exact hc 19 u hi
    | 6, hi => exact hc 20 u hi
theorem C_lit1 (W : World) (e : TypeId) : k89.C (W.alloc (.cells #[.string ⟨#[66]⟩, .int .i64 2, .int .i64 1, .int .i64 0, .string ⟨#[]⟩, .slice none 0 0, .slice none 0 0] e)) (some ⟨W.heap.size, 0, none⟩) 1 exP := by
  refine ⟨rfl, by simp [exP], fun _ => ⟨_, rfl, fun j p hj => ?_⟩⟩
  have hc : ∀ o u, #[.string ⟨#[66]⟩, .int .i64 2, .int .i64 1, .int .i64 0, .string ⟨#[]⟩, .slice none 0 0, .slice none 0 0][o]? = some u → (W.alloc (.cells #[.string ⟨#[66]⟩, .int .i64 2, .int .i64 1, .int .i64 0, .string ⟨#[]⟩, .slice none 0 0, .slice none 0 0] e)).cell? ⟨W.heap.size, o, none⟩ = some u := fun o u h => by rw [World.cell?_alloc_new]; exact h
  match j, hj with
  | 0, hj =>
    obtain rfl : _ = p := Option.some.inj hj
    refine ⟨_, rfl, k89_mk _ _ (c5 := 0) (Nat.le_refl _) (C35_nil _ none) (c6 := 0) (Nat.le_refl _) (C89_nil _ none), fun i u hi => ?_⟩
    rw [Addr.add_lit]
    match i, hi with
    | 0, hi => exact hc 0 u hi
    | 1, hi => exact hc 1 u hi
    | 2, hi => exact hc 2 u hi
    | 3, hi => exact hc 3 u hi
    | 4, hi => exact hc 4 u hi
    | 5, hi => exact hc 5 u hi
    | 6, hi => exact hc 6 u hi
theorem vcheck_calls (v : S35) (A4 : Option Addr) (c4 : Nat) (A5 : Option Addr) (c5 : Nat) (stream : Bool) (w : World) (la4 : v.f4.length ≤ c4) (ra4 : k35.C w A4 v.f4.length v.f4) (la5 : v.f5.length ≤ c5) (ra5 : k89.C w A5 v.f5.length v.f5) :
    Calls Try.prog 52 #[.agg #[.int .i64 v.f0, .int .i64 v.f1, .int .i64 v.f2, .string v.f3, .slice A4 v.f4.length c4, .slice A5 v.f5.length c5], .bool stream] w fun e w' => e = .returned (.int .i64 (chkV v stream 0)) ∧ RowKit.Below w.heap.size w w' := by
  have hu35 := Try.underlying35
  have H := Aside0.mk (check_all v A4 c4 A5 c5 stream 0 (w.alloc (.cells #[.int .i64 v.f0, .int .i64 v.f1, .int .i64 v.f2, .string v.f3, .slice A4 v.f4.length c4, .slice A5 v.f5.length c5] 35)) (by omega) (by omega) la4 (Kd.C_alloc ra4 _) la5 (Kd.C_alloc ra5 _))
  have HB := Aside0.mk (below_alloc (RowKit.Below.refl w.heap.size w) (.cells #[.int .i64 v.f0, .int .i64 v.f1, .int .i64 v.f2, .string v.f3, .slice A4 v.f4.length c4, .slice A5 v.f5.length c5] 35))
  clear ra4 ra5
  go_enter Try.func52, Try.ntmps52
  go_wp2_with fail
  refine Calls.mono H.out ?_
  rintro e w1 ⟨rfl, hb⟩
  have HB2 := Aside0.mk (below_step HB.out hb)
  clear hb HB H
  go_wp2
  go_ret
  exact ⟨rfl, HB2.out⟩
def VF (w : World) (gD : Addr) (a5 : Option Addr) (W : World) : Prop := k89.C W (some gD) 3 exD ∧ k89.C W a5 2 exW ∧ RowKit.Below w.heap.size w W
theorem VF.below {w : World} {gD : Addr} {a5 : Option Addr} {W W' : World} (h : VF w gD a5 W) (hb : RowKit.Below W.heap.size W W') : VF w gD a5 W' :=
  ⟨Kd.C_below h.1 hb, Kd.C_below h.2.1 hb, h.2.2.trans (hb.mono h.2.2.size)⟩
theorem VF.alloc {w : World} {gD : Addr} {a5 : Option Addr} {W : World} (h : VF w gD a5 W) (o : Obj) : VF w gD a5 (W.alloc o) := h.below (below_alloc (RowKit.Below.refl _ W) o)
theorem VF.drew {w : World} {gD : Addr} {a5 : Option Addr} {W : World} (h : VF w gD a5 W) : VF w gD a5 W.drew := h.below (RowKit.Below.refl _ W).drew
theorem VF.drewN {w : World} {gD : Addr} {a5 : Option Addr} {W : World} (h : VF w gD a5 W) (n : Nat) : VF w gD a5 (W.drewN n) := h.below (pw_below_drewN (RowKit.Below.refl _ W) n)
theorem VF.c1 {w : World} {gD : Addr} {a5 : Option Addr} {W : World} (h : VF w gD a5 W) : k89.C W (some gD) 3 exD := h.1
theorem VF.c2 {w : World} {gD : Addr} {a5 : Option Addr} {W : World} (h : VF w gD a5 W) : k89.C W a5 2 exW := h.2.1
theorem KPl (W : World) (gD : Addr) (h : k89.C W (some gD) 3 exD) : Calls Try.prog 59 #[.agg #[.int .i64 6, .int .i64 0, .int .i64 0, .string ⟨#[]⟩, .slice none 0 0, .slice (some gD) 3 3]] W fun e w' => ∃ p4 q4 p5 q5, e = .returned (.agg #[.int .i64 6, .int .i64 0, .int .i64 0, .string ⟨#[]⟩, .slice p4 0 q4, .slice p5 1 q5]) ∧ 1 ≤ q5 ∧ k89.C w' p5 1 exP ∧ RowKit.Below W.heap.size W w' := by
  refine (plain59_all ⟨6, 0, 0, ⟨#[]⟩, [], exD⟩ none 0 (some gD) 3 W ex_fewD (Nat.le_refl _) (C35_nil _ _) (Nat.le_refl _) h).mono ?_
  rintro e w' ⟨v4, v5, rfl, r4, r5, hb⟩
  rw [ex_plain] at r4 r5 ⊢
  obtain ⟨a, c, rfl, -, -⟩ := Kd.R_reads r4
  obtain ⟨a', c', rfl, h1, h2⟩ := Kd.R_reads r5
  exact ⟨a, c, a', c', rfl, h1, h2, hb⟩
theorem KEq (W : World) (p4 : Option Addr) (q4 : Nat) (p5 : Option Addr) (q5 : Nat) (r5 : Option Addr) (m5 : Nat) (h1 : 1 ≤ q5) (h2 : k89.C W p5 1 exP) (h3 : 1 ≤ m5) (h4 : k89.C W r5 1 exP) : Calls Try.prog 58 #[.agg #[.int .i64 6, .int .i64 0, .int .i64 0, .string ⟨#[]⟩, .slice p4 0 q4, .slice p5 1 q5], .agg #[.int .i64 6, .int .i64 0, .int .i64 0, .string ⟨#[]⟩, .slice none 0 0, .slice r5 1 m5]] W fun e w' => e = .returned (.bool true) ∧ RowKit.Below W.heap.size W w' := by
  refine (equal_all ⟨6, 0, 0, ⟨#[]⟩, [], exP⟩ ⟨6, 0, 0, ⟨#[]⟩, [], exP⟩ p4 q4 p5 q5 none 0 r5 m5 W (Nat.zero_le _) (C35_nil _ _) h1 h2 (Nat.le_refl _) (C35_nil _ _) h3 h4).mono ?_
  rintro e w' ⟨he, hb⟩
  rw [eqB_true rfl] at he
  exact ⟨he, hb⟩
theorem KEl (W : World) (b4 : Option Addr) (d4 : Nat) (b5 : Option Addr) (d5 : Nat) : Calls Try.prog 58 #[.agg #[.int .i64 7, .int .i64 3, .int .i64 1, .string ⟨#[]⟩, .slice b4 0 d4, .slice b5 0 d5], .agg #[.int .i64 7, .int .i64 3, .int .i64 1, .string ⟨#[]⟩, .slice none 0 0, .slice none 0 0]] W fun e w' => e = .returned (.bool true) ∧ RowKit.Below W.heap.size W w' := by
  refine (equal_all ⟨7, 3, 1, ⟨#[]⟩, [], []⟩ ⟨7, 3, 1, ⟨#[]⟩, [], []⟩ b4 d4 b5 d5 none 0 none 0 W (Nat.zero_le _) (C35_nil _ _) (Nat.zero_le _) (C89_nil _ _) (Nat.le_refl _) (C35_nil _ _) (Nat.le_refl _) (C89_nil _ _)).mono ?_
  rintro e w' ⟨he, hb⟩
  rw [eqB_true rfl] at he
  exact ⟨he, hb⟩
theorem KH1 (W : World) (a4 : Option Addr) (n4 : Nat) (a5 : Option Addr) (n5 : Nat) (h1 : 2 ≤ n5) (h2 : k89.C W a5 2 exW) : Calls Try.prog 70 #[.agg #[.int .i64 6, .int .i64 0, .int .i64 0, .string ⟨#[]⟩, .slice a4 0 n4, .slice a5 2 n5], .agg #[.int .i64 3, .int .i64 1]] W fun e w' => e = .returned (.bool true) ∧ RowKit.Below W.heap.size W w' := by
  refine (Holds_calls ⟨6, 0, 0, ⟨#[]⟩, [], exW⟩ a4 n4 a5 n5 3 1 W ex_fewW (Nat.zero_le _) (C35_nil _ _) h1 h2).mono ?_
  rintro e w' ⟨he, hb⟩
  rw [ex_h1] at he
  exact ⟨he, hb⟩
theorem KH0 (W : World) (a4 : Option Addr) (n4 : Nat) (a5 : Option Addr) (n5 : Nat) (h1 : 2 ≤ n5) (h2 : k89.C W a5 2 exW) : Calls Try.prog 70 #[.agg #[.int .i64 6, .int .i64 0, .int .i64 0, .string ⟨#[]⟩, .slice a4 0 n4, .slice a5 2 n5], .agg #[.int .i64 3, .int .i64 0]] W fun e w' => e = .returned (.bool false) ∧ RowKit.Below W.heap.size W w' := by
  refine (Holds_calls ⟨6, 0, 0, ⟨#[]⟩, [], exW⟩ a4 n4 a5 n5 3 0 W ex_fewW (Nat.zero_le _) (C35_nil _ _) h1 h2).mono ?_
  rintro e w' ⟨he, hb⟩
  rw [ex_h0] at he
  exact ⟨he, hb⟩
theorem KC1 (W : World) (gD : Addr) (h : k89.C W (some gD) 3 exD) : Calls Try.prog 52 #[.agg #[.int .i64 6, .int .i64 0, .int .i64 0, .string ⟨#[]⟩, .slice none 0 0, .slice (some gD) 3 3], .bool false] W fun e w' => e = .returned (.int .i64 11) ∧ RowKit.Below W.heap.size W w' := by
  refine (vcheck_calls ⟨6, 0, 0, ⟨#[]⟩, [], exD⟩ none 0 (some gD) 3 false W (Nat.le_refl _) (C35_nil _ _) (Nat.le_refl _) h).mono ?_
  rintro e w' ⟨he, hb⟩
  rw [ex_c1] at he
  exact ⟨he, hb⟩
theorem KC2 (W : World) (a4 : Option Addr) (n4 : Nat) (a5 : Option Addr) (n5 : Nat) (h1 : 2 ≤ n5) (h2 : k89.C W a5 2 exW) : Calls Try.prog 52 #[.agg #[.int .i64 6, .int .i64 0, .int .i64 0, .string ⟨#[]⟩, .slice a4 0 n4, .slice a5 2 n5], .bool false] W fun e w' => e = .returned (.int .i64 0) ∧ RowKit.Below W.heap.size W w' := by
  refine (vcheck_calls ⟨6, 0, 0, ⟨#[]⟩, [], exW⟩ a4 n4 a5 n5 false W (Nat.zero_le _) (C35_nil _ _) h1 h2).mono ?_
  rintro e w' ⟨he, hb⟩
  rw [ex_c2] at he
  exact ⟨he, hb⟩
theorem KC3 (W : World) : Calls Try.prog 52 #[.agg #[.int .i64 8, .int .i64 0, .int .i64 0, .string ⟨#[]⟩, .slice none 0 0, .slice none 0 0], .bool false] W fun e w' => e = .returned (.int .i64 10) ∧ RowKit.Below W.heap.size W w' := by
  refine (vcheck_calls ⟨8, 0, 0, ⟨#[]⟩, [], []⟩ none 0 none 0 false W (Nat.le_refl _) (C35_nil _ _) (Nat.le_refl _) (C89_nil _ _)).mono ?_
  rintro e w' ⟨he, hb⟩
  rw [ex_c3] at he
  exact ⟨he, hb⟩
theorem KDe (W : World) (gD : Addr) (h : k89.C W (some gD) 3 exD) : Calls Try.prog 54 #[.agg #[.int .i64 6, .int .i64 0, .int .i64 0, .string ⟨#[]⟩, .slice none 0 0, .slice (some gD) 3 3]] W fun e w' => e = .returned (.int .i64 1) ∧ RowKit.Below W.heap.size W w' :=
  value_Depth.calls 20 6 0 0 ⟨#[]⟩ none 0 [] (some gD) 3 exD 1 W (C35_nil _ _) (Nat.le_refl _) h (Nat.le_refl _) ex_dep
theorem KSi (W : World) (gD : Addr) (h : k89.C W (some gD) 3 exD) : Calls Try.prog 56 #[.agg #[.int .i64 6, .int .i64 0, .int .i64 0, .string ⟨#[]⟩, .slice none 0 0, .slice (some gD) 3 3]] W fun e w' => e = .returned (.int .i64 4) ∧ RowKit.Below W.heap.size W w' :=
  value_Size.calls 20 6 0 0 ⟨#[]⟩ none 0 [] (some gD) 3 exD 4 W (C35_nil _ _) (Nat.le_refl _) h (Nat.le_refl _) ex_siz
theorem KSa (W : World) (gD : Addr) (h : k89.C W (some gD) 3 exD) (p4 : Option Addr) (q4 : Nat) (p5 : Option Addr) (q5 : Nat) (h1 : 1 ≤ q5) (h2 : k89.C W p5 1 exP) : Calls Try.prog 61 #[.agg #[.int .i64 6, .int .i64 0, .int .i64 0, .string ⟨#[]⟩, .slice none 0 0, .slice (some gD) 3 3], .agg #[.int .i64 6, .int .i64 0, .int .i64 0, .string ⟨#[]⟩, .slice p4 0 q4, .slice p5 1 q5]] W fun e w' => e = .returned (.bool true) ∧ RowKit.Below W.heap.size W w' := by
  refine (same_calls ⟨6, 0, 0, ⟨#[]⟩, [], exD⟩ ⟨6, 0, 0, ⟨#[]⟩, [], exP⟩ none 0 (some gD) 3 p4 q4 p5 q5 W ex_fewD ex_fewP (Nat.le_refl _) (C35_nil _ _) (Nat.le_refl _) h (Nat.zero_le _) (C35_nil _ _) h1 h2).mono ?_
  rintro e w' ⟨he, hb⟩
  rw [ex_plain, ex_plainP, eqB_true rfl] at he
  exact ⟨he, hb⟩
theorem KGe (W : World) (a4 : Option Addr) (n4 : Nat) (a5 : Option Addr) (n5 : Nat) (h1 : 2 ≤ n5) (h2 : k89.C W a5 2 exW) : Calls Try.prog 63 #[.agg #[.int .i64 6, .int .i64 0, .int .i64 0, .string ⟨#[]⟩, .slice a4 0 n4, .slice a5 2 n5], .string ⟨#[67]⟩] W fun e w' => ∃ b4 d4 b5 d5, e = .returned (.tuple #[.agg #[.int .i64 7, .int .i64 3, .int .i64 1, .string ⟨#[]⟩, .slice b4 0 d4, .slice b5 0 d5], .bool true]) ∧ RowKit.Below W.heap.size W w' := by
  refine (get_calls ⟨6, 0, 0, ⟨#[]⟩, [], exW⟩ ⟨#[67]⟩ a4 n4 a5 n5 W ex_fewW (Nat.zero_le _) (C35_nil _ _) h1 h2).mono ?_
  rintro e w' ⟨v4, v5, rfl, r4, r5, hb⟩
  rw [ex_get] at r4 r5 ⊢
  rw [ex_has]
  obtain ⟨a, c, rfl, -, -⟩ := Kd.R_reads r4
  obtain ⟨a', c', rfl, h1, h2⟩ := Kd.R_reads r5
  exact ⟨a, c, a', c', rfl, hb⟩
theorem KWi (W : World) (gD : Addr) (h : k89.C W (some gD) 3 exD) : Calls Try.prog 65 #[.agg #[.int .i64 6, .int .i64 0, .int .i64 0, .string ⟨#[]⟩, .slice none 0 0, .slice (some gD) 3 3], .string ⟨#[67]⟩, .agg #[.int .i64 7, .int .i64 3, .int .i64 1, .string ⟨#[]⟩, .slice none 0 0, .slice none 0 0]] W fun e w' => ∃ a4 n4 a5 n5, e = .returned (.agg #[.int .i64 6, .int .i64 0, .int .i64 0, .string ⟨#[]⟩, .slice a4 0 n4, .slice a5 2 n5]) ∧ 2 ≤ n5 ∧ k89.C w' a5 2 exW ∧ RowKit.Below W.heap.size W w' := by
  refine (with_calls ⟨6, 0, 0, ⟨#[]⟩, [], exD⟩ ⟨7, 3, 1, ⟨#[]⟩, [], []⟩ ⟨#[67]⟩ none 0 (some gD) 3 none 0 none 0 W ex_fewD ex_fewL (Nat.le_refl _) (C35_nil _ _) (Nat.le_refl _) h (Nat.le_refl _) (C35_nil _ _) (Nat.le_refl _) (C89_nil _ _)).mono ?_
  rintro e w' ⟨a4, n4, a5, n5, rfl, h1, h2, h3, h4, hb⟩
  rw [ex_with] at h3 h4 ⊢
  rw [ex_plain]
  exact ⟨a4, n4, a5, n5, rfl, h3, h4, hb⟩
theorem links_not_nil (b : Addr) (w : World) : (binOp .eql 103 (.func (.func 127) #[] #[.pointer (some b)]) .nilFunc).run Try.prog w = .ok (.bool false) w := by
  have h : ∀ d : Nat, (Op.equalIn (d + 1) 103 (.func (.func 127) #[] #[.pointer (some b)]) .nilFunc).run Try.prog w = .ok false w := fun d => by
    simp [Op.equalIn, run_underlying Try.underlying103]
  simp only [binOp]
  simp [Op.equal, Op.maxDepth, h 9999]
end Go.Proofs.Ytogpnkkoablmiaa.V
end
section
namespace Go.Proofs.Ytogpnkkoablmiaa.V
open Go.Shelf Go.RowKit Go.Lib Go.Sort Go.Proofs.Ytogpnkkoablmiaa.Q Go.Proofs.YtogpnkkoablmiaaW.PrintWords Go.Proofs.YtogpnkkoablmiaaW.PrintLast Go.Proofs.YtogpnkkoablmiaaW.PrintMore
set_option linter.unusedVariables false
set_option linter.unusedSimpArgs false
set_option maxHeartbeats 20000000 in
set_option maxRecDepth 100000 in
theorem values_calls (w : World) : Calls Try.prog 51 #[] w fun e w' => e = .returned (.bool true) ∧ RowKit.Below w.heap.size w w' := by
  have hu35 := Try.underlying35
  have hu33 := Try.underlying33
  have hu28 := Try.underlying28
  have hu89 := Try.underlying89
  have T0 := Aside0.mk True.intro
  go_enter Try.func51, Try.ntmps51
  go_wp2_with fail
  have C4 := Aside0.mk (Kd.C_alloc (Kd.C_alloc (C_lit3 (w.alloc (.cells #[.int .i64 2, .int .i64 1, .int .i64 0, .string ⟨#[]⟩, .slice none 0 0, .slice none 0 0] 35)) 89) (.cells #[.int .i64 6, .int .i64 0, .int .i64 0, .string ⟨#[]⟩, .slice none 0 0, .slice (some ⟨w.heap.size + 1, 0, none⟩) 3 3] 35)) (.cells #[.int .i64 7, .int .i64 3, .int .i64 1, .string ⟨#[]⟩, .slice none 0 0, .slice none 0 0] 35))
  have B1 := Aside0.mk (blk_alloc (blk_alloc (blk_alloc (blk_new w (.cells #[.int .i64 2, .int .i64 1, .int .i64 0, .string ⟨#[]⟩, .slice none 0 0, .slice none 0 0] 35)) (.cells #[.string ⟨#[66]⟩, .int .i64 2, .int .i64 1, .int .i64 0, .string ⟨#[]⟩, .slice none 0 0, .slice none 0 0, .string ⟨#[65]⟩, .int .i64 0, .int .i64 0, .int .i64 0, .string ⟨#[]⟩, .slice none 0 0, .slice none 0 0, .string ⟨#[66]⟩, .int .i64 2, .int .i64 2, .int .i64 0, .string ⟨#[]⟩, .slice none 0 0, .slice none 0 0] 89)) (.cells #[.int .i64 6, .int .i64 0, .int .i64 0, .string ⟨#[]⟩, .slice none 0 0, .slice (some ⟨w.heap.size + 1, 0, none⟩) 3 3] 35)) (.cells #[.int .i64 7, .int .i64 3, .int .i64 1, .string ⟨#[]⟩, .slice none 0 0, .slice none 0 0] 35))
  have B2 := Aside0.mk (blk_alloc (blk_new ((w.alloc (.cells #[.int .i64 2, .int .i64 1, .int .i64 0, .string ⟨#[]⟩, .slice none 0 0, .slice none 0 0] 35)).alloc (.cells #[.string ⟨#[66]⟩, .int .i64 2, .int .i64 1, .int .i64 0, .string ⟨#[]⟩, .slice none 0 0, .slice none 0 0, .string ⟨#[65]⟩, .int .i64 0, .int .i64 0, .int .i64 0, .string ⟨#[]⟩, .slice none 0 0, .slice none 0 0, .string ⟨#[66]⟩, .int .i64 2, .int .i64 2, .int .i64 0, .string ⟨#[]⟩, .slice none 0 0, .slice none 0 0] 89)) (.cells #[.int .i64 6, .int .i64 0, .int .i64 0, .string ⟨#[]⟩, .slice none 0 0, .slice (some ⟨w.heap.size + 1, 0, none⟩) 3 3] 35)) (.cells #[.int .i64 7, .int .i64 3, .int .i64 1, .string ⟨#[]⟩, .slice none 0 0, .slice none 0 0] 35))
  have B3 := Aside0.mk (blk_new (((w.alloc (.cells #[.int .i64 2, .int .i64 1, .int .i64 0, .string ⟨#[]⟩, .slice none 0 0, .slice none 0 0] 35)).alloc (.cells #[.string ⟨#[66]⟩, .int .i64 2, .int .i64 1, .int .i64 0, .string ⟨#[]⟩, .slice none 0 0, .slice none 0 0, .string ⟨#[65]⟩, .int .i64 0, .int .i64 0, .int .i64 0, .string ⟨#[]⟩, .slice none 0 0, .slice none 0 0, .string ⟨#[66]⟩, .int .i64 2, .int .i64 2, .int .i64 0, .string ⟨#[]⟩, .slice none 0 0, .slice none 0 0] 89)).alloc (.cells #[.int .i64 6, .int .i64 0, .int .i64 0, .string ⟨#[]⟩, .slice none 0 0, .slice (some ⟨w.heap.size + 1, 0, none⟩) 3 3] 35)) (.cells #[.int .i64 7, .int .i64 3, .int .i64 1, .string ⟨#[]⟩, .slice none 0 0, .slice none 0 0] 35))
  have HB := Aside0.mk (below_alloc (below_alloc (below_alloc (below_alloc (RowKit.Below.refl w.heap.size w) (.cells #[.int .i64 2, .int .i64 1, .int .i64 0, .string ⟨#[]⟩, .slice none 0 0, .slice none 0 0] 35)) (.cells #[.string ⟨#[66]⟩, .int .i64 2, .int .i64 1, .int .i64 0, .string ⟨#[]⟩, .slice none 0 0, .slice none 0 0, .string ⟨#[65]⟩, .int .i64 0, .int .i64 0, .int .i64 0, .string ⟨#[]⟩, .slice none 0 0, .slice none 0 0, .string ⟨#[66]⟩, .int .i64 2, .int .i64 2, .int .i64 0, .string ⟨#[]⟩, .slice none 0 0, .slice none 0 0] 89)) (.cells #[.int .i64 6, .int .i64 0, .int .i64 0, .string ⟨#[]⟩, .slice none 0 0, .slice (some ⟨w.heap.size + 1, 0, none⟩) 3 3] 35)) (.cells #[.int .i64 7, .int .i64 3, .int .i64 1, .string ⟨#[]⟩, .slice none 0 0, .slice none 0 0] 35))
  simp only [World.size_alloc] at C4 B2 B3
  have hs4 : ((((w.alloc (.cells #[.int .i64 2, .int .i64 1, .int .i64 0, .string ⟨#[]⟩, .slice none 0 0, .slice none 0 0] 35)).alloc (.cells #[.string ⟨#[66]⟩, .int .i64 2, .int .i64 1, .int .i64 0, .string ⟨#[]⟩, .slice none 0 0, .slice none 0 0, .string ⟨#[65]⟩, .int .i64 0, .int .i64 0, .int .i64 0, .string ⟨#[]⟩, .slice none 0 0, .slice none 0 0, .string ⟨#[66]⟩, .int .i64 2, .int .i64 2, .int .i64 0, .string ⟨#[]⟩, .slice none 0 0, .slice none 0 0] 89)).alloc (.cells #[.int .i64 6, .int .i64 0, .int .i64 0, .string ⟨#[]⟩, .slice none 0 0, .slice (some ⟨w.heap.size + 1, 0, none⟩) 3 3] 35)).alloc (.cells #[.int .i64 7, .int .i64 3, .int .i64 1, .string ⟨#[]⟩, .slice none 0 0, .slice none 0 0] 35)).heap.size = w.heap.size + 1 + 1 + 1 + 1 := by simp only [World.size_alloc]
  refine Calls.mono (KWi _ ⟨w.heap.size + 1, 0, none⟩ C4.out) ?_
  rintro e w1 ⟨a4, n4, a5, n5, rfl, hn, hC, hb⟩
  have LW := Aside0.mk hn
  have F := Aside0.mk (show VF w ⟨w.heap.size + 1, 0, none⟩ a5 w1 from ⟨Kd.C_below C4.out hb, hC, HB.out.trans (hb.mono HB.out.size)⟩)
  have D1 := Aside0.mk (blk_below B1.out hb)
  have D2 := Aside0.mk (blk_below B2.out hb)
  have D3 := Aside0.mk (blk_below B3.out hb)
  have hs1 : w.heap.size + 1 + 1 + 1 < w1.heap.size := by have := hb.size; omega
  clear hb hC hn B1 B2 B3 C4 HB hs4
  have hnn := links_not_nil
  go_wp2_with fail
  refine Calls.mono (Links_calls _ _ _ _ _ _ _ _ _ _ _) ?_
  rintro e w1' ⟨rfl, rfl⟩
  go_wp2_with fail
  refine Calls.mono (KGe _ a4 n4 a5 n5 LW.out ((F.out.alloc (.cells #[.int .i64 6, .int .i64 0, .int .i64 0, .string ⟨#[]⟩, .slice a4 0 n4, .slice a5 2 n5] 35)).alloc (.cells #[.int .i64 6, .int .i64 0, .int .i64 0, .string ⟨#[]⟩, .slice a4 0 n4, .slice a5 2 n5] 35)).2.1) ?_
  rintro e w2 ⟨b4, d4, b5, d5, rfl, hb⟩
  replace F := Aside0.mk (((F.out.alloc (.cells #[.int .i64 6, .int .i64 0, .int .i64 0, .string ⟨#[]⟩, .slice a4 0 n4, .slice a5 2 n5] 35)).alloc (.cells #[.int .i64 6, .int .i64 0, .int .i64 0, .string ⟨#[]⟩, .slice a4 0 n4, .slice a5 2 n5] 35)).below hb)
  have E1 := Aside0.mk (blk_below (blk_alloc (blk_alloc D1.out (.cells #[.int .i64 6, .int .i64 0, .int .i64 0, .string ⟨#[]⟩, .slice a4 0 n4, .slice a5 2 n5] 35)) (.cells #[.int .i64 6, .int .i64 0, .int .i64 0, .string ⟨#[]⟩, .slice a4 0 n4, .slice a5 2 n5] 35)) hb)
  have E2 := Aside0.mk (blk_below (blk_alloc (blk_alloc D2.out (.cells #[.int .i64 6, .int .i64 0, .int .i64 0, .string ⟨#[]⟩, .slice a4 0 n4, .slice a5 2 n5] 35)) (.cells #[.int .i64 6, .int .i64 0, .int .i64 0, .string ⟨#[]⟩, .slice a4 0 n4, .slice a5 2 n5] 35)) hb)
  have E3 := Aside0.mk (blk_below (blk_alloc (blk_alloc D3.out (.cells #[.int .i64 6, .int .i64 0, .int .i64 0, .string ⟨#[]⟩, .slice a4 0 n4, .slice a5 2 n5] 35)) (.cells #[.int .i64 6, .int .i64 0, .int .i64 0, .string ⟨#[]⟩, .slice a4 0 n4, .slice a5 2 n5] 35)) hb)
  have E4 := Aside0.mk (blk_below (blk_alloc (blk_new w1 (.cells #[.int .i64 6, .int .i64 0, .int .i64 0, .string ⟨#[]⟩, .slice a4 0 n4, .slice a5 2 n5] 35)) (.cells #[.int .i64 6, .int .i64 0, .int .i64 0, .string ⟨#[]⟩, .slice a4 0 n4, .slice a5 2 n5] 35)) hb)
  have hs2 : w1.heap.size < w2.heap.size := by have h := hb.size; simp only [World.size_alloc] at h; omega
  clear hb D1 D2 D3
  go_upto_region 8 with fail
  replace F := Aside0.mk (F.out.alloc (.cells #[.int .i64 7, .int .i64 3, .int .i64 1, .string ⟨#[]⟩, .slice b4 0 d4, .slice b5 0 d5] 35))
  have G1 := Aside0.mk (blk_alloc E1.out (.cells #[.int .i64 7, .int .i64 3, .int .i64 1, .string ⟨#[]⟩, .slice b4 0 d4, .slice b5 0 d5] 35))
  have G2 := Aside0.mk (blk_alloc E2.out (.cells #[.int .i64 7, .int .i64 3, .int .i64 1, .string ⟨#[]⟩, .slice b4 0 d4, .slice b5 0 d5] 35))
  have G3 := Aside0.mk (blk_alloc E3.out (.cells #[.int .i64 7, .int .i64 3, .int .i64 1, .string ⟨#[]⟩, .slice b4 0 d4, .slice b5 0 d5] 35))
  have G4 := Aside0.mk (blk_alloc E4.out (.cells #[.int .i64 7, .int .i64 3, .int .i64 1, .string ⟨#[]⟩, .slice b4 0 d4, .slice b5 0 d5] 35))
  have G5 := Aside0.mk (blk_new w2 (.cells #[.int .i64 7, .int .i64 3, .int .i64 1, .string ⟨#[]⟩, .slice b4 0 d4, .slice b5 0 d5] 35))
  generalize w2.alloc (.cells #[.int .i64 7, .int .i64 3, .int .i64 1, .string ⟨#[]⟩, .slice b4 0 d4, .slice b5 0 d5] 35) = w4 at *
  clear E1 E2 E3 E4
  obtain ⟨u0, u1, u2, u3, u4, u5⟩ := box35 G1.out
  obtain ⟨v0, v1, v2, v3, v4, v5⟩ := box35 G2.out
  obtain ⟨x0, x1, x2, x3, x4, x5⟩ := box35 G3.out
  obtain ⟨y0, y1, y2, y3, y4, y5⟩ := box35 G4.out
  obtain ⟨z0, z1, z2, z3, z4, z5⟩ := box35 G5.out
  go_region_held3 (fun w' => w'.cell? ⟨w.heap.size, 0, none⟩ = some (.int .i64 2) ∧ w'.cell? ⟨w.heap.size, 1, none⟩ = some (.int .i64 1) ∧ w'.cell? ⟨w.heap.size, 2, none⟩ = some (.int .i64 0) ∧ w'.cell? ⟨w.heap.size, 3, none⟩ = some (.string ⟨#[]⟩) ∧ w'.cell? ⟨w.heap.size, 4, none⟩ = some (.slice none 0 0) ∧ w'.cell? ⟨w.heap.size, 5, none⟩ = some (.slice none 0 0) ∧ w'.cell? ⟨w.heap.size + 1 + 1, 0, none⟩ = some (.int .i64 6) ∧ w'.cell? ⟨w.heap.size + 1 + 1, 1, none⟩ = some (.int .i64 0) ∧ w'.cell? ⟨w.heap.size + 1 + 1, 2, none⟩ = some (.int .i64 0) ∧ w'.cell? ⟨w.heap.size + 1 + 1, 3, none⟩ = some (.string ⟨#[]⟩) ∧ w'.cell? ⟨w.heap.size + 1 + 1, 4, none⟩ = some (.slice none 0 0) ∧ w'.cell? ⟨w.heap.size + 1 + 1, 5, none⟩ = some (.slice (some ⟨w.heap.size + 1, 0, none⟩) 3 3) ∧ w'.cell? ⟨w.heap.size + 1 + 1 + 1, 0, none⟩ = some (.int .i64 7) ∧ w'.cell? ⟨w.heap.size + 1 + 1 + 1, 1, none⟩ = some (.int .i64 3) ∧ w'.cell? ⟨w.heap.size + 1 + 1 + 1, 2, none⟩ = some (.int .i64 1) ∧ w'.cell? ⟨w.heap.size + 1 + 1 + 1, 3, none⟩ = some (.string ⟨#[]⟩) ∧ w'.cell? ⟨w.heap.size + 1 + 1 + 1, 4, none⟩ = some (.slice none 0 0) ∧ w'.cell? ⟨w.heap.size + 1 + 1 + 1, 5, none⟩ = some (.slice none 0 0) ∧ w'.cell? ⟨w1.heap.size, 0, none⟩ = some (.int .i64 6) ∧ w'.cell? ⟨w1.heap.size, 1, none⟩ = some (.int .i64 0) ∧ w'.cell? ⟨w1.heap.size, 2, none⟩ = some (.int .i64 0) ∧ w'.cell? ⟨w1.heap.size, 3, none⟩ = some (.string ⟨#[]⟩) ∧ w'.cell? ⟨w1.heap.size, 4, none⟩ = some (.slice a4 0 n4) ∧ w'.cell? ⟨w1.heap.size, 5, none⟩ = some (.slice a5 2 n5) ∧ w'.cell? ⟨w2.heap.size, 0, none⟩ = some (.int .i64 7) ∧ w'.cell? ⟨w2.heap.size, 1, none⟩ = some (.int .i64 3) ∧ w'.cell? ⟨w2.heap.size, 2, none⟩ = some (.int .i64 1) ∧ w'.cell? ⟨w2.heap.size, 3, none⟩ = some (.string ⟨#[]⟩) ∧ w'.cell? ⟨w2.heap.size, 4, none⟩ = some (.slice b4 0 d4) ∧ w'.cell? ⟨w2.heap.size, 5, none⟩ = some (.slice b5 0 d5))
    (first
      | go_keep
      | (go_split_ands
         refine ⟨?_, ?_, ?_, ?_, ?_, ?_, ?_, ?_, ?_, ?_, ?_, ?_, ?_, ?_, ?_, ?_, ?_, ?_, ?_, ?_, ?_, ?_, ?_, ?_, ?_, ?_, ?_, ?_, ?_, ?_⟩ <;> exact (hb_.cell (World.block_lt_of_cell? _ _ (by assumption))).trans (by assumption)))
    ((first
      | (go_at_call 61; (with_reducible refine Calls.mono (KSa _ ⟨w.heap.size + 1, 0, none⟩ ?_ _ _ _ _ ?_ ?_) ?_); (· (exact VF.c1 (w := w) (a5 := a5) (by (with_reducible repeat (first | apply VF.alloc | apply VF.drewN | apply VF.drew)); exact F.out))); (· (exact Q2.out)); (· ((with_reducible repeat (first | apply Kd.C_alloc | apply Kd.C_drewN | apply Kd.C_drew)); exact P2.out)); rintro e wk ⟨rfl, hb_⟩; replace F := Aside0.mk (VF.below (by (with_reducible repeat (first | apply VF.alloc | apply VF.drewN | apply VF.drew)); exact F.out) hb_))
      | (go_at_call 59; have T9 := T8; clear T9; (with_reducible refine Calls.mono (KPl _ ⟨w.heap.size + 1, 0, none⟩ ?_) ?_); (· (exact VF.c1 (w := w) (a5 := a5) (by (with_reducible repeat (first | apply VF.alloc | apply VF.drewN | apply VF.drew)); exact F.out))); rintro e wk ⟨p4', q4', p5', q5', rfl, hq_, hp_, hb_⟩; replace F := Aside0.mk (VF.below (by (with_reducible repeat (first | apply VF.alloc | apply VF.drewN | apply VF.drew)); exact F.out) hb_); have Q2 := Aside0.mk hq_; have P2 := Aside0.mk hp_; clear hq_ hp_)
      | (go_at_call 56; (with_reducible refine Calls.mono (KSi _ ⟨w.heap.size + 1, 0, none⟩ ?_) ?_); (· (exact VF.c1 (w := w) (a5 := a5) (by (with_reducible repeat (first | apply VF.alloc | apply VF.drewN | apply VF.drew)); exact F.out))); rintro e wk ⟨rfl, hb_⟩; replace F := Aside0.mk (VF.below (by (with_reducible repeat (first | apply VF.alloc | apply VF.drewN | apply VF.drew)); exact F.out) hb_); have T8 := T0)
      | (go_at_call 54; (with_reducible refine Calls.mono (KDe _ ⟨w.heap.size + 1, 0, none⟩ ?_) ?_); (· (exact VF.c1 (w := w) (a5 := a5) (by (with_reducible repeat (first | apply VF.alloc | apply VF.drewN | apply VF.drew)); exact F.out))); rintro e wk ⟨rfl, hb_⟩; replace F := Aside0.mk (VF.below (by (with_reducible repeat (first | apply VF.alloc | apply VF.drewN | apply VF.drew)); exact F.out) hb_))
      | (go_at_call 52; (with_reducible refine Calls.mono (KC3 _) ?_); rintro e wk ⟨rfl, hb_⟩; replace F := Aside0.mk (VF.below (by (with_reducible repeat (first | apply VF.alloc | apply VF.drewN | apply VF.drew)); exact F.out) hb_))
      | (go_at_call 52; (with_reducible refine Calls.mono (KC2 _ a4 n4 a5 n5 LW.out ?_) ?_); (· (exact VF.c2 (w := w) (gD := ⟨w.heap.size + 1, 0, none⟩) (by (with_reducible repeat (first | apply VF.alloc | apply VF.drewN | apply VF.drew)); exact F.out))); rintro e wk ⟨rfl, hb_⟩; replace F := Aside0.mk (VF.below (by (with_reducible repeat (first | apply VF.alloc | apply VF.drewN | apply VF.drew)); exact F.out) hb_))
      | (go_at_call 52; (with_reducible refine Calls.mono (KC1 _ ⟨w.heap.size + 1, 0, none⟩ ?_) ?_); (· (exact VF.c1 (w := w) (a5 := a5) (by (with_reducible repeat (first | apply VF.alloc | apply VF.drewN | apply VF.drew)); exact F.out))); rintro e wk ⟨rfl, hb_⟩; replace F := Aside0.mk (VF.below (by (with_reducible repeat (first | apply VF.alloc | apply VF.drewN | apply VF.drew)); exact F.out) hb_))
      | (go_at_call 70; (with_reducible refine Calls.mono (KH0 _ a4 n4 a5 n5 LW.out ?_) ?_); (· (exact VF.c2 (w := w) (gD := ⟨w.heap.size + 1, 0, none⟩) (by (with_reducible repeat (first | apply VF.alloc | apply VF.drewN | apply VF.drew)); exact F.out))); rintro e wk ⟨rfl, hb_⟩; replace F := Aside0.mk (VF.below (by (with_reducible repeat (first | apply VF.alloc | apply VF.drewN | apply VF.drew)); exact F.out) hb_))
      | (go_at_call 70; (with_reducible refine Calls.mono (KH1 _ a4 n4 a5 n5 LW.out ?_) ?_); (· (exact VF.c2 (w := w) (gD := ⟨w.heap.size + 1, 0, none⟩) (by (with_reducible repeat (first | apply VF.alloc | apply VF.drewN | apply VF.drew)); exact F.out))); rintro e wk ⟨rfl, hb_⟩; replace F := Aside0.mk (VF.below (by (with_reducible repeat (first | apply VF.alloc | apply VF.drewN | apply VF.drew)); exact F.out) hb_))
      | (go_at_call 58; (with_reducible refine Calls.mono (KEl _ b4 d4 b5 d5) ?_); rintro e wk ⟨rfl, hb_⟩; replace F := Aside0.mk (VF.below (by (with_reducible repeat (first | apply VF.alloc | apply VF.drewN | apply VF.drew)); exact F.out) hb_))
      | (go_at_call 58; have T9 := HL; clear T9; (with_reducible refine Calls.mono (KEq _ _ _ _ _ _ 1 ?_ ?_ (Nat.le_refl _) ?_) ?_); (· (exact Q1.out)); (· ((with_reducible repeat (first | apply Kd.C_alloc | apply Kd.C_drewN | apply Kd.C_drew)); exact P1.out)); (· ((with_reducible repeat (first | apply Kd.C_alloc | apply Kd.C_drewN | apply Kd.C_drew)); exact HL.out)); rintro e wk ⟨rfl, hb_⟩; replace F := Aside0.mk (VF.below (by (with_reducible repeat (first | apply VF.alloc | apply VF.drewN | apply VF.drew)); exact F.out) hb_))
      | (go_at_call 58; (with_reducible refine Calls.mono (KEq _ _ _ _ _ _ 1 ?_ ?_ (Nat.le_refl _) ?_) ?_); (· (exact Q1.out)); (· ((with_reducible repeat (first | apply Kd.C_alloc | apply Kd.C_drewN | apply Kd.C_drew)); exact P1.out)); (· ((with_reducible repeat (first | apply Kd.C_drewN | apply Kd.C_drew)); exact C_lit1 _ _)); rintro e wk ⟨rfl, hb_⟩; replace F := Aside0.mk (VF.below (by (with_reducible repeat (first | apply VF.alloc | apply VF.drewN | apply VF.drew)); exact F.out) hb_))
      | (go_at_call 59; (with_reducible refine Calls.mono (KPl _ ⟨w.heap.size + 1, 0, none⟩ ?_) ?_); (· (exact VF.c1 (w := w) (a5 := a5) (by (with_reducible repeat (first | apply VF.alloc | apply VF.drewN | apply VF.drew)); exact F.out))); rintro e wk ⟨p4', q4', p5', q5', rfl, hq_, hp_, hb_⟩; replace F := Aside0.mk (VF.below (by (with_reducible repeat (first | apply VF.alloc | apply VF.drewN | apply VF.drew)); exact F.out) hb_); have Q1 := Aside0.mk hq_; have P1 := Aside0.mk hp_; have HL := Aside0.mk (Kd.C_below (show k89.C _ (some ⟨w4.heap.size, 0, none⟩) exP.length exP from (by (with_reducible repeat (first | apply Kd.C_drewN | apply Kd.C_drew)); exact C_lit1 _ _)) hb_); clear hq_ hp_)
      | (go_at_call 59; (with_reducible refine Calls.mono (KPl _ ⟨w.heap.size + 1, 0, none⟩ ?_) ?_); (· (exact VF.c1 (w := w) (a5 := a5) (by (with_reducible repeat (first | apply VF.alloc | apply VF.drewN | apply VF.drew)); exact F.out))); rintro e wk ⟨p4', q4', p5', q5', rfl, hq_, hp_, hb_⟩; replace F := Aside0.mk (VF.below (by (with_reducible repeat (first | apply VF.alloc | apply VF.drewN | apply VF.drew)); exact F.out) hb_); have Q1 := Aside0.mk hq_; have P1 := Aside0.mk hp_; clear hq_ hp_)))
  all_goals
    go_wp2
    go_ret
    exact ⟨rfl, F.out.2.2⟩
end Go.Proofs.Ytogpnkkoablmiaa.V
end
section
namespace Go.Proofs.Ytogpnkkoablmiaa.V
open Go.Proofs.Ytogpnkkoablmiaa.P Go.RowKit Go.Shelf Go.Lib Go.Proofs.Ytogpnkkoablmiaa.Q Go.Proofs.YtogpnkkoablmiaaW.PrintWords Go.Proofs.YtogpnkkoablmiaaW.PrintLast Go.Proofs.YtogpnkkoablmiaaW.PrintMore
set_option linter.unusedVariables false
set_option linter.unusedSimpArgs false
attribute [local go_sem] Oper.semAt_some
end Go.Proofs.Ytogpnkkoablmiaa.V
end
section
namespace Go.Proofs.Ytogpnkkoablmiaa.V
open Go.Proofs.Ytogpnkkoablmiaa.P Go.Shelf Go.RowKit Go.Lib Go.Sort Go.Proofs.Ytogpnkkoablmiaa.Q Go.Proofs.YtogpnkkoablmiaaW.PrintWords Go.Proofs.YtogpnkkoablmiaaW.PrintLast Go.Proofs.YtogpnkkoablmiaaW.PrintMore
set_option linter.unusedVariables false
set_option linter.unusedSimpArgs false
def HasV (v : S35) (A4 : Option Addr) (c4 : Nat) (A5 : Option Addr) (c5 : Nat) (W : World) : Prop := v.f4.length ≤ c4 ∧ k35.C W A4 v.f4.length v.f4 ∧ v.f5.length ≤ c5 ∧ k89.C W A5 v.f5.length v.f5
theorem HasV.below {v : S35} {A4 : Option Addr} {c4 : Nat} {A5 : Option Addr} {c5 : Nat} {W W' : World} (h : HasV v A4 c4 A5 c5 W) (hb : RowKit.Below W.heap.size W W') : HasV v A4 c4 A5 c5 W' :=
  ⟨h.1, Kd.C_below h.2.1 hb, h.2.2.1, Kd.C_below h.2.2.2 hb⟩
def Stays (Q : World → Prop) : Prop := ∀ W W', Q W → RowKit.Below W.heap.size W W' → Q W'
theorem Stays.and {Q R : World → Prop} (h : Stays Q) (g : Stays R) : Stays (fun W => Q W ∧ R W) := fun W W' a b => ⟨h W W' a.1 b, g W W' a.2 b⟩
theorem Stays.alloc {Q : World → Prop} (h : Stays Q) {W : World} {o : Obj} (q : Q W) : Q (W.alloc o) := h _ _ q (below_alloc (RowKit.Below.refl _ W) o)
theorem Stays.drew {Q : World → Prop} (h : Stays Q) {W : World} (q : Q W) : Q W.drew := h _ _ q (RowKit.Below.refl _ W).drew
theorem Stays.drewN {Q : World → Prop} (h : Stays Q) {W : World} {n : Nat} (q : Q W) : Q (W.drewN n) := h _ _ q (pw_below_drewN (RowKit.Below.refl _ W) n)
theorem stays_val (v : S35) (A4 : Option Addr) (c4 : Nat) (A5 : Option Addr) (c5 : Nat) : Stays (HasV v A4 c4 A5 c5) := fun _ _ h hb => h.below hb
theorem stays_blk (g : Nat) (o : Obj) : Stays (fun W => W.heap[g]? = some o) := fun _ _ h hb => blk_below h hb
theorem stays_below (w : World) : Stays (fun W => RowKit.Below w.heap.size w W) := fun _ _ h hb => h.trans (hb.mono h.size)
theorem stays_lt (n : Nat) : Stays (fun W => n < W.heap.size) := fun _ _ h hb => Nat.lt_of_lt_of_le h hb.size
theorem K_few (v : S35) (A4 : Option Addr) (c4 : Nat) (A5 : Option Addr) (c5 : Nat) (m : Int) (b : Bool) (k : Nat) (hk : binderyref16_Few.f k v.f0 v.f1 v.f2 v.f3 v.f4 v.f5 m = some b) (W : World) (h : HasV v A4 c4 A5 c5 W) : Calls Try.prog 50 #[.agg #[.int .i64 v.f0, .int .i64 v.f1, .int .i64 v.f2, .string v.f3, .slice A4 v.f4.length c4, .slice A5 v.f5.length c5], .int .i64 m] W fun e w' => e = .returned (.bool b) ∧ RowKit.Below W.heap.size W w' :=
  binderyref16_Few.calls k v.f0 v.f1 v.f2 v.f3 A4 c4 v.f4 A5 c5 v.f5 m b W h.2.1 h.1 h.2.2.2 h.2.2.1 hk
end Go.Proofs.Ytogpnkkoablmiaa.V
end
section
namespace Go.Proofs.Ytogpnkkoablmiaa.V
open Go.Proofs.Ytogpnkkoablmiaa.P Go.RowKit Go.Shelf Go.Lib Go.Proofs.Ytogpnkkoablmiaa.Q Go.Proofs.YtogpnkkoablmiaaW.PrintWords Go.Proofs.YtogpnkkoablmiaaW.PrintLast Go.Proofs.YtogpnkkoablmiaaW.PrintMore
set_option linter.unusedVariables false
set_option linter.unusedSimpArgs false
attribute [local go_sem] Oper.semAt_some
def RlSaid (v : S35) : Prop := ∀ (A4 : Option Addr) (c4 : Nat) (A5 : Option Addr) (c5 : Nat) (w : World), tsV v ≤ 90000 → v.f4.length ≤ c4 → k35.C w A4 v.f4.length v.f4 → v.f5.length ≤ c5 → k89.C w A5 v.f5.length v.f5 →
  Calls Try.prog 69 #[.agg #[.int .i64 v.f0, .int .i64 v.f1, .int .i64 v.f2, .string v.f3, .slice A4 v.f4.length c4, .slice A5 v.f5.length c5]] w fun e w' => ∃ g c, e = .returned (.slice (some ⟨g, 0, none⟩) (lksV (plain v)).length c) ∧ w'.ownsRow w.heap.size 28 2 (.slice (some ⟨g, 0, none⟩) (lksV (plain v)).length c) (lksV (plain v)).length (flat (lksV (plain v))) ∧ RowKit.Below w.heap.size w w'
theorem own_lower9 {W : World} {b b' e size n : Nat} {v : Value} {xs : List Value} (h : W.ownsRow b e size v n xs) (hb : b' ≤ b) : W.ownsRow b' e size v n xs := by
  obtain ⟨h1, h2⟩ := h
  refine ⟨h1, ?_⟩
  rcases h2 with h2 | ⟨g, cap, cur, hv, hg, h3⟩
  · exact .inl h2
  · exact .inr ⟨g, cap, cur, hv, Nat.le_trans hb hg, h3⟩
theorem LI.start (w1 : World) (row : Array Value) : LI w1 row ((w1.alloc (.cells row 35)).alloc (.cells #[] 28)) (.slice (some ⟨w1.heap.size + 1, 0, none⟩) 0 0) [] := by
  refine ⟨below_alloc (below_alloc (RowKit.Below.refl _ _) _) _, blk_alloc (blk_new w1 _) _, w1.heap.size + 1, 0, rfl, ?_⟩
  have ow := World.ownsRow_lit (base := w1.heap.size + 1) (e := 28) (size := 2) (w1.alloc (.cells row 35)) #[] 0 (by simp) (by simp [maxLen]) (by simp)
  simpa [flat] using ow
set_option maxHeartbeats 8000000 in
set_option maxRecDepth 100000 in
theorem rl_body (v : S35) (IH4 : ∀ x ∈ (plain v).f4, plain x = x ∧ RlSaid x) (IH5 : ∀ p ∈ (plain v).f5, plain p.f1 = p.f1 ∧ RlSaid p.f1) : RlSaid v := by
  intro A4 c4 A5 c5 w hts la4 ra4 la5 ra5
  have hu35 := Try.underlying35
  have hu89 := Try.underlying89
  have hu28 := Try.underlying28
  obtain ⟨i0, hi, hz0, hz1, hz2⟩ := info_parts info28
  have PA := Aside0.mk (rplain_all v A4 c4 A5 c5 (w.alloc (.cells #[.int .i64 v.f0, .int .i64 v.f1, .int .i64 v.f2, .string v.f3, .slice A4 v.f4.length c4, .slice A5 v.f5.length c5] 35)) (few_ts v hts) la4 (Kd.C_alloc ra4 _) la5 (Kd.C_alloc ra5 _))
  have hlen := lks_bound v hts
  have hbe : tsV (plain v) ≤ 90000 := Nat.le_trans (tsV_plain v) hts
  generalize plain v = pv at *
  have HLK := Aside0.mk (lksV_eq pv)
  have HT := Aside0.mk (And.intro hbe (tsV_eq pv))
  have HN0 := Aside0.mk hlen
  have IH4' := Aside0.mk IH4
  have IH5' := Aside0.mk IH5
  obtain ⟨lk, hlk⟩ : ∃ lk, lk = lksV pv := ⟨_, rfl⟩
  rw [← hlk] at HLK HN0 ⊢
  clear hlk hbe hlen IH4 IH5 ra4 ra5
  obtain ⟨N9, hN9'⟩ : ∃ N9, N9 = lk.length := ⟨_, rfl⟩
  rw [← hN9']
  have hN9 := Aside0.mk hN9'
  clear hN9'
  go_enter Try.func69, Try.ntmps69
  go_wp2_with fail
  refine Calls.mono PA.out ?_
  rintro e w1 ⟨p4, p5, rfl, r4, r5, hb⟩
  obtain ⟨P4, q4, e4⟩ := Kd.R_slice r4
  obtain ⟨P5, q5, e5⟩ := Kd.R_slice r5
  have HB0 := Aside0.mk (below_step (below_alloc (RowKit.Below.refl w.heap.size w) (.cells #[.int .i64 v.f0, .int .i64 v.f1, .int .i64 v.f2, .string v.f3, .slice A4 v.f4.length c4, .slice A5 v.f5.length c5] 35)) hb)
  subst e4
  subst e5
  have R4 := Aside0.mk (Kd.R_reads' r4).2.2
  have R5 := Aside0.mk (Kd.R_reads' r5).2.2
  obtain ⟨n4, hn4⟩ : ∃ n4, n4 = pv.f4.length := ⟨_, rfl⟩
  obtain ⟨n5, hn5⟩ : ∃ n5, n5 = pv.f5.length := ⟨_, rfl⟩
  have m4 := Kd.C_max R4.out
  have m5 := Kd.C_max R5.out
  rw [← hn4] at m4
  rw [← hn5] at m5
  have M45 := Aside0.mk (And.intro m4 m5)
  rw [← hn4, ← hn5]
  have N45 := Aside0.mk (And.intro hn4 hn5)
  clear r4 r5 hb hn4 hn5 PA
  have hs1 : w.heap.size ≤ w1.heap.size := HB0.out.size
  have L0 := Aside0.mk (LI.start w1 #[.int .i64 pv.f0, .int .i64 pv.f1, .int .i64 pv.f2, .string pv.f3, .slice P4 n4 q4, .slice P5 n5 q5])
  have X0 := box35 (show (w1.alloc (.cells #[.int .i64 pv.f0, .int .i64 pv.f1, .int .i64 pv.f2, .string pv.f3, .slice P4 n4 q4, .slice P5 n5 q5] 35)).heap[w1.heap.size]? = _ from blk_new w1 _)
  go_upto_if 12 with fail
  obtain ⟨pre0, hpre0⟩ : ∃ pre0, pre0 = (if pv.f0 = 7 then [(pv.f1, pv.f2)] else [] : List (Int × Int)) := ⟨_, rfl⟩
  have HP0 := Aside0.mk hpre0
  rw [← hpre0] at HLK
  generalize hb7 : (pv.f0 == 7) = b7
  have HB7 := Aside0.mk hb7
  generalize hvo0 : (.slice (some ⟨w1.heap.size + 1, 0, none⟩) 0 0 : Value) = vo0 at L0 ⊢
  have HS := Aside0.mk (show w1.heap.size + 1 ≤ ((w1.alloc (.cells #[.int .i64 pv.f0, .int .i64 pv.f1, .int .i64 pv.f2, .string pv.f3, .slice P4 n4 q4, .slice P5 n5 q5] 35)).alloc (.cells #[] 28)).heap.size by simp)
  clear hpre0 hb7 hvo0
  generalize (w1.alloc (.cells #[.int .i64 pv.f0, .int .i64 pv.f1, .int .i64 pv.f2, .string pv.f3, .slice P4 n4 q4, .slice P5 n5 q5] 35)).alloc (.cells #[] 28) = W2 at *
  go_cut [4] from 13 to 20 (fun vo wc => Aside0 (LI w1 #[.int .i64 pv.f0, .int .i64 pv.f1, .int .i64 pv.f2, .string pv.f3, .slice P4 n4 q4, .slice P5 n5 q5] wc vo pre0))
  case first =>
    obtain ⟨b0, b1, b2, b3, b4, b5⟩ := box35 L0.out.2.1
    cases b7
    · have hp : pre0 = [] := by have h1 := HP0.out; have h2 := HB7.out; simp at h2; rw [if_neg h2] at h1; exact h1
      subst hp
      go_wp2
      go_meet
      exact L0
    · have hp : pre0 = [(pv.f1, pv.f2)] := by have h1 := HP0.out; have h2 := HB7.out; simp at h2; rw [if_pos h2] at h1; exact h1
      subst hp
      obtain ⟨_, _, g0, c0, hv0, ho0⟩ := L0.out
      have HV0 := Aside0.mk (own_move ho0 (fun k hk => (below_alloc (RowKit.Below.refl W2.heap.size W2) (.cells #[.int .i64 pv.f1, .int .i64 pv.f2] 28)).block k (own_ge ho0 k hk).2))
      have L1 := Aside0.mk (L0.out.below (below_alloc (RowKit.Below.refl _ W2) (.cells #[.int .i64 pv.f1, .int .i64 pv.f2] 28)))
      have hsA : w1.heap.size + 1 ≤ (W2.alloc (.cells #[.int .i64 pv.f1, .int .i64 pv.f2] 28)).heap.size := by rw [World.size_alloc]; have := HS.out; omega
      clear ho0 hv0
      go_wp2_with (first | ((with_reducible refine gate_dst (N := 20) rfl ?_); refine wpList_append_own (W2.alloc (.cells #[.int .i64 pv.f1, .int .i64 pv.f2] 28)) rfl (.tmp 13) (.tmp 19) 31 rfl (w1.heap.size + 1) 28 i0 (.agg #[(.int .i64 0), (.int .i64 0)]) 2 16 Try.underlying31 hi hz0 hz1 hz2 rfl (by decide) vo0 0 [] rfl HV0.out ⟨W2.heap.size, 0, none⟩ 1 1 [.int .i64 pv.f1, .int .i64 pv.f2] rfl rfl (cell_two_new _ _ _ _) (by simp [Value.oneCell']) (by simp [maxLen]) (by omega) hsA ?_))
      intro v8 w8 hown hgrow hnil
      have HL8 := Aside0.mk (LI.app (q := [(pv.f1, pv.f2)]) (v2 := v8) L1.out hgrow hown rfl ⟨fun h => absurd h hnil, fun h => absurd h.2 (by simp)⟩)
      clear hown hgrow hnil HV0
      go_wp2
      go_meet
      exact HL8
  case' rest => have L2 := hcut; clear hcut L0 HB7 HS X0
  go_wp2
  go_loopw [5, 4] (fun i o wr => ∃ (k : Nat) (pre : List (Int × Int)), k ≤ n4 ∧ i = .int .i64 k ∧ Aside0 (LI w1 #[.int .i64 pv.f0, .int .i64 pv.f1, .int .i64 pv.f2, .string pv.f3, .slice P4 n4 q4, .slice P5 n5 q5] wr o pre) ∧ Aside0 (pre = pre0 ++ lksL (pv.f4.take k))) (fun i _ _ => n4 - (intOf i).toNat)
  case atStart => exact ⟨0, pre0, Nat.zero_le _, rfl, L2, ⟨by simp [lksL]⟩⟩
  case round =>
    obtain ⟨k, pre, hk, rfl, HL, HP⟩ := hrel
    have bx := box35 HL.out.2.1
    obtain ⟨b0, b1, b2, b3, b4, b5⟩ := bx
    by_cases hlt : k < n4
    · have hlt' : k < pv.f4.length := by have := N45.out.1; omega
      have hwk : wrap64 ((k : Int) + 1) = (k : Int) + 1 := by have := M45.out.1; unfold wrap64; omega
      have HWK := Aside0.mk hwk
      clear hwk
      obtain ⟨ad, Q4, z4, Q5, z5, rfl, y0, y1, y2, y3, y4, y5, lp4, gp4, lp5, gp5⟩ := at35w (Kd.C_below R4.out HL.out.1) k hlt'
      have HM := Aside0.mk (getD_mem pv.f4 k hlt' z35)
      have HTK := Aside0.mk (lksL_take pv.f4 k hlt')
      have HPF := Aside0.mk (lksL_pre pv.f4 (k + 1))
      generalize pv.f4.getD k z35 = x at *
      have IHx := Aside0.mk (IH4'.out _ HM.out)
      have HTS := Aside0.mk (show tsV x ≤ 90000 by
        have h1 := HT.out.1
        have h2 := HT.out.2
        have h3 := tsL_mem HM.out
        (try simp only [] at h3)
        omega)
      have HTK2 : Aside0 (lksL (pv.f4.take (k + 1)) = lksL (pv.f4.take k) ++ lksV x) := ⟨HTK.out⟩
      have HPRE := Aside0.mk (show pre0 ++ lksL (pv.f4.take (k + 1)) = pre ++ lksV x by rw [HP.out, HTK2.out]; simp [List.append_assoc])
      have HLEN := Aside0.mk (show pre.length + (lksV x).length ≤ 90000 by
        have h1 := HN0.out
        have h2 := HPF.out.length_le
        have h3 := congrArg List.length HPRE.out
        have h4 := congrArg List.length HLK.out
        simp only [List.length_append] at h3 h4
        have h5 := (lksL_pre pv.f4 0).length_le
        have h6 : (pre0 : List (Int × Int)).length = (if pv.f0 = 7 then [(pv.f1, pv.f2)] else []).length := by rw [HP0.out]
        omega)
      have G := Aside0.mk (And.intro lp4 (And.intro gp4 (And.intro lp5 gp5)))
      have IHp : Aside0 (plain x = x) := ⟨IHx.out.1⟩
      obtain ⟨q, hq⟩ : ∃ q, q = lksV x := ⟨_, rfl⟩
      obtain ⟨N, hN⟩ : ∃ N, N = q.length := ⟨_, rfl⟩
      rw [← hq] at HPRE HLEN
      have CALL := Aside0.mk (IHx.out.2 Q4 z4 Q5 z5 _ HTS.out G.out.1 (G.out.2.1) G.out.2.2.1 (G.out.2.2.2))
      rw [IHp.out, ← hq, ← hN] at CALL
      have HNN := Aside0.mk hN
      clear hN hq lp4 gp4 lp5 gp5 HM HTK HTK2 HPF G IHx IHp
      go_wp2_with fail
      refine Calls.mono CALL.out ?_
      rintro e w7 ⟨g, c, rfl, ho, hb⟩
      have hb : RowKit.Below wr.heap.size wr w7 := hb
      have HL7 := Aside0.mk (HL.out.below hb)
      have HO := Aside0.mk ho
      have hs7 : w1.heap.size + 1 ≤ w7.heap.size := by have h := blk_lt HL7.out.2.1; omega
      obtain ⟨_, _, g0, c0, hv0, ho0⟩ := HL7.out
      have HV0 := Aside0.mk ho0
      clear ho hb ho0 hv0 b0 b1 b2 b3 b4 b5 y0 y1 y2 y3 y4 y5 CALL
      go_wp2_with (first | ((with_reducible refine gate_dst (N := 35) rfl ?_); refine wpList_append_own w7 rfl (.tmp 28) (.tmp 34) 31 rfl (w1.heap.size + 1) 28 i0 (.agg #[(.int .i64 0), (.int .i64 0)]) 2 16 Try.underlying31 hi hz0 hz1 hz2 rfl (by decide) u4 pre.length (flat pre) rfl HV0.out ⟨g, 0, none⟩ N c (flat q) rfl (by rw [flat_len, HNN.out]) (own_cells HO.out) (flat_one q) (by have h := HLEN.out; have h2 := HNN.out; simp only [maxLen]; omega) (by have h := HLEN.out; have h2 := HNN.out; omega) (by omega) ?_))
      intro v8 w8 hown hgrow hnil
      have HL8 := Aside0.mk (LI.app HL7.out hgrow hown HNN.out hnil)
      clear hown hgrow hnil HV0 HO
      go_wp2
      exact ⟨⟨k + 1, pre ++ q, by omega, by first | (rw [HWK.out]; simp; done) | (simp; done), HL8, ⟨HPRE.out.symm⟩⟩, by first | (rw [HWK.out]; simp [intOf]; omega) | (simp [intOf]; omega)⟩
    · obtain rfl : n4 = k := by omega
      have HP2 := Aside0.mk (show pre = pre0 ++ lksL pv.f4 by rw [HP.out, List.take_of_length_le (by have := N45.out.1; omega)])
      clear HP L2
      go_wp2
      go_loopw [6, 4] (fun i o wr => ∃ (k : Nat) (pre : List (Int × Int)), k ≤ n5 ∧ i = .int .i64 k ∧ Aside0 (LI w1 #[.int .i64 pv.f0, .int .i64 pv.f1, .int .i64 pv.f2, .string pv.f3, .slice P4 n4 q4, .slice P5 n5 q5] wr o pre) ∧ Aside0 (pre = pre0 ++ lksL pv.f4 ++ lksD (pv.f5.take k))) (fun i _ _ => n5 - (intOf i).toNat)
      case atStart => exact ⟨0, pre, Nat.zero_le _, rfl, HL, ⟨by rw [HP2.out]; simp [lksD]⟩⟩
      clear HP2 HL b0 b1 b2 b3 b4 b5
      case round =>
        obtain ⟨k, pre, hk, rfl, HL, HP⟩ := hrel
        have bx := box35 HL.out.2.1
        obtain ⟨b0, b1, b2, b3, b4, b5⟩ := bx
        by_cases hlt : k < n5
        · have hlt' : k < pv.f5.length := by have := N45.out.2; omega
          have hwk : wrap64 ((k : Int) + 1) = (k : Int) + 1 := by have := M45.out.2; unfold wrap64; omega
          have HWK := Aside0.mk hwk
          clear hwk
          obtain ⟨ad, Q4, z4, Q5, z5, rfl, y0, y1, y2, y3, y4, y5, y6, lp4, gp4, lp5, gp5⟩ := at89 (Kd.C_below R5.out HL.out.1) k hlt'
          replace y0 := y0 ⟨wr, RowKit.Below.refl _ _⟩
          replace y1 := y1 ⟨wr, RowKit.Below.refl _ _⟩
          replace y2 := y2 ⟨wr, RowKit.Below.refl _ _⟩
          replace y3 := y3 ⟨wr, RowKit.Below.refl _ _⟩
          replace y4 := y4 ⟨wr, RowKit.Below.refl _ _⟩
          replace y5 := y5 ⟨wr, RowKit.Below.refl _ _⟩
          replace y6 := y6 ⟨wr, RowKit.Below.refl _ _⟩
          simp only [] at y0 y1 y2 y3 y4 y5 y6
          have HM := Aside0.mk (getD_mem pv.f5 k hlt' z89)
          have HTK := Aside0.mk (lksD_take pv.f5 k hlt')
          have HPF := Aside0.mk (lksD_pre pv.f5 (k + 1))
          generalize pv.f5.getD k z89 = x at *
          obtain ⟨xk, xv⟩ := x
          simp only [] at y0 y1 y2 y3 y4 y5 y6
          have IHx := Aside0.mk (IH5'.out _ HM.out)
          have HTS := Aside0.mk (show tsV xv ≤ 90000 by
            have h1 := HT.out.1
            have h2 := HT.out.2
            have h3 := tsD_mem HM.out
            simp only [] at h3
            omega)
          have HTK2 : Aside0 (lksD (pv.f5.take (k + 1)) = lksD (pv.f5.take k) ++ lksV xv) := ⟨HTK.out⟩
          have HPRE := Aside0.mk (show pre0 ++ lksL pv.f4 ++ lksD (pv.f5.take (k + 1)) = pre ++ lksV xv by rw [HP.out, HTK2.out]; simp [List.append_assoc])
          have HLEN := Aside0.mk (show pre.length + (lksV xv).length ≤ 90000 by
            have h1 := HN0.out
            have h2 := HPF.out.length_le
            have h3 := congrArg List.length HPRE.out
            have h4 := congrArg List.length HLK.out
            simp only [List.length_append] at h3 h4
            skip
            have h6 : (pre0 : List (Int × Int)).length = (if pv.f0 = 7 then [(pv.f1, pv.f2)] else []).length := by rw [HP0.out]
            omega)
          have G := Aside0.mk (And.intro lp4 (And.intro gp4 (And.intro lp5 gp5)))
          have IHp : Aside0 (plain xv = xv) := ⟨IHx.out.1⟩
          obtain ⟨q, hq⟩ : ∃ q, q = lksV xv := ⟨_, rfl⟩
          obtain ⟨N, hN⟩ : ∃ N, N = q.length := ⟨_, rfl⟩
          rw [← hq] at HPRE HLEN
          have CALL := Aside0.mk (IHx.out.2 Q4 z4 Q5 z5 _ HTS.out G.out.1 (G.out.2.1) G.out.2.2.1 (G.out.2.2.2))
          rw [IHp.out, ← hq, ← hN] at CALL
          have HNN := Aside0.mk hN
          clear hN hq lp4 gp4 lp5 gp5 HM HTK HTK2 HPF G IHx IHp
          go_wp2_with fail
          refine Calls.mono CALL.out ?_
          rintro e w7 ⟨g, c, rfl, ho, hb⟩
          have hb : RowKit.Below wr.heap.size wr w7 := hb
          have HL7 := Aside0.mk (HL.out.below hb)
          have HO := Aside0.mk ho
          have hs7 : w1.heap.size + 1 ≤ w7.heap.size := by have h := blk_lt HL7.out.2.1; omega
          obtain ⟨_, _, g0, c0, hv0, ho0⟩ := HL7.out
          have HV0 := Aside0.mk ho0
          clear ho hb ho0 hv0 b0 b1 b2 b3 b4 b5 y0 y1 y2 y3 y4 y5 y6 CALL
          go_wp2_with (first | ((with_reducible refine gate_dst (N := 51) rfl ?_); refine wpList_append_own w7 rfl (.tmp 43) (.tmp 50) 31 rfl (w1.heap.size + 1) 28 i0 (.agg #[(.int .i64 0), (.int .i64 0)]) 2 16 Try.underlying31 hi hz0 hz1 hz2 rfl (by decide) u4 pre.length (flat pre) rfl HV0.out ⟨g, 0, none⟩ N c (flat q) rfl (by rw [flat_len, HNN.out]) (own_cells HO.out) (flat_one q) (by have h := HLEN.out; have h2 := HNN.out; simp only [maxLen]; omega) (by have h := HLEN.out; have h2 := HNN.out; omega) (by omega) ?_))
          intro v8 w8 hown hgrow hnil
          have HL8 := Aside0.mk (LI.app HL7.out hgrow hown HNN.out hnil)
          clear hown hgrow hnil HV0 HO
          go_wp2
          exact ⟨⟨k + 1, pre ++ q, by omega, by first | (rw [HWK.out]; simp; done) | (simp; done), HL8, ⟨HPRE.out.symm⟩⟩, by first | (rw [HWK.out]; simp [intOf]; omega) | (simp [intOf]; omega)⟩
        · obtain rfl : n5 = k := by omega
          have hpl : pre = lk := by rw [HP.out, HLK.out, List.take_of_length_le (by have := N45.out.2; omega)]
          have HLE := Aside0.mk HL.out
          obtain ⟨hB, _, g, c, hv, ho⟩ := HL.out
          rw [hpl, ← hN9.out] at hv ho
          subst hv
          have HO9 := Aside0.mk ho
          have HB9 := Aside0.mk (HB0.out.trans (hB.mono hs1))
          have HO8 := Aside0.mk (own_lower9 HO9.out (show w.heap.size ≤ w1.heap.size + 1 by omega))
          clear ho hB HLE
          go_wp2
          exact bodyPost_ret (v := .slice (some ⟨g, 0, none⟩) N9 c) (by simp [results, Try.results69, go_sem]) rfl ⟨g, c, rfl, HO8.out, HB9.out⟩
theorem rl_plain : ∀ v : S35, plain v = v → RlSaid v := by
  refine S35.ind ?_
  intro v ih4 ih5 hv
  have pe := plain_elem (v := v)
  rw [hv] at pe
  refine rl_body v ?_ ?_
  · rw [hv]; exact fun x hx => ⟨pe.1 x hx, ih4 x hx (pe.1 x hx)⟩
  · rw [hv]; exact fun p hp => ⟨pe.2 p hp, ih5 p hp (pe.2 p hp)⟩
theorem rl_all (v : S35) : RlSaid v := rl_body v (fun x hx => ⟨plain_elem.1 x hx, rl_plain x (plain_elem.1 x hx)⟩) (fun p hp => ⟨plain_elem.2 p hp, rl_plain p.f1 (plain_elem.2 p hp)⟩)
end Go.Proofs.Ytogpnkkoablmiaa.V
end
section
namespace Go.Proofs.Ytogpnkkoablmiaa.V
open Go.Proofs.Ytogpnkkoablmiaa.P Go.Shelf Go.RowKit Go.Lib Go.Sort Go.Proofs.Ytogpnkkoablmiaa.Q Go.Proofs.YtogpnkkoablmiaaW.PrintWords Go.Proofs.YtogpnkkoablmiaaW.PrintLast Go.Proofs.YtogpnkkoablmiaaW.PrintMore
set_option linter.unusedVariables false
set_option linter.unusedSimpArgs false
def HasR (l : List (Int × Int)) (A : Option Addr) (c : Nat) (W : World) : Prop := l.length ≤ c ∧ k28.C W A l.length (refs l)
theorem stays_ref (l : List (Int × Int)) (A : Option Addr) (c : Nat) : Stays (HasR l A c) := fun _ _ h hb => ⟨h.1, Kd.C_below h.2 hb⟩
theorem refs_len (l : List (Int × Int)) : (refs l).length = l.length := by simp [refs]
theorem refs_at (l : List (Int × Int)) (k : Nat) (h : k < l.length) : (refs l).getD k z28 = ⟨(l.getD k (0, 0)).1, (l.getD k (0, 0)).2⟩ := by
  rw [List.getD_eq_getElem?_getD, List.getD_eq_getElem?_getD, List.getElem?_eq_getElem (by rw [refs_len]; exact h), List.getElem?_eq_getElem h]
  simp [refs]
theorem HasR.at {l : List (Int × Int)} {A : Option Addr} {c : Nat} {W : World} (h : HasR l A c W) (k : Nat) (hk : k < l.length) : ∃ ad, A = some ad ∧ W.cell? (ad.add (k * 2)) = some (.int .i64 (l.getD k (0, 0)).1) ∧ W.cell? ⟨(ad.add (k * 2)).block, (ad.add (k * 2)).off + 1, none⟩ = some (.int .i64 (l.getD k (0, 0)).2) := by
  obtain ⟨ad, e, h0, h1⟩ := at_T28 h.2 (k : Int) (by omega) (by omega)
  simp only [rd_T28, Int.toNat_natCast] at h0 h1
  rw [refs_at l k hk] at h0 h1
  exact ⟨ad, e, h0, h1⟩
theorem K_links (v : S35) (A4 : Option Addr) (c4 : Nat) (A5 : Option Addr) (c5 : Nat) (W : World) (hf : fewV v) (hn : (lksV (plain v)).length ≤ 90000) (h : HasV v A4 c4 A5 c5 W) : Calls Try.prog 68 #[.agg #[.int .i64 v.f0, .int .i64 v.f1, .int .i64 v.f2, .string v.f3, .slice A4 v.f4.length c4, .slice A5 v.f5.length c5]] W fun e w' => ∃ A c, e = .returned (.slice A (lksV (plain v)).length c) ∧ HasR (lksV (plain v)) A c w' ∧ RowKit.Below W.heap.size W w' := by
  refine (links_calls v A4 c4 A5 c5 W hf hn h.1 h.2.1 h.2.2.1 h.2.2.2).mono ?_
  rintro e w' ⟨v0, rfl, hR, hb⟩
  obtain ⟨A, c, rfl, h1, h2⟩ := Kd.R_reads hR
  rw [refs_len] at h1 h2
  exact ⟨A, c, by rw [refs_len], ⟨h1, h2⟩, hb⟩
theorem K_rlinks (v : S35) (A4 : Option Addr) (c4 : Nat) (A5 : Option Addr) (c5 : Nat) (W : World) (ht : tsV v ≤ 90000) (h : HasV v A4 c4 A5 c5 W) : Calls Try.prog 69 #[.agg #[.int .i64 v.f0, .int .i64 v.f1, .int .i64 v.f2, .string v.f3, .slice A4 v.f4.length c4, .slice A5 v.f5.length c5]] W fun e w' => ∃ A c, e = .returned (.slice A (lksV (plain v)).length c) ∧ HasR (lksV (plain v)) A c w' ∧ RowKit.Below W.heap.size W w' := by
  refine (rl_all v A4 c4 A5 c5 W ht h.1 h.2.1 h.2.2.1 h.2.2.2).mono ?_
  rintro e w' ⟨g, c, rfl, ho, hb⟩
  obtain ⟨A, c', he, h1, h2⟩ := Kd.R_reads (R28_of ho)
  rw [refs_len] at he h1 h2
  injection he with e1 e2 e3
  subst e1
  subst e3
  exact ⟨_, _, rfl, ⟨h1, h2⟩, hb⟩
theorem K_holds (v : S35) (A4 : Option Addr) (c4 : Nat) (A5 : Option Addr) (c5 : Nat) (n g : Int) (W : World) (hf : fewV v) (h : HasV v A4 c4 A5 c5 W) : Calls Try.prog 70 #[.agg #[.int .i64 v.f0, .int .i64 v.f1, .int .i64 v.f2, .string v.f3, .slice A4 v.f4.length c4, .slice A5 v.f5.length c5], .agg #[.int .i64 n, .int .i64 g]] W fun e w' => e = .returned (.bool (holdsV v n g)) ∧ RowKit.Below W.heap.size W w' :=
  Holds_calls v A4 c4 A5 c5 n g W hf h.1 h.2.1 h.2.2.1 h.2.2.2
theorem box2 {w : World} {b T : Nat} {c0 c1 : Value} (h : w.heap[b]? = some (.cells #[c0, c1] T (0, 0))) : w.cell? ⟨b, 0, none⟩ = some c0 ∧ w.cell? ⟨b, 1, none⟩ = some c1 := by
  refine ⟨?_, ?_⟩ <;> (rw [cell_of_row w b _ _ _ _ h]; rfl)
end Go.Proofs.Ytogpnkkoablmiaa.V
end
section
namespace Go.Proofs.Ytogpnkkoablmiaa.V
open Go.Proofs.Ytogpnkkoablmiaa.P Go.Shelf Go.RowKit Go.Lib Go.Sort Go.Proofs.Ytogpnkkoablmiaa.Q Go.Proofs.YtogpnkkoablmiaaW.PrintWords Go.Proofs.YtogpnkkoablmiaaW.PrintLast Go.Proofs.YtogpnkkoablmiaaW.PrintMore
set_option linter.unusedVariables false
set_option linter.unusedSimpArgs false
attribute [local go_sem high] eqA28
set_option maxHeartbeats 20000000 in
set_option maxRecDepth 100000 in
theorem vlinks_calls (v : S35) (rn rg : Int) (A4 : Option Addr) (c4 : Nat) (A5 : Option Addr) (c5 : Nat) (w : World) (hv0 : HasV v A4 c4 A5 c5 w) :
    Calls Try.prog 12 #[.agg #[.int .i64 v.f0, .int .i64 v.f1, .int .i64 v.f2, .string v.f3, .slice A4 v.f4.length c4, .slice A5 v.f5.length c5], .agg #[.int .i64 rn, .int .i64 rg]] w fun e w' => e = .returned (.bool true) ∧ RowKit.Below w.heap.size w w' := by
  have hu35 := Try.underlying35
  have hu28 := Try.underlying28
  have hu31 := Try.underlying31
  obtain ⟨b, kf, hbf, hkf⟩ := few_all v 500 (by omega) (by omega)
  have KF := Aside0.mk (fun W (h : HasV v A4 c4 A5 c5 W) => K_few v A4 c4 A5 c5 500 b kf (hkf kf (Nat.le_refl _)) W h)
  have HBF := Aside0.mk hbf
  have hbw := (below_alloc (below_alloc (RowKit.Below.refl (w).heap.size (w)) (.cells #[.int .i64 v.f0, .int .i64 v.f1, .int .i64 v.f2, .string v.f3, .slice A4 v.f4.length c4, .slice A5 v.f5.length c5] 35)) (.cells #[.int .i64 rn, .int .i64 rg] 28))
  have HV := Aside0.mk (hv0.below hbw)
  have BV := Aside0.mk (blk_alloc (blk_new w (.cells #[.int .i64 v.f0, .int .i64 v.f1, .int .i64 v.f2, .string v.f3, .slice A4 v.f4.length c4, .slice A5 v.f5.length c5] 35)) (.cells #[.int .i64 rn, .int .i64 rg] 28))
  have BR := Aside0.mk (blk_new (w.alloc (.cells #[.int .i64 v.f0, .int .i64 v.f1, .int .i64 v.f2, .string v.f3, .slice A4 v.f4.length c4, .slice A5 v.f5.length c5] 35)) (.cells #[.int .i64 rn, .int .i64 rg] 28))
  have HB := Aside0.mk hbw
  have L1 := Aside0.mk (show w.heap.size + 1 < ((w.alloc (.cells #[.int .i64 v.f0, .int .i64 v.f1, .int .i64 v.f2, .string v.f3, .slice A4 v.f4.length c4, .slice A5 v.f5.length c5] 35)).alloc (.cells #[.int .i64 rn, .int .i64 rg] 28)).heap.size by simp)
  simp only [World.size_alloc] at BR
  clear hbf hkf hbw hv0
  go_enter Try.func12, Try.ntmps12
  go_wp2_with fail
  refine Calls.mono (values_calls _) ?_
  rintro e w1 ⟨rfl, hb⟩
  replace HV := Aside0.mk ((stays_val _ _ _ _ _) _ _ HV.out hb)
  replace BV := Aside0.mk ((stays_blk _ _) _ _ BV.out hb)
  replace BR := Aside0.mk ((stays_blk _ _) _ _ BR.out hb)
  replace HB := Aside0.mk ((stays_below _) _ _ HB.out hb)
  replace L1 := Aside0.mk ((stays_lt _) _ _ L1.out hb)
  have g0_1 : w.heap.size < w1.heap.size := by have hh := L1.out; omega
  have g1_1 : w.heap.size + 1 < w1.heap.size := by have hh := L1.out; omega
  clear hb
  obtain ⟨u0, u1, u2, u3, u4, u5⟩ := box35 BV.out
  go_wp2_with fail
  refine Calls.mono (KF.out _ HV.out) ?_
  rintro e w2 ⟨rfl, hb⟩
  clear u0 u1 u2 u3 u4 u5
  replace HV := Aside0.mk ((stays_val _ _ _ _ _) _ _ HV.out hb)
  replace BV := Aside0.mk ((stays_blk _ _) _ _ BV.out hb)
  replace BR := Aside0.mk ((stays_blk _ _) _ _ BR.out hb)
  replace HB := Aside0.mk ((stays_below _) _ _ HB.out hb)
  replace L1 := Aside0.mk ((stays_lt _) _ _ L1.out hb)
  have g0_2 : w.heap.size < w2.heap.size := by have hh := L1.out; omega
  have g1_2 : w.heap.size + 1 < w2.heap.size := by have hh := L1.out; omega
  clear hb KF
  cases b
  case false =>
    go_wp2
    go_ret
    exact ⟨rfl, HB.out⟩
  obtain ⟨hts, hfv, -⟩ := HBF.out (by trivial)
  have FV := Aside0.mk hfv
  have KL := Aside0.mk (fun W (h : HasV v A4 c4 A5 c5 W) => K_links v A4 c4 A5 c5 W hfv (lks_bound v (by omega)) h)
  have KM := Aside0.mk (fun W (h : HasV v A4 c4 A5 c5 W) => K_rlinks v A4 c4 A5 c5 W (by omega) h)
  have KH : ∀ (n g : Int) (W : World), HasV v A4 c4 A5 c5 W → Calls Try.prog 70 #[.agg #[.int .i64 v.f0, .int .i64 v.f1, .int .i64 v.f2, .string v.f3, .slice A4 v.f4.length c4, .slice A5 v.f5.length c5], .agg #[.int .i64 n, .int .i64 g]] W fun e w' => e = .returned (.bool (decide ((n, g) ∈ lksV (plain v)))) ∧ RowKit.Below W.heap.size W w' := fun n g W h => K_holds v A4 c4 A5 c5 n g W hfv h
  have hlb := lks_bound v (by omega)
  obtain ⟨lk, hlk⟩ : ∃ lk, lk = lksV (plain v) := ⟨_, rfl⟩
  rw [← hlk] at KL KM KH hlb
  have KH := Aside0.mk KH
  obtain ⟨N, hN⟩ : ∃ N, N = lk.length := ⟨_, rfl⟩
  rw [← hN] at KL KM hlb
  have HN := Aside0.mk hN
  clear hlk hN hts hfv HBF
  obtain ⟨u0, u1, u2, u3, u4, u5⟩ := box35 BV.out
  have hnn := links_not_nil
  go_wp2_with fail
  refine Calls.mono (Links_calls _ _ _ _ _ _ _ _ _ _ _) ?_
  rintro e w2' ⟨rfl, rfl⟩
  replace HV := Aside0.mk ((stays_val _ _ _ _ _) _ _ HV.out (below_alloc (RowKit.Below.refl (w2).heap.size (w2)) (.cells #[.int .i64 v.f0, .int .i64 v.f1, .int .i64 v.f2, .string v.f3, .slice A4 v.f4.length c4, .slice A5 v.f5.length c5] 35)))
  replace BV := Aside0.mk ((stays_blk _ _) _ _ BV.out (below_alloc (RowKit.Below.refl (w2).heap.size (w2)) (.cells #[.int .i64 v.f0, .int .i64 v.f1, .int .i64 v.f2, .string v.f3, .slice A4 v.f4.length c4, .slice A5 v.f5.length c5] 35)))
  replace BR := Aside0.mk ((stays_blk _ _) _ _ BR.out (below_alloc (RowKit.Below.refl (w2).heap.size (w2)) (.cells #[.int .i64 v.f0, .int .i64 v.f1, .int .i64 v.f2, .string v.f3, .slice A4 v.f4.length c4, .slice A5 v.f5.length c5] 35)))
  replace HB := Aside0.mk ((stays_below _) _ _ HB.out (below_alloc (RowKit.Below.refl (w2).heap.size (w2)) (.cells #[.int .i64 v.f0, .int .i64 v.f1, .int .i64 v.f2, .string v.f3, .slice A4 v.f4.length c4, .slice A5 v.f5.length c5] 35)))
  replace L1 := Aside0.mk ((stays_lt _) _ _ L1.out (below_alloc (RowKit.Below.refl (w2).heap.size (w2)) (.cells #[.int .i64 v.f0, .int .i64 v.f1, .int .i64 v.f2, .string v.f3, .slice A4 v.f4.length c4, .slice A5 v.f5.length c5] 35)))
  generalize hw3 : w2.alloc (.cells #[.int .i64 v.f0, .int .i64 v.f1, .int .i64 v.f2, .string v.f3, .slice A4 v.f4.length c4, .slice A5 v.f5.length c5] 35) = w3 at *
  clear hw3
  clear u0 u1 u2 u3 u4 u5
  have g0_3 : w.heap.size < w3.heap.size := by have hh := L1.out; omega
  have g1_3 : w.heap.size + 1 < w3.heap.size := by have hh := L1.out; omega
  obtain ⟨u0, u1, u2, u3, u4, u5⟩ := box35 BV.out
  go_wp2_with fail
  refine Calls.mono (KL.out _ HV.out) ?_
  rintro e w4 ⟨A, c, rfl, hr, hb⟩
  have HL := Aside0.mk hr
  clear u0 u1 u2 u3 u4 u5
  replace HV := Aside0.mk ((stays_val _ _ _ _ _) _ _ HV.out hb)
  replace BV := Aside0.mk ((stays_blk _ _) _ _ BV.out hb)
  replace BR := Aside0.mk ((stays_blk _ _) _ _ BR.out hb)
  replace HB := Aside0.mk ((stays_below _) _ _ HB.out hb)
  replace L1 := Aside0.mk ((stays_lt _) _ _ L1.out hb)
  have g0_4 : w.heap.size < w4.heap.size := by have hh := L1.out; omega
  have g1_4 : w.heap.size + 1 < w4.heap.size := by have hh := L1.out; omega
  clear hb hr KL hnn
  obtain ⟨u0, u1, u2, u3, u4, u5⟩ := box35 BV.out
  go_wp2_with fail
  refine Calls.mono (KM.out _ HV.out) ?_
  rintro e w5 ⟨B, d, rfl, hr, hb⟩
  have HM := Aside0.mk hr
  clear u0 u1 u2 u3 u4 u5
  replace HV := Aside0.mk ((stays_val _ _ _ _ _) _ _ HV.out hb)
  replace BV := Aside0.mk ((stays_blk _ _) _ _ BV.out hb)
  replace BR := Aside0.mk ((stays_blk _ _) _ _ BR.out hb)
  replace HB := Aside0.mk ((stays_below _) _ _ HB.out hb)
  replace L1 := Aside0.mk ((stays_lt _) _ _ L1.out hb)
  have g0_5 : w.heap.size < w5.heap.size := by have hh := L1.out; omega
  have g1_5 : w.heap.size + 1 < w5.heap.size := by have hh := L1.out; omega
  replace HL := Aside0.mk (stays_ref _ _ _ _ _ HL.out hb)
  clear hb hr KM
  obtain ⟨Q, hQ⟩ : ∃ Q : World → Prop, Q = fun W => HasV v A4 c4 A5 c5 W ∧ W.heap[w.heap.size]? = some (.cells #[.int .i64 v.f0, .int .i64 v.f1, .int .i64 v.f2, .string v.f3, .slice A4 v.f4.length c4, .slice A5 v.f5.length c5] 35) ∧ W.heap[w.heap.size + 1]? = some (.cells #[.int .i64 rn, .int .i64 rg] 28) ∧ RowKit.Below w.heap.size w W ∧ w.heap.size + 1 < W.heap.size ∧ HasR lk A c W ∧ HasR lk B d W := ⟨_, rfl⟩
  have hS : Stays Q := by rw [hQ]; exact (Stays.and (stays_val _ _ _ _ _) (Stays.and (stays_blk _ _) (Stays.and (stays_blk _ _) (Stays.and (stays_below _) (Stays.and (stays_lt _) (Stays.and (stays_ref _ _ _) (stays_ref _ _ _)))))))
  have F := Aside0.mk (show Q w5 by rw [hQ]; exact ⟨HV.out, BV.out, BR.out, HB.out, L1.out, HL.out, HM.out⟩)
  have EV : ∀ W, Q W → HasV v A4 c4 A5 c5 W := fun W h => by rw [hQ] at h; exact h.1
  have EBV : ∀ W, Q W → W.heap[w.heap.size]? = some (.cells #[.int .i64 v.f0, .int .i64 v.f1, .int .i64 v.f2, .string v.f3, .slice A4 v.f4.length c4, .slice A5 v.f5.length c5] 35) := fun W h => by rw [hQ] at h; exact h.2.1
  have EBR : ∀ W, Q W → W.heap[w.heap.size + 1]? = some (.cells #[.int .i64 rn, .int .i64 rg] 28) := fun W h => by rw [hQ] at h; exact h.2.2.1
  have EB : ∀ W, Q W → RowKit.Below w.heap.size w W := fun W h => by rw [hQ] at h; exact h.2.2.2.1
  have EL : ∀ W, Q W → HasR lk A c W := fun W h => by rw [hQ] at h; exact h.2.2.2.2.2.1
  have EM : ∀ W, Q W → HasR lk B d W := fun W h => by rw [hQ] at h; exact h.2.2.2.2.2.2
  clear hQ HV BV BR HB L1 HL HM FV
  have hmx : N ≤ 90000 := hlb
  have HMX := Aside0.mk hmx
  clear hlb hmx
  go_wp2_with fail
  go_loopw [8, 7] (fun i s wr => ∃ k : Nat, k ≤ N ∧ i = .int .i64 k ∧ s = .bool (decide ((rn, rg) ∈ lk.take k)) ∧ Aside0 (Q wr)) (fun i _ _ => N - (intOf i).toNat)
  case atStart => exact ⟨0, Nat.zero_le _, rfl, by simp, F⟩
  case round =>
    obtain ⟨k, hk, rfl, rfl, F2⟩ := hrel
    clear F
    by_cases hlt : k < N
    · obtain ⟨ad, rfl, x0, x1⟩ := (EL _ F2.out).at k (by have := HN.out; omega)
      obtain ⟨ae, rfl, y0, y1⟩ := (EM _ F2.out).at k (by have := HN.out; omega)
      have HX := Aside0.mk (getD_mem lk k (by have := HN.out; omega) (0, 0))
      have HTK := Aside0.mk (show lk.take (k + 1) = lk.take k ++ [lk.getD k (0, 0)] by
        rw [List.take_succ_eq_append_getElem (by have := HN.out; omega), List.getD_eq_getElem?_getD, List.getElem?_eq_getElem (by have := HN.out; omega)]; rfl)
      generalize hx : lk.getD k (0, 0) = x at *
      have HGX := Aside0.mk hx
      clear hx
      obtain ⟨xn, xg⟩ := x
      simp only [] at x0 x1 y0 y1
      have HM2 := Aside0.mk (show decide ((rn, rg) ∈ lk.take (k + 1)) = (decide ((rn, rg) ∈ lk.take k) || (xn == rn && xg == rg)) by
        rw [HTK.out, Bool.eq_iff_iff]
        simp only [decide_eq_true_eq, List.mem_append, List.mem_singleton, Bool.or_eq_true, Bool.and_eq_true, beq_iff_eq, Prod.mk.injEq]
        exact ⟨fun h => h.imp id (fun h => ⟨h.1.symm, h.2.symm⟩), fun h => h.imp id (fun h => ⟨h.1.symm, h.2.symm⟩)⟩)
      have KX := fun (W : World) (h : HasV v A4 c4 A5 c5 W) => KH.out xn xg W h
      rw [decide_eq_true HX.out] at KX
      have KX := Aside0.mk KX
      have hwk : wrap64 ((k : Int) + 1) = (k : Int) + 1 := by have := HMX.out; unfold wrap64; omega
      have HWK := Aside0.mk hwk
      obtain ⟨z0, z1⟩ := box2 (EBR _ F2.out)
      have hNm : N ≤ 90000 := HMX.out
      clear hwk HTK HX
      go_upto_region 15 with fail
      clear hNm
      generalize hhb : decide ((rn, rg) ∈ lk.take k) = hb at *
      clear hhb
      go_cut [7] (fun s wc => s = .bool (decide ((rn, rg) ∈ lk.take (k + 1))) ∧ Aside0 (Q wc))
      case first =>
        cases hb
        · go_region_held3 (fun w' => w'.cell? (ad.add (k * 2)) = some (.int .i64 xn) ∧ w'.cell? ⟨(ad.add (k * 2)).block, (ad.add (k * 2)).off + 1, none⟩ = some (.int .i64 xg) ∧ w'.cell? ⟨w.heap.size + 1, 0, none⟩ = some (.int .i64 rn) ∧ w'.cell? ⟨w.heap.size + 1, 1, none⟩ = some (.int .i64 rg))
    (first
      | go_keep
      | (go_split_ands
         refine ⟨?_, ?_, ?_, ?_⟩ <;> exact (hb_.cell (World.block_lt_of_cell? _ _ (by assumption))).trans (by assumption)))
    (fail)
          all_goals
            go_wp2
            go_meet
            exact ⟨by rw [HM2.out]; first | rfl | (simp; done), ⟨Stays.drew hS F2.out⟩⟩
        · refine start_ (n := 10) (S := (fun _ => True)) (ds := [9]) #[false, false, false, false, false, false, false, false, false, false] (by kernel_rfl) rfl rfl trivial (fun hHeld => ?_)
          refine pure_ (i := 0) (N := some 32) (v := ?_) (a' := ?_) #[true, false, false, false, false, false, false, false, false, false] rfl rfl (by kernel_rfl) (fun _ _ _ h => h) (Or.inl ⟨by rfl, ?_⟩) ?_ ?_
          rotate_left
          · intro w'
            go_simp
            with_reducible rfl
          rotate_left
          · simp only [Act.put, List.setIfInBounds_toArray, List.set_cons_zero, List.set_cons_succ]
            rfl
          refine pure_ (i := 1) (N := some 33) (v := ?_) (a' := ?_) #[true, true, false, false, false, false, false, false, false, false] rfl rfl (by kernel_rfl) (fun _ _ _ h => h) (Or.inl ⟨by rfl, ?_⟩) ?_ ?_
          rotate_left
          · intro w'
            go_simp
            with_reducible rfl
          rotate_left
          · simp only [Act.put, List.setIfInBounds_toArray, List.set_cons_zero, List.set_cons_succ]
            rfl
          replace F2 := Aside0.mk (Stays.drew hS F2.out)
          clear hHeld
          refine pure_ (i := 2) (N := some 34) (v := undef) (a' := ?_) #[true, true, true, false, false, false, false, false, false, false] rfl rfl (by kernel_rfl) (fun _ _ _ h => h) (Or.inr ⟨by rfl, rfl⟩) ?_ ?_
          rotate_left
          · simp only [Act.put, List.setIfInBounds_toArray, List.set_cons_zero, List.set_cons_succ]
            rfl
          refine pure_ (i := 3) (N := some 35) (v := undef) (a' := ?_) #[true, true, true, true, false, false, false, false, false, false] rfl rfl (by kernel_rfl) (fun _ _ _ h => h) (Or.inr ⟨by rfl, rfl⟩) ?_ ?_
          rotate_left
          · simp only [Act.put, List.setIfInBounds_toArray, List.set_cons_zero, List.set_cons_succ]
            rfl
          refine pure_ (i := 4) (N := some 36) (v := undef) (a' := ?_) #[true, true, true, true, true, false, false, false, false, false] rfl rfl (by kernel_rfl) (fun _ _ _ h => h) (Or.inr ⟨by rfl, rfl⟩) ?_ ?_
          rotate_left
          · simp only [Act.put, List.setIfInBounds_toArray, List.set_cons_zero, List.set_cons_succ]
            rfl
          refine pure_ (i := 5) (N := some 37) (v := undef) (a' := ?_) #[true, true, true, true, true, true, false, false, false, false] rfl rfl (by kernel_rfl) (fun _ _ _ h => h) (Or.inr ⟨by rfl, rfl⟩) ?_ ?_
          rotate_left
          · simp only [Act.put, List.setIfInBounds_toArray, List.set_cons_zero, List.set_cons_succ]
            rfl
          refine pure_ (i := 6) (N := some 38) (v := undef) (a' := ?_) #[true, true, true, true, true, true, true, false, false, false] rfl rfl (by kernel_rfl) (fun _ _ _ h => h) (Or.inr ⟨by rfl, rfl⟩) ?_ ?_
          rotate_left
          · simp only [Act.put, List.setIfInBounds_toArray, List.set_cons_zero, List.set_cons_succ]
            rfl
          refine pure_ (i := 7) (N := some 39) (v := undef) (a' := ?_) #[true, true, true, true, true, true, true, true, false, false] rfl rfl (by kernel_rfl) (fun _ _ _ h => h) (Or.inr ⟨by rfl, rfl⟩) ?_ ?_
          rotate_left
          · simp only [Act.put, List.setIfInBounds_toArray, List.set_cons_zero, List.set_cons_succ]
            rfl
          refine pure_ (i := 8) (N := some 40) (v := ?_) (a' := ?_) #[true, true, true, true, true, true, true, true, true, false] rfl rfl (by kernel_rfl) (fun _ _ _ h => h) (Or.inl ⟨by rfl, ?_⟩) ?_ ?_
          rotate_left
          · intro w'
            go_simp
            with_reducible rfl
          rotate_left
          · simp only [Act.put, List.setIfInBounds_toArray, List.set_cons_zero, List.set_cons_succ]
            rfl
          refine chain_ [9] _ _ _ _ (⟨_, _, rfl, rfl, rfl⟩) (by kernel_rfl) (by decide) ?_
          go_wp2
          go_meet
          exact ⟨by rw [HM2.out]; first | rfl | (simp; done), F2⟩
      case' rest => obtain ⟨rfl, F⟩ := hcut; clear F2 x0 x1 y0 y1 z0 z1 HM2
      obtain ⟨ad', e1, x0, x1⟩ := (EL _ F.out).at k (by have := HN.out; omega)
      obtain ⟨ae', e2, y0, y1⟩ := (EM _ F.out).at k (by have := HN.out; omega)
      obtain rfl : ad = ad' := Option.some.inj e1
      obtain rfl : ae = ae' := Option.some.inj e2
      rw [HGX.out] at x0 x1 y0 y1
      simp only [] at x0 x1 y0 y1
      clear e1 e2
      have F2 := F
      clear F
      obtain ⟨u0, u1, u2, u3, u4, u5⟩ := box35 (EBV _ F2.out)
      obtain ⟨hb2, hhb2⟩ : ∃ hb2, hb2 = decide ((rn, rg) ∈ lk.take (k + 1)) := ⟨_, rfl⟩
      have HHB := Aside0.mk hhb2
      rw [← hhb2]
      clear hhb2
      have hNm : N ≤ 90000 := HMX.out
      go_upto_region 16 with fail
      clear hNm
      go_cut [58] (fun s wd => s = .bool false ∧ Aside0 (Q wd))
      case first =>
        go_region_held3 (fun w' => w'.cell? ⟨w.heap.size, 0, none⟩ = some (.int .i64 v.f0) ∧ w'.cell? ⟨w.heap.size, 1, none⟩ = some (.int .i64 v.f1) ∧ w'.cell? ⟨w.heap.size, 2, none⟩ = some (.int .i64 v.f2) ∧ w'.cell? ⟨w.heap.size, 3, none⟩ = some (.string v.f3) ∧ w'.cell? ⟨w.heap.size, 4, none⟩ = some (.slice A4 v.f4.length c4) ∧ w'.cell? ⟨w.heap.size, 5, none⟩ = some (.slice A5 v.f5.length c5) ∧ w'.cell? (ad.add (k * 2)) = some (.int .i64 xn) ∧ w'.cell? ⟨(ad.add (k * 2)).block, (ad.add (k * 2)).off + 1, none⟩ = some (.int .i64 xg) ∧ w'.cell? (ae.add (k * 2)) = some (.int .i64 xn) ∧ w'.cell? ⟨(ae.add (k * 2)).block, (ae.add (k * 2)).off + 1, none⟩ = some (.int .i64 xg))
    (first
      | go_keep
      | (go_split_ands
         refine ⟨?_, ?_, ?_, ?_, ?_, ?_, ?_, ?_, ?_, ?_⟩ <;> exact (hb_.cell (World.block_lt_of_cell? _ _ (by assumption))).trans (by assumption)))
    ((first
      | (go_at_call 70; (with_reducible refine Calls.mono (KX.out _ ?_) ?_); (· exact EV _ (by (with_reducible repeat (first | apply Stays.alloc hS | apply Stays.drewN hS | apply Stays.drew hS)); exact F2.out)); rintro e wk ⟨rfl, hb_⟩; replace F2 := Aside0.mk (hS _ _ (by (with_reducible repeat (first | apply Stays.alloc hS | apply Stays.drewN hS | apply Stays.drew hS)); exact F2.out) hb_))))
        all_goals
          go_wp2
          go_meet
          exact ⟨rfl, ⟨F2.out⟩⟩
      case' rest => obtain ⟨rfl, F⟩ := hcut; clear F2 x0 x1 y0 y1 u0 u1 u2 u3 u4 u5
      go_wp2
      exact ⟨⟨k + 1, by omega, by first | (rw [HWK.out]; simp; done) | (simp; done), by rw [HHB.out], F⟩, by first | (rw [HWK.out]; simp [intOf]; omega) | (simp [intOf]; omega)⟩
    · obtain rfl : N = k := by omega
      have KR := KH.out rn rg wr (EV _ F2.out)
      have hT : lk.take N = lk := List.take_of_length_le (by have := HN.out; omega)
      rw [hT]
      clear hT hlt
      generalize decide ((rn, rg) ∈ lk) = hb at *
      obtain ⟨u0, u1, u2, u3, u4, u5⟩ := box35 (EBV _ F2.out)
      obtain ⟨z0, z1⟩ := box2 (EBR _ F2.out)
      go_wp2_with fail
      refine Calls.mono KR ?_
      rintro e w9 ⟨rfl, hb9⟩
      have HE := Aside0.mk ((EB _ F2.out).trans (hb9.mono (EB _ F2.out).size))
      clear hb9 KR
      go_wp2
      go_ret
      exact ⟨rfl, HE.out⟩
end Go.Proofs.Ytogpnkkoablmiaa.V
end
