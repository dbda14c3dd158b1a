/- Parts of the proof: what the theorem reaches, put together by a program of this session. -/
import Derived.ArgAppend
import Derived.Below
import Derived.BigGuardPart
import Derived.BigQuiet
import Derived.BigRegion
import Derived.Deep.AppendLies
import Derived.Deep.CutBlock
import Derived.Deep.DeepCutAuto
import Derived.Deep.Draws
import Derived.Deep.LoopGhost
import Derived.Deep.OwnRows
import Derived.Deep.QuietTactic
import Derived.Deep.RegionHeld3
import Derived.Deep.RegionLaw
import Derived.KernelRfl
import Derived.Laws.BitsLemmas
import Derived.Laws.BytesArg
import Derived.Laws.EntriesVeiled
import Derived.Laws.IdiomCopy
import Derived.Laws.MakeOwn
import Derived.Laws.OwnMore
import Derived.Laws.Rows
import Derived.Laws.Slices
import Derived.Laws.StructEq
import Derived.Lib.AppendIntMem
import Derived.Lib.AppendStr
import Derived.Lib.Bytealg
import Derived.Lib.ConvBytes
import Derived.Lib.Hide
import Derived.Lib.OwnBridge
import Derived.Lib.SliceRun
import Derived.LoopIn
import Derived.LoopNIn
import Derived.Maps.AppendAt
import Derived.Maps.OwnOps
import Derived.Maps.Views
import Derived.OrdersHeld
import Derived.Outline
import Derived.OwnWalk
import Derived.OwnWalkIn
import Derived.RangeFuncBound
import Derived.RangeFuncBox
import Derived.RangeFuncCalls
import Derived.RangeFuncFrom
import Derived.RangeFuncKeeps
import Derived.RangeFuncLeaves
import Derived.RangeFuncNested
import Derived.RowKit
import Derived.RowKit3
import Derived.Shelf.Abstract
import Derived.Shelf.RegionOpen
import Derived.Shelf.SlSortCmp.KitK
import Derived.Shelf.Spec.SlicesInsertGrow
import Derived.Sort.LotA
import Derived.Sort.WalkB12
import Derived.Sort.WalkB2
import Derived.Tactics
import Derived.TacticsInMore
import Derived.Test.YtogpnkkoablmiaaProg
import Derived.WalkKit
import Derived.WalkLawsBesides
import Derived.WideLaws
import Derived.Test.YtogpnkkoablmiaaBX1
import Derived.Test.YtogpnkkoablmiaaBX2
import Derived.Test.YtogpnkkoablmiaaBX3
import Derived.Test.YtogpnkkoablmiaaBX4
import Derived.Test.YtogpnkkoablmiaaBX5
import Derived.Test.YtogpnkkoablmiaaBX6
import Derived.Test.YtogpnkkoablmiaaBX8
import Derived.Test.YtogpnkkoablmiaaBX9
import Derived.Test.YtogpnkkoablmiaaBX10
import Derived.Test.YtogpnkkoablmiaaBX11
import Derived.Test.YtogpnkkoablmiaaBX12
import Derived.Test.YtogpnkkoablmiaaBX13
import Derived.Test.YtogpnkkoablmiaaBX14
import Derived.Test.YtogpnkkoablmiaaBX15
import Derived.Test.YtogpnkkoablmiaaBX16
import Derived.Test.YtogpnkkoablmiaaBX17
import Derived.Test.YtogpnkkoablmiaaBX18
import Derived.Test.YtogpnkkoablmiaaBX19
import Derived.Test.YtogpnkkoablmiaaBX20
section
namespace Go.Proofs.Ytogpnkkoablmiaa.V
open Go.Shelf Go.RowKit Go.Lib Go.Sort Go.Proofs.Ytogpnkkoablmiaa.Q Go.Proofs.YtogpnkkoablmiaaW.PrintWords Go.Proofs.YtogpnkkoablmiaaW.PrintLast Go.Proofs.YtogpnkkoablmiaaW.PrintMore
set_option linter.unusedVariables false
set_option linter.unusedSimpArgs false
def exD : List S89 := [⟨⟨#[66]⟩, ⟨2, 1, 0, ⟨#[]⟩, [], []⟩⟩, ⟨⟨#[65]⟩, ⟨0, 0, 0, ⟨#[]⟩, [], []⟩⟩, ⟨⟨#[66]⟩, ⟨2, 2, 0, ⟨#[]⟩, [], []⟩⟩]
def exP : List S89 := [⟨⟨#[66]⟩, ⟨2, 1, 0, ⟨#[]⟩, [], []⟩⟩]
def exW : List S89 := [⟨⟨#[66]⟩, ⟨2, 1, 0, ⟨#[]⟩, [], []⟩⟩, ⟨⟨#[67]⟩, ⟨7, 3, 1, ⟨#[]⟩, [], []⟩⟩]
theorem ex_plain : plain ⟨6, 0, 0, ⟨#[]⟩, [], exD⟩ = ⟨6, 0, 0, ⟨#[]⟩, [], exP⟩ := by kernel_rfl
theorem ex_plainP : plain ⟨6, 0, 0, ⟨#[]⟩, [], exP⟩ = ⟨6, 0, 0, ⟨#[]⟩, [], exP⟩ := by kernel_rfl
theorem ex_with : withD ⟨6, 0, 0, ⟨#[]⟩, [], exD⟩ ⟨#[67]⟩ ⟨7, 3, 1, ⟨#[]⟩, [], []⟩ = exW := by kernel_rfl
theorem ex_get : getV ⟨6, 0, 0, ⟨#[]⟩, [], exW⟩ ⟨#[67]⟩ = ⟨7, 3, 1, ⟨#[]⟩, [], []⟩ := by kernel_rfl
theorem ex_has : hasK (plain ⟨6, 0, 0, ⟨#[]⟩, [], exW⟩).f5 ⟨#[67]⟩ = true := by kernel_rfl
theorem ex_h1 : holdsV ⟨6, 0, 0, ⟨#[]⟩, [], exW⟩ 3 1 = true := by kernel_rfl
theorem ex_h0 : holdsV ⟨6, 0, 0, ⟨#[]⟩, [], exW⟩ 3 0 = false := by kernel_rfl
theorem ex_c1 : chkV ⟨6, 0, 0, ⟨#[]⟩, [], exD⟩ false 0 = 11 := by kernel_rfl
theorem ex_c2 : chkV ⟨6, 0, 0, ⟨#[]⟩, [], exW⟩ false 0 = 0 := by kernel_rfl
theorem ex_c3 : chkV ⟨8, 0, 0, ⟨#[]⟩, [], []⟩ false 0 = 10 := by kernel_rfl
theorem ex_dep : value_Depth.f 20 6 0 0 ⟨#[]⟩ [] exD = some 1 := by kernel_rfl
theorem ex_siz : value_Size.f 20 6 0 0 ⟨#[]⟩ [] exD = some 4 := by kernel_rfl
theorem ex_fewD : fewV ⟨6, 0, 0, ⟨#[]⟩, [], exD⟩ := by simp [exD, fewV, fewL, fewD, fewP]
theorem ex_fewP : fewV ⟨6, 0, 0, ⟨#[]⟩, [], exP⟩ := by simp [exP, fewV, fewL, fewD, fewP]
theorem ex_fewW : fewV ⟨6, 0, 0, ⟨#[]⟩, [], exW⟩ := by simp [exW, fewV, fewL, fewD, fewP]
theorem ex_fewL : fewV ⟨7, 3, 1, ⟨#[]⟩, [], []⟩ := by simp [fewV, fewL, fewD]
theorem C35_nil (w : World) (A : Option Addr) : k35.C w A ([] : List S35).length [] := ⟨rfl, by simp, fun h => absurd h (by simp)⟩
theorem C89_nil (w : World) (A : Option Addr) : k89.C w A ([] : List S89).length [] := ⟨rfl, by simp, fun h => absurd h (by simp)⟩
theorem C_lit3 (W : World) (e : TypeId) : k89.C (W.alloc (.cells #[.string ⟨#[66]⟩, .int .i64 2, .int .i64 1, .int .i64 0, .string ⟨#[]⟩, .slice none 0 0, .slice none 0 0, .string ⟨#[65]⟩, .int .i64 0, .int .i64 0, .int .i64 0, .string ⟨#[]⟩, .slice none 0 0, .slice none 0 0, .string ⟨#[66]⟩, .int .i64 2, .int .i64 2, .int .i64 0, .string ⟨#[]⟩, .slice none 0 0, .slice none 0 0] e)) (some ⟨W.heap.size, 0, none⟩) 3 exD := by
  refine ⟨rfl, by simp [exD], fun _ => ⟨_, rfl, fun j p hj => ?_⟩⟩
  have hc : ∀ o u, #[.string ⟨#[66]⟩, .int .i64 2, .int .i64 1, .int .i64 0, .string ⟨#[]⟩, .slice none 0 0, .slice none 0 0, .string ⟨#[65]⟩, .int .i64 0, .int .i64 0, .int .i64 0, .string ⟨#[]⟩, .slice none 0 0, .slice none 0 0, .string ⟨#[66]⟩, .int .i64 2, .int .i64 2, .int .i64 0, .string ⟨#[]⟩, .slice none 0 0, .slice none 0 0][o]? = some u → (W.alloc (.cells #[.string ⟨#[66]⟩, .int .i64 2, .int .i64 1, .int .i64 0, .string ⟨#[]⟩, .slice none 0 0, .slice none 0 0, .string ⟨#[65]⟩, .int .i64 0, .int .i64 0, .int .i64 0, .string ⟨#[]⟩, .slice none 0 0, .slice none 0 0, .string ⟨#[66]⟩, .int .i64 2, .int .i64 2, .int .i64 0, .string ⟨#[]⟩, .slice none 0 0, .slice none 0 0] e)).cell? ⟨W.heap.size, o, none⟩ = some u := fun o u h => by rw [World.cell?_alloc_new]; exact h
  match j, hj with
  | 0, hj =>
    obtain rfl : _ = p := Option.some.inj hj
    refine ⟨_, rfl, k89_mk _ _ (c5 := 0) (Nat.le_refl _) (C35_nil _ none) (c6 := 0) (Nat.le_refl _) (C89_nil _ none), fun i u hi => ?_⟩
    rw [Addr.add_lit]
    match i, hi with
    | 0, hi => exact hc 0 u hi
    | 1, hi => exact hc 1 u hi
    | 2, hi => exact hc 2 u hi
    | 3, hi => exact hc 3 u hi
    | 4, hi => exact hc 4 u hi
    | 5, hi => exact hc 5 u hi
    | 6, hi => exact hc 6 u hi
  | 1, hj =>
    obtain rfl : _ = p := Option.some.inj hj
    refine ⟨_, rfl, k89_mk _ _ (c5 := 0) (Nat.le_refl _) (C35_nil _ none) (c6 := 0) (Nat.le_refl _) (C89_nil _ none), fun i u hi => ?_⟩
    rw [Addr.add_lit]
    match i, hi with
    | 0, hi => exact hc 7 u hi
    | 1, hi => exact hc 8 u hi
    | 2, hi => exact hc 9 u hi
    | 3, hi => exact hc 10 u hi
    | 4, hi => exact hc 11 u hi
    | 5, hi => exact hc 12 u hi
    | 6, hi => exact hc 13 u hi
  | 2, hj =>
    obtain rfl : _ = p := Option.some.inj hj
    refine ⟨_, rfl, k89_mk _ _ (c5 := 0) (Nat.le_refl _) (C35_nil _ none) (c6 := 0) (Nat.le_refl _) (C89_nil _ none), fun i u hi => ?_⟩
    rw [Addr.add_lit]
    match i, hi with
    | 0, hi => exact hc 14 u hi
    | 1, hi => exact hc 15 u hi
    | 2, hi => exact hc 16 u hi
    | 3, hi => exact hc 17 u hi
    | 4, hi => exact hc 18 u hi
    | 5, hi => exact hc 19 u hi
    | 6, hi => exact hc 20 u hi
theorem C_lit1 (W : World) (e : TypeId) : k89.C (W.alloc (.cells #[.string ⟨#[66]⟩, .int .i64 2, .int .i64 1, .int .i64 0, .string ⟨#[]⟩, .slice none 0 0, .slice none 0 0] e)) (some ⟨W.heap.size, 0, none⟩) 1 exP := by
  refine ⟨rfl, by simp [exP], fun _ => ⟨_, rfl, fun j p hj => ?_⟩⟩
  have hc : ∀ o u, #[.string ⟨#[66]⟩, .int .i64 2, .int .i64 1, .int .i64 0, .string ⟨#[]⟩, .slice none 0 0, .slice none 0 0][o]? = some u → (W.alloc (.cells #[.string ⟨#[66]⟩, .int .i64 2, .int .i64 1, .int .i64 0, .string ⟨#[]⟩, .slice none 0 0, .slice none 0 0] e)).cell? ⟨W.heap.size, o, none⟩ = some u := fun o u h => by rw [World.cell?_alloc_new]; exact h
  match j, hj with
  | 0, hj =>
    obtain rfl : _ = p := Option.some.inj hj
    refine ⟨_, rfl, k89_mk _ _ (c5 := 0) (Nat.le_refl _) (C35_nil _ none) (c6 := 0) (Nat.le_refl _) (C89_nil _ none), fun i u hi => ?_⟩
    rw [Addr.add_lit]
    match i, hi with
    | 0, hi => exact hc 0 u hi
    | 1, hi => exact hc 1 u hi
    | 2, hi => exact hc 2 u hi
    | 3, hi => exact hc 3 u hi
    | 4, hi => exact hc 4 u hi
    | 5, hi => exact hc 5 u hi
    | 6, hi => exact hc 6 u hi
theorem vcheck_calls (v : S35) (A4 : Option Addr) (c4 : Nat) (A5 : Option Addr) (c5 : Nat) (stream : Bool) (w : World) (la4 : v.f4.length ≤ c4) (ra4 : k35.C w A4 v.f4.length v.f4) (la5 : v.f5.length ≤ c5) (ra5 : k89.C w A5 v.f5.length v.f5) :
    Calls Try.prog 52 #[.agg #[.int .i64 v.f0, .int .i64 v.f1, .int .i64 v.f2, .string v.f3, .slice A4 v.f4.length c4, .slice A5 v.f5.length c5], .bool stream] w fun e w' => e = .returned (.int .i64 (chkV v stream 0)) ∧ RowKit.Below w.heap.size w w' := by
  have hu35 := Try.underlying35
  have H := Aside0.mk (check_all v A4 c4 A5 c5 stream 0 (w.alloc (.cells #[.int .i64 v.f0, .int .i64 v.f1, .int .i64 v.f2, .string v.f3, .slice A4 v.f4.length c4, .slice A5 v.f5.length c5] 35)) (by omega) (by omega) la4 (Kd.C_alloc ra4 _) la5 (Kd.C_alloc ra5 _))
  have HB := Aside0.mk (below_alloc (RowKit.Below.refl w.heap.size w) (.cells #[.int .i64 v.f0, .int .i64 v.f1, .int .i64 v.f2, .string v.f3, .slice A4 v.f4.length c4, .slice A5 v.f5.length c5] 35))
  clear ra4 ra5
  go_enter Try.func52, Try.ntmps52
  go_wp2_with fail
  refine Calls.mono H.out ?_
  rintro e w1 ⟨rfl, hb⟩
  have HB2 := Aside0.mk (below_step HB.out hb)
  clear hb HB H
  go_wp2
  go_ret
  exact ⟨rfl, HB2.out⟩
def VF (w : World) (gD : Addr) (a5 : Option Addr) (W : World) : Prop := k89.C W (some gD) 3 exD ∧ k89.C W a5 2 exW ∧ RowKit.Below w.heap.size w W
theorem VF.below {w : World} {gD : Addr} {a5 : Option Addr} {W W' : World} (h : VF w gD a5 W) (hb : RowKit.Below W.heap.size W W') : VF w gD a5 W' :=
  ⟨Kd.C_below h.1 hb, Kd.C_below h.2.1 hb, h.2.2.trans (hb.mono h.2.2.size)⟩
theorem VF.alloc {w : World} {gD : Addr} {a5 : Option Addr} {W : World} (h : VF w gD a5 W) (o : Obj) : VF w gD a5 (W.alloc o) := h.below (below_alloc (RowKit.Below.refl _ W) o)
theorem VF.drew {w : World} {gD : Addr} {a5 : Option Addr} {W : World} (h : VF w gD a5 W) : VF w gD a5 W.drew := h.below (RowKit.Below.refl _ W).drew
theorem VF.drewN {w : World} {gD : Addr} {a5 : Option Addr} {W : World} (h : VF w gD a5 W) (n : Nat) : VF w gD a5 (W.drewN n) := h.below (pw_below_drewN (RowKit.Below.refl _ W) n)
theorem VF.c1 {w : World} {gD : Addr} {a5 : Option Addr} {W : World} (h : VF w gD a5 W) : k89.C W (some gD) 3 exD := h.1
theorem VF.c2 {w : World} {gD : Addr} {a5 : Option Addr} {W : World} (h : VF w gD a5 W) : k89.C W a5 2 exW := h.2.1
def BB (e : Ending) (w w' : World) (v : Value) : Prop := e = .returned v ∧ RowKit.Below w.heap.size w w'
theorem KPl (W : World) (gD : Addr) (h : k89.C W (some gD) 3 exD) : Calls Try.prog 59 #[.agg #[.int .i64 6, .int .i64 0, .int .i64 0, .string ⟨#[]⟩, .slice none 0 0, .slice (some gD) 3 3]] W fun e w' => ∃ p4 q4 p5 q5, e = .returned (.agg #[.int .i64 6, .int .i64 0, .int .i64 0, .string ⟨#[]⟩, .slice p4 0 q4, .slice p5 1 q5]) ∧ 1 ≤ q5 ∧ k89.C w' p5 1 exP ∧ RowKit.Below W.heap.size W w' := by
  refine (plain59_all ⟨6, 0, 0, ⟨#[]⟩, [], exD⟩ none 0 (some gD) 3 W ex_fewD (Nat.le_refl _) (C35_nil _ _) (Nat.le_refl _) h).mono ?_
  rintro e w' ⟨v4, v5, rfl, r4, r5, hb⟩
  rw [ex_plain] at r4 r5 ⊢
  obtain ⟨a, c, rfl, -, -⟩ := Kd.R_reads r4
  obtain ⟨a', c', rfl, h1, h2⟩ := Kd.R_reads r5
  exact ⟨a, c, a', c', rfl, h1, h2, hb⟩
theorem KEq (W : World) (p4 : Option Addr) (q4 : Nat) (p5 : Option Addr) (q5 : Nat) (r5 : Option Addr) (m5 : Nat) (h1 : 1 ≤ q5) (h2 : k89.C W p5 1 exP) (h3 : 1 ≤ m5) (h4 : k89.C W r5 1 exP) : Calls Try.prog 58 #[.agg #[.int .i64 6, .int .i64 0, .int .i64 0, .string ⟨#[]⟩, .slice p4 0 q4, .slice p5 1 q5], .agg #[.int .i64 6, .int .i64 0, .int .i64 0, .string ⟨#[]⟩, .slice none 0 0, .slice r5 1 m5]] W fun e w' => e = .returned (.bool true) ∧ RowKit.Below W.heap.size W w' := by
  refine (equal_all ⟨6, 0, 0, ⟨#[]⟩, [], exP⟩ ⟨6, 0, 0, ⟨#[]⟩, [], exP⟩ p4 q4 p5 q5 none 0 r5 m5 W (Nat.zero_le _) (C35_nil _ _) h1 h2 (Nat.le_refl _) (C35_nil _ _) h3 h4).mono ?_
  rintro e w' ⟨he, hb⟩
  rw [eqB_true rfl] at he
  exact ⟨he, hb⟩
theorem KEl (W : World) (b4 : Option Addr) (d4 : Nat) (b5 : Option Addr) (d5 : Nat) : Calls Try.prog 58 #[.agg #[.int .i64 7, .int .i64 3, .int .i64 1, .string ⟨#[]⟩, .slice b4 0 d4, .slice b5 0 d5], .agg #[.int .i64 7, .int .i64 3, .int .i64 1, .string ⟨#[]⟩, .slice none 0 0, .slice none 0 0]] W fun e w' => e = .returned (.bool true) ∧ RowKit.Below W.heap.size W w' := by
  refine (equal_all ⟨7, 3, 1, ⟨#[]⟩, [], []⟩ ⟨7, 3, 1, ⟨#[]⟩, [], []⟩ b4 d4 b5 d5 none 0 none 0 W (Nat.zero_le _) (C35_nil _ _) (Nat.zero_le _) (C89_nil _ _) (Nat.le_refl _) (C35_nil _ _) (Nat.le_refl _) (C89_nil _ _)).mono ?_
  rintro e w' ⟨he, hb⟩
  rw [eqB_true rfl] at he
  exact ⟨he, hb⟩
theorem KH1 (W : World) (a4 : Option Addr) (n4 : Nat) (a5 : Option Addr) (n5 : Nat) (h1 : 2 ≤ n5) (h2 : k89.C W a5 2 exW) : Calls Try.prog 70 #[.agg #[.int .i64 6, .int .i64 0, .int .i64 0, .string ⟨#[]⟩, .slice a4 0 n4, .slice a5 2 n5], .agg #[.int .i64 3, .int .i64 1]] W fun e w' => e = .returned (.bool true) ∧ RowKit.Below W.heap.size W w' := by
  refine (Holds_calls ⟨6, 0, 0, ⟨#[]⟩, [], exW⟩ a4 n4 a5 n5 3 1 W ex_fewW (Nat.zero_le _) (C35_nil _ _) h1 h2).mono ?_
  rintro e w' ⟨he, hb⟩
  rw [ex_h1] at he
  exact ⟨he, hb⟩
theorem KH0 (W : World) (a4 : Option Addr) (n4 : Nat) (a5 : Option Addr) (n5 : Nat) (h1 : 2 ≤ n5) (h2 : k89.C W a5 2 exW) : Calls Try.prog 70 #[.agg #[.int .i64 6, .int .i64 0, .int .i64 0, .string ⟨#[]⟩, .slice a4 0 n4, .slice a5 2 n5], .agg #[.int .i64 3, .int .i64 0]] W fun e w' => e = .returned (.bool false) ∧ RowKit.Below W.heap.size W w' := by
  refine (Holds_calls ⟨6, 0, 0, ⟨#[]⟩, [], exW⟩ a4 n4 a5 n5 3 0 W ex_fewW (Nat.zero_le _) (C35_nil _ _) h1 h2).mono ?_
  rintro e w' ⟨he, hb⟩
  rw [ex_h0] at he
  exact ⟨he, hb⟩
theorem KC1 (W : World) (gD : Addr) (h : k89.C W (some gD) 3 exD) : Calls Try.prog 52 #[.agg #[.int .i64 6, .int .i64 0, .int .i64 0, .string ⟨#[]⟩, .slice none 0 0, .slice (some gD) 3 3], .bool false] W fun e w' => e = .returned (.int .i64 11) ∧ RowKit.Below W.heap.size W w' := by
  refine (vcheck_calls ⟨6, 0, 0, ⟨#[]⟩, [], exD⟩ none 0 (some gD) 3 false W (Nat.le_refl _) (C35_nil _ _) (Nat.le_refl _) h).mono ?_
  rintro e w' ⟨he, hb⟩
  rw [ex_c1] at he
  exact ⟨he, hb⟩
theorem KC2 (W : World) (a4 : Option Addr) (n4 : Nat) (a5 : Option Addr) (n5 : Nat) (h1 : 2 ≤ n5) (h2 : k89.C W a5 2 exW) : Calls Try.prog 52 #[.agg #[.int .i64 6, .int .i64 0, .int .i64 0, .string ⟨#[]⟩, .slice a4 0 n4, .slice a5 2 n5], .bool false] W fun e w' => e = .returned (.int .i64 0) ∧ RowKit.Below W.heap.size W w' := by
  refine (vcheck_calls ⟨6, 0, 0, ⟨#[]⟩, [], exW⟩ a4 n4 a5 n5 false W (Nat.zero_le _) (C35_nil _ _) h1 h2).mono ?_
  rintro e w' ⟨he, hb⟩
  rw [ex_c2] at he
  exact ⟨he, hb⟩
theorem KC3 (W : World) : Calls Try.prog 52 #[.agg #[.int .i64 8, .int .i64 0, .int .i64 0, .string ⟨#[]⟩, .slice none 0 0, .slice none 0 0], .bool false] W fun e w' => e = .returned (.int .i64 10) ∧ RowKit.Below W.heap.size W w' := by
  refine (vcheck_calls ⟨8, 0, 0, ⟨#[]⟩, [], []⟩ none 0 none 0 false W (Nat.le_refl _) (C35_nil _ _) (Nat.le_refl _) (C89_nil _ _)).mono ?_
  rintro e w' ⟨he, hb⟩
  rw [ex_c3] at he
  exact ⟨he, hb⟩
theorem KDe (W : World) (gD : Addr) (h : k89.C W (some gD) 3 exD) : Calls Try.prog 54 #[.agg #[.int .i64 6, .int .i64 0, .int .i64 0, .string ⟨#[]⟩, .slice none 0 0, .slice (some gD) 3 3]] W fun e w' => e = .returned (.int .i64 1) ∧ RowKit.Below W.heap.size W w' :=
  value_Depth.calls 20 6 0 0 ⟨#[]⟩ none 0 [] (some gD) 3 exD 1 W (C35_nil _ _) (Nat.le_refl _) h (Nat.le_refl _) ex_dep
theorem KSi (W : World) (gD : Addr) (h : k89.C W (some gD) 3 exD) : Calls Try.prog 56 #[.agg #[.int .i64 6, .int .i64 0, .int .i64 0, .string ⟨#[]⟩, .slice none 0 0, .slice (some gD) 3 3]] W fun e w' => e = .returned (.int .i64 4) ∧ RowKit.Below W.heap.size W w' :=
  value_Size.calls 20 6 0 0 ⟨#[]⟩ none 0 [] (some gD) 3 exD 4 W (C35_nil _ _) (Nat.le_refl _) h (Nat.le_refl _) ex_siz
theorem KSa (W : World) (gD : Addr) (h : k89.C W (some gD) 3 exD) (p4 : Option Addr) (q4 : Nat) (p5 : Option Addr) (q5 : Nat) (h1 : 1 ≤ q5) (h2 : k89.C W p5 1 exP) : Calls Try.prog 61 #[.agg #[.int .i64 6, .int .i64 0, .int .i64 0, .string ⟨#[]⟩, .slice none 0 0, .slice (some gD) 3 3], .agg #[.int .i64 6, .int .i64 0, .int .i64 0, .string ⟨#[]⟩, .slice p4 0 q4, .slice p5 1 q5]] W fun e w' => e = .returned (.bool true) ∧ RowKit.Below W.heap.size W w' := by
  refine (same_calls ⟨6, 0, 0, ⟨#[]⟩, [], exD⟩ ⟨6, 0, 0, ⟨#[]⟩, [], exP⟩ none 0 (some gD) 3 p4 q4 p5 q5 W ex_fewD ex_fewP (Nat.le_refl _) (C35_nil _ _) (Nat.le_refl _) h (Nat.zero_le _) (C35_nil _ _) h1 h2).mono ?_
  rintro e w' ⟨he, hb⟩
  rw [ex_plain, ex_plainP, eqB_true rfl] at he
  exact ⟨he, hb⟩
theorem KGe (W : World) (a4 : Option Addr) (n4 : Nat) (a5 : Option Addr) (n5 : Nat) (h1 : 2 ≤ n5) (h2 : k89.C W a5 2 exW) : Calls Try.prog 63 #[.agg #[.int .i64 6, .int .i64 0, .int .i64 0, .string ⟨#[]⟩, .slice a4 0 n4, .slice a5 2 n5], .string ⟨#[67]⟩] W fun e w' => ∃ b4 d4 b5 d5, e = .returned (.tuple #[.agg #[.int .i64 7, .int .i64 3, .int .i64 1, .string ⟨#[]⟩, .slice b4 0 d4, .slice b5 0 d5], .bool true]) ∧ RowKit.Below W.heap.size W w' := by
  refine (get_calls ⟨6, 0, 0, ⟨#[]⟩, [], exW⟩ ⟨#[67]⟩ a4 n4 a5 n5 W ex_fewW (Nat.zero_le _) (C35_nil _ _) h1 h2).mono ?_
  rintro e w' ⟨v4, v5, rfl, r4, r5, hb⟩
  rw [ex_get] at r4 r5 ⊢
  rw [ex_has]
  obtain ⟨a, c, rfl, -, -⟩ := Kd.R_reads r4
  obtain ⟨a', c', rfl, h1, h2⟩ := Kd.R_reads r5
  exact ⟨a, c, a', c', rfl, hb⟩
theorem KWi (W : World) (gD : Addr) (h : k89.C W (some gD) 3 exD) : Calls Try.prog 65 #[.agg #[.int .i64 6, .int .i64 0, .int .i64 0, .string ⟨#[]⟩, .slice none 0 0, .slice (some gD) 3 3], .string ⟨#[67]⟩, .agg #[.int .i64 7, .int .i64 3, .int .i64 1, .string ⟨#[]⟩, .slice none 0 0, .slice none 0 0]] W fun e w' => ∃ a4 n4 a5 n5, e = .returned (.agg #[.int .i64 6, .int .i64 0, .int .i64 0, .string ⟨#[]⟩, .slice a4 0 n4, .slice a5 2 n5]) ∧ 2 ≤ n5 ∧ k89.C w' a5 2 exW ∧ RowKit.Below W.heap.size W w' := by
  refine (with_calls ⟨6, 0, 0, ⟨#[]⟩, [], exD⟩ ⟨7, 3, 1, ⟨#[]⟩, [], []⟩ ⟨#[67]⟩ none 0 (some gD) 3 none 0 none 0 W ex_fewD ex_fewL (Nat.le_refl _) (C35_nil _ _) (Nat.le_refl _) h (Nat.le_refl _) (C35_nil _ _) (Nat.le_refl _) (C89_nil _ _)).mono ?_
  rintro e w' ⟨a4, n4, a5, n5, rfl, h1, h2, h3, h4, hb⟩
  rw [ex_with] at h3 h4 ⊢
  rw [ex_plain]
  exact ⟨a4, n4, a5, n5, rfl, h3, h4, hb⟩
theorem links_not_nil (b : Addr) (w : World) : (binOp .eql 103 (.func (.func 127) #[] #[.pointer (some b)]) .nilFunc).run Try.prog w = .ok (.bool false) w := by
  have h : ∀ d : Nat, (Op.equalIn (d + 1) 103 (.func (.func 127) #[] #[.pointer (some b)]) .nilFunc).run Try.prog w = .ok false w := fun d => by
    simp [Op.equalIn, run_underlying Try.underlying103]
  simp only [binOp]
  simp [Op.equal, Op.maxDepth, h 9999]
end Go.Proofs.Ytogpnkkoablmiaa.V
end
section
namespace Go.Proofs.Ytogpnkkoablmiaa.V
open Go.Shelf Go.RowKit Go.Lib Go.Sort Go.Proofs.Ytogpnkkoablmiaa.Q Go.Proofs.YtogpnkkoablmiaaW.PrintWords Go.Proofs.YtogpnkkoablmiaaW.PrintLast Go.Proofs.YtogpnkkoablmiaaW.PrintMore
set_option linter.unusedVariables false
set_option linter.unusedSimpArgs false
set_option maxHeartbeats 20000000 in
set_option maxRecDepth 100000 in
theorem values_calls (w : World) : Calls Try.prog 51 #[] w fun e w' => e = .returned (.bool true) ∧ RowKit.Below w.heap.size w w' := by
  have hu35 := Try.underlying35
  have hu33 := Try.underlying33
  have hu28 := Try.underlying28
  have hu89 := Try.underlying89
  have T0 := Aside0.mk True.intro
  go_enter Try.func51, Try.ntmps51
  go_wp2_with fail
  have C4 := Aside0.mk (Kd.C_alloc (Kd.C_alloc (C_lit3 (w.alloc (.cells #[.int .i64 2, .int .i64 1, .int .i64 0, .string ⟨#[]⟩, .slice none 0 0, .slice none 0 0] 35)) 89) (.cells #[.int .i64 6, .int .i64 0, .int .i64 0, .string ⟨#[]⟩, .slice none 0 0, .slice (some ⟨w.heap.size + 1, 0, none⟩) 3 3] 35)) (.cells #[.int .i64 7, .int .i64 3, .int .i64 1, .string ⟨#[]⟩, .slice none 0 0, .slice none 0 0] 35))
  have B1 := Aside0.mk (blk_alloc (blk_alloc (blk_alloc (blk_new w (.cells #[.int .i64 2, .int .i64 1, .int .i64 0, .string ⟨#[]⟩, .slice none 0 0, .slice none 0 0] 35)) (.cells #[.string ⟨#[66]⟩, .int .i64 2, .int .i64 1, .int .i64 0, .string ⟨#[]⟩, .slice none 0 0, .slice none 0 0, .string ⟨#[65]⟩, .int .i64 0, .int .i64 0, .int .i64 0, .string ⟨#[]⟩, .slice none 0 0, .slice none 0 0, .string ⟨#[66]⟩, .int .i64 2, .int .i64 2, .int .i64 0, .string ⟨#[]⟩, .slice none 0 0, .slice none 0 0] 89)) (.cells #[.int .i64 6, .int .i64 0, .int .i64 0, .string ⟨#[]⟩, .slice none 0 0, .slice (some ⟨w.heap.size + 1, 0, none⟩) 3 3] 35)) (.cells #[.int .i64 7, .int .i64 3, .int .i64 1, .string ⟨#[]⟩, .slice none 0 0, .slice none 0 0] 35))
  have B2 := Aside0.mk (blk_alloc (blk_new ((w.alloc (.cells #[.int .i64 2, .int .i64 1, .int .i64 0, .string ⟨#[]⟩, .slice none 0 0, .slice none 0 0] 35)).alloc (.cells #[.string ⟨#[66]⟩, .int .i64 2, .int .i64 1, .int .i64 0, .string ⟨#[]⟩, .slice none 0 0, .slice none 0 0, .string ⟨#[65]⟩, .int .i64 0, .int .i64 0, .int .i64 0, .string ⟨#[]⟩, .slice none 0 0, .slice none 0 0, .string ⟨#[66]⟩, .int .i64 2, .int .i64 2, .int .i64 0, .string ⟨#[]⟩, .slice none 0 0, .slice none 0 0] 89)) (.cells #[.int .i64 6, .int .i64 0, .int .i64 0, .string ⟨#[]⟩, .slice none 0 0, .slice (some ⟨w.heap.size + 1, 0, none⟩) 3 3] 35)) (.cells #[.int .i64 7, .int .i64 3, .int .i64 1, .string ⟨#[]⟩, .slice none 0 0, .slice none 0 0] 35))
  have B3 := Aside0.mk (blk_new (((w.alloc (.cells #[.int .i64 2, .int .i64 1, .int .i64 0, .string ⟨#[]⟩, .slice none 0 0, .slice none 0 0] 35)).alloc (.cells #[.string ⟨#[66]⟩, .int .i64 2, .int .i64 1, .int .i64 0, .string ⟨#[]⟩, .slice none 0 0, .slice none 0 0, .string ⟨#[65]⟩, .int .i64 0, .int .i64 0, .int .i64 0, .string ⟨#[]⟩, .slice none 0 0, .slice none 0 0, .string ⟨#[66]⟩, .int .i64 2, .int .i64 2, .int .i64 0, .string ⟨#[]⟩, .slice none 0 0, .slice none 0 0] 89)).alloc (.cells #[.int .i64 6, .int .i64 0, .int .i64 0, .string ⟨#[]⟩, .slice none 0 0, .slice (some ⟨w.heap.size + 1, 0, none⟩) 3 3] 35)) (.cells #[.int .i64 7, .int .i64 3, .int .i64 1, .string ⟨#[]⟩, .slice none 0 0, .slice none 0 0] 35))
  have HB := Aside0.mk (below_alloc (below_alloc (below_alloc (below_alloc (RowKit.Below.refl w.heap.size w) (.cells #[.int .i64 2, .int .i64 1, .int .i64 0, .string ⟨#[]⟩, .slice none 0 0, .slice none 0 0] 35)) (.cells #[.string ⟨#[66]⟩, .int .i64 2, .int .i64 1, .int .i64 0, .string ⟨#[]⟩, .slice none 0 0, .slice none 0 0, .string ⟨#[65]⟩, .int .i64 0, .int .i64 0, .int .i64 0, .string ⟨#[]⟩, .slice none 0 0, .slice none 0 0, .string ⟨#[66]⟩, .int .i64 2, .int .i64 2, .int .i64 0, .string ⟨#[]⟩, .slice none 0 0, .slice none 0 0] 89)) (.cells #[.int .i64 6, .int .i64 0, .int .i64 0, .string ⟨#[]⟩, .slice none 0 0, .slice (some ⟨w.heap.size + 1, 0, none⟩) 3 3] 35)) (.cells #[.int .i64 7, .int .i64 3, .int .i64 1, .string ⟨#[]⟩, .slice none 0 0, .slice none 0 0] 35))
  simp only [World.size_alloc] at C4 B2 B3
  have hs4 : ((((w.alloc (.cells #[.int .i64 2, .int .i64 1, .int .i64 0, .string ⟨#[]⟩, .slice none 0 0, .slice none 0 0] 35)).alloc (.cells #[.string ⟨#[66]⟩, .int .i64 2, .int .i64 1, .int .i64 0, .string ⟨#[]⟩, .slice none 0 0, .slice none 0 0, .string ⟨#[65]⟩, .int .i64 0, .int .i64 0, .int .i64 0, .string ⟨#[]⟩, .slice none 0 0, .slice none 0 0, .string ⟨#[66]⟩, .int .i64 2, .int .i64 2, .int .i64 0, .string ⟨#[]⟩, .slice none 0 0, .slice none 0 0] 89)).alloc (.cells #[.int .i64 6, .int .i64 0, .int .i64 0, .string ⟨#[]⟩, .slice none 0 0, .slice (some ⟨w.heap.size + 1, 0, none⟩) 3 3] 35)).alloc (.cells #[.int .i64 7, .int .i64 3, .int .i64 1, .string ⟨#[]⟩, .slice none 0 0, .slice none 0 0] 35)).heap.size = w.heap.size + 1 + 1 + 1 + 1 := by simp only [World.size_alloc]
  refine Calls.mono (KWi _ ⟨w.heap.size + 1, 0, none⟩ C4.out) ?_
  rintro e w1 ⟨a4, n4, a5, n5, rfl, hn, hC, hb⟩
  have LW := Aside0.mk hn
  have F := Aside0.mk (show VF w ⟨w.heap.size + 1, 0, none⟩ a5 w1 from ⟨Kd.C_below C4.out hb, hC, HB.out.trans (hb.mono HB.out.size)⟩)
  have D1 := Aside0.mk (blk_below B1.out hb)
  have D2 := Aside0.mk (blk_below B2.out hb)
  have D3 := Aside0.mk (blk_below B3.out hb)
  have hs1 : w.heap.size + 1 + 1 + 1 < w1.heap.size := by have := hb.size; omega
  clear hb hC hn B1 B2 B3 C4 HB hs4
  have hnn := links_not_nil
  go_wp2_with fail
  refine Calls.mono (Links_calls _ _ _ _ _ _ _ _ _ _ _) ?_
  rintro e w1' ⟨rfl, rfl⟩
  go_wp2_with fail
  refine Calls.mono (KGe _ a4 n4 a5 n5 LW.out ((F.out.alloc (.cells #[.int .i64 6, .int .i64 0, .int .i64 0, .string ⟨#[]⟩, .slice a4 0 n4, .slice a5 2 n5] 35)).alloc (.cells #[.int .i64 6, .int .i64 0, .int .i64 0, .string ⟨#[]⟩, .slice a4 0 n4, .slice a5 2 n5] 35)).2.1) ?_
  rintro e w2 ⟨b4, d4, b5, d5, rfl, hb⟩
  replace F := Aside0.mk (((F.out.alloc (.cells #[.int .i64 6, .int .i64 0, .int .i64 0, .string ⟨#[]⟩, .slice a4 0 n4, .slice a5 2 n5] 35)).alloc (.cells #[.int .i64 6, .int .i64 0, .int .i64 0, .string ⟨#[]⟩, .slice a4 0 n4, .slice a5 2 n5] 35)).below hb)
  have E1 := Aside0.mk (blk_below (blk_alloc (blk_alloc D1.out (.cells #[.int .i64 6, .int .i64 0, .int .i64 0, .string ⟨#[]⟩, .slice a4 0 n4, .slice a5 2 n5] 35)) (.cells #[.int .i64 6, .int .i64 0, .int .i64 0, .string ⟨#[]⟩, .slice a4 0 n4, .slice a5 2 n5] 35)) hb)
  have E2 := Aside0.mk (blk_below (blk_alloc (blk_alloc D2.out (.cells #[.int .i64 6, .int .i64 0, .int .i64 0, .string ⟨#[]⟩, .slice a4 0 n4, .slice a5 2 n5] 35)) (.cells #[.int .i64 6, .int .i64 0, .int .i64 0, .string ⟨#[]⟩, .slice a4 0 n4, .slice a5 2 n5] 35)) hb)
  have E3 := Aside0.mk (blk_below (blk_alloc (blk_alloc D3.out (.cells #[.int .i64 6, .int .i64 0, .int .i64 0, .string ⟨#[]⟩, .slice a4 0 n4, .slice a5 2 n5] 35)) (.cells #[.int .i64 6, .int .i64 0, .int .i64 0, .string ⟨#[]⟩, .slice a4 0 n4, .slice a5 2 n5] 35)) hb)
  have E4 := Aside0.mk (blk_below (blk_alloc (blk_new w1 (.cells #[.int .i64 6, .int .i64 0, .int .i64 0, .string ⟨#[]⟩, .slice a4 0 n4, .slice a5 2 n5] 35)) (.cells #[.int .i64 6, .int .i64 0, .int .i64 0, .string ⟨#[]⟩, .slice a4 0 n4, .slice a5 2 n5] 35)) hb)
  have hs2 : w1.heap.size < w2.heap.size := by have h := hb.size; simp only [World.size_alloc] at h; omega
  clear hb D1 D2 D3
  go_upto_region 8 with fail
  replace F := Aside0.mk (F.out.alloc (.cells #[.int .i64 7, .int .i64 3, .int .i64 1, .string ⟨#[]⟩, .slice b4 0 d4, .slice b5 0 d5] 35))
  have G1 := Aside0.mk (blk_alloc E1.out (.cells #[.int .i64 7, .int .i64 3, .int .i64 1, .string ⟨#[]⟩, .slice b4 0 d4, .slice b5 0 d5] 35))
  have G2 := Aside0.mk (blk_alloc E2.out (.cells #[.int .i64 7, .int .i64 3, .int .i64 1, .string ⟨#[]⟩, .slice b4 0 d4, .slice b5 0 d5] 35))
  have G3 := Aside0.mk (blk_alloc E3.out (.cells #[.int .i64 7, .int .i64 3, .int .i64 1, .string ⟨#[]⟩, .slice b4 0 d4, .slice b5 0 d5] 35))
  have G4 := Aside0.mk (blk_alloc E4.out (.cells #[.int .i64 7, .int .i64 3, .int .i64 1, .string ⟨#[]⟩, .slice b4 0 d4, .slice b5 0 d5] 35))
  have G5 := Aside0.mk (blk_new w2 (.cells #[.int .i64 7, .int .i64 3, .int .i64 1, .string ⟨#[]⟩, .slice b4 0 d4, .slice b5 0 d5] 35))
  generalize w2.alloc (.cells #[.int .i64 7, .int .i64 3, .int .i64 1, .string ⟨#[]⟩, .slice b4 0 d4, .slice b5 0 d5] 35) = w4 at *
  clear E1 E2 E3 E4
  obtain ⟨u0, u1, u2, u3, u4, u5⟩ := box35 G1.out
  obtain ⟨v0, v1, v2, v3, v4, v5⟩ := box35 G2.out
  obtain ⟨x0, x1, x2, x3, x4, x5⟩ := box35 G3.out
  obtain ⟨y0, y1, y2, y3, y4, y5⟩ := box35 G4.out
  obtain ⟨z0, z1, z2, z3, z4, z5⟩ := box35 G5.out
  go_region_held3 (fun w' => w'.cell? ⟨w.heap.size, 0, none⟩ = some (.int .i64 2) ∧ w'.cell? ⟨w.heap.size, 1, none⟩ = some (.int .i64 1) ∧ w'.cell? ⟨w.heap.size, 2, none⟩ = some (.int .i64 0) ∧ w'.cell? ⟨w.heap.size, 3, none⟩ = some (.string ⟨#[]⟩) ∧ w'.cell? ⟨w.heap.size, 4, none⟩ = some (.slice none 0 0) ∧ w'.cell? ⟨w.heap.size, 5, none⟩ = some (.slice none 0 0) ∧ w'.cell? ⟨w.heap.size + 1 + 1, 0, none⟩ = some (.int .i64 6) ∧ w'.cell? ⟨w.heap.size + 1 + 1, 1, none⟩ = some (.int .i64 0) ∧ w'.cell? ⟨w.heap.size + 1 + 1, 2, none⟩ = some (.int .i64 0) ∧ w'.cell? ⟨w.heap.size + 1 + 1, 3, none⟩ = some (.string ⟨#[]⟩) ∧ w'.cell? ⟨w.heap.size + 1 + 1, 4, none⟩ = some (.slice none 0 0) ∧ w'.cell? ⟨w.heap.size + 1 + 1, 5, none⟩ = some (.slice (some ⟨w.heap.size + 1, 0, none⟩) 3 3) ∧ w'.cell? ⟨w.heap.size + 1 + 1 + 1, 0, none⟩ = some (.int .i64 7) ∧ w'.cell? ⟨w.heap.size + 1 + 1 + 1, 1, none⟩ = some (.int .i64 3) ∧ w'.cell? ⟨w.heap.size + 1 + 1 + 1, 2, none⟩ = some (.int .i64 1) ∧ w'.cell? ⟨w.heap.size + 1 + 1 + 1, 3, none⟩ = some (.string ⟨#[]⟩) ∧ w'.cell? ⟨w.heap.size + 1 + 1 + 1, 4, none⟩ = some (.slice none 0 0) ∧ w'.cell? ⟨w.heap.size + 1 + 1 + 1, 5, none⟩ = some (.slice none 0 0) ∧ w'.cell? ⟨w1.heap.size, 0, none⟩ = some (.int .i64 6) ∧ w'.cell? ⟨w1.heap.size, 1, none⟩ = some (.int .i64 0) ∧ w'.cell? ⟨w1.heap.size, 2, none⟩ = some (.int .i64 0) ∧ w'.cell? ⟨w1.heap.size, 3, none⟩ = some (.string ⟨#[]⟩) ∧ w'.cell? ⟨w1.heap.size, 4, none⟩ = some (.slice a4 0 n4) ∧ w'.cell? ⟨w1.heap.size, 5, none⟩ = some (.slice a5 2 n5) ∧ w'.cell? ⟨w2.heap.size, 0, none⟩ = some (.int .i64 7) ∧ w'.cell? ⟨w2.heap.size, 1, none⟩ = some (.int .i64 3) ∧ w'.cell? ⟨w2.heap.size, 2, none⟩ = some (.int .i64 1) ∧ w'.cell? ⟨w2.heap.size, 3, none⟩ = some (.string ⟨#[]⟩) ∧ w'.cell? ⟨w2.heap.size, 4, none⟩ = some (.slice b4 0 d4) ∧ w'.cell? ⟨w2.heap.size, 5, none⟩ = some (.slice b5 0 d5))
    (first
      | go_keep
      | (go_split_ands
         refine ⟨?_, ?_, ?_, ?_, ?_, ?_, ?_, ?_, ?_, ?_, ?_, ?_, ?_, ?_, ?_, ?_, ?_, ?_, ?_, ?_, ?_, ?_, ?_, ?_, ?_, ?_, ?_, ?_, ?_, ?_⟩ <;> exact (hb_.cell (World.block_lt_of_cell? _ _ (by assumption))).trans (by assumption)))
    ((first
      | (go_at_call 61; (with_reducible refine Calls.mono (KSa _ ⟨w.heap.size + 1, 0, none⟩ ?_ _ _ _ _ ?_ ?_) ?_); (· (exact VF.c1 (w := w) (a5 := a5) (by (with_reducible repeat (first | apply VF.alloc | apply VF.drewN | apply VF.drew)); exact F.out))); (· (exact Q2.out)); (· ((with_reducible repeat (first | apply Kd.C_alloc | apply Kd.C_drewN | apply Kd.C_drew)); exact P2.out)); rintro e wk ⟨rfl, hb_⟩; replace F := Aside0.mk (VF.below (by (with_reducible repeat (first | apply VF.alloc | apply VF.drewN | apply VF.drew)); exact F.out) hb_))
      | (go_at_call 59; have T9 := T8; clear T9; (with_reducible refine Calls.mono (KPl _ ⟨w.heap.size + 1, 0, none⟩ ?_) ?_); (· (exact VF.c1 (w := w) (a5 := a5) (by (with_reducible repeat (first | apply VF.alloc | apply VF.drewN | apply VF.drew)); exact F.out))); rintro e wk ⟨p4', q4', p5', q5', rfl, hq_, hp_, hb_⟩; replace F := Aside0.mk (VF.below (by (with_reducible repeat (first | apply VF.alloc | apply VF.drewN | apply VF.drew)); exact F.out) hb_); have Q2 := Aside0.mk hq_; have P2 := Aside0.mk hp_; clear hq_ hp_)
      | (go_at_call 56; (with_reducible refine Calls.mono (KSi _ ⟨w.heap.size + 1, 0, none⟩ ?_) ?_); (· (exact VF.c1 (w := w) (a5 := a5) (by (with_reducible repeat (first | apply VF.alloc | apply VF.drewN | apply VF.drew)); exact F.out))); rintro e wk ⟨rfl, hb_⟩; replace F := Aside0.mk (VF.below (by (with_reducible repeat (first | apply VF.alloc | apply VF.drewN | apply VF.drew)); exact F.out) hb_); have T8 := T0)
      | (go_at_call 54; (with_reducible refine Calls.mono (KDe _ ⟨w.heap.size + 1, 0, none⟩ ?_) ?_); (· (exact VF.c1 (w := w) (a5 := a5) (by (with_reducible repeat (first | apply VF.alloc | apply VF.drewN | apply VF.drew)); exact F.out))); rintro e wk ⟨rfl, hb_⟩; replace F := Aside0.mk (VF.below (by (with_reducible repeat (first | apply VF.alloc | apply VF.drewN | apply VF.drew)); exact F.out) hb_))
      | (go_at_call 52; (with_reducible refine Calls.mono (KC3 _) ?_); rintro e wk ⟨rfl, hb_⟩; replace F := Aside0.mk (VF.below (by (with_reducible repeat (first | apply VF.alloc | apply VF.drewN | apply VF.drew)); exact F.out) hb_))
      | (go_at_call 52; (with_reducible refine Calls.mono (KC2 _ a4 n4 a5 n5 LW.out ?_) ?_); (· (exact VF.c2 (w := w) (gD := ⟨w.heap.size + 1, 0, none⟩) (by (with_reducible repeat (first | apply VF.alloc | apply VF.drewN | apply VF.drew)); exact F.out))); rintro e wk ⟨rfl, hb_⟩; replace F := Aside0.mk (VF.below (by (with_reducible repeat (first | apply VF.alloc | apply VF.drewN | apply VF.drew)); exact F.out) hb_))
      | (go_at_call 52; (with_reducible refine Calls.mono (KC1 _ ⟨w.heap.size + 1, 0, none⟩ ?_) ?_); (· (exact VF.c1 (w := w) (a5 := a5) (by (with_reducible repeat (first | apply VF.alloc | apply VF.drewN | apply VF.drew)); exact F.out))); rintro e wk ⟨rfl, hb_⟩; replace F := Aside0.mk (VF.below (by (with_reducible repeat (first | apply VF.alloc | apply VF.drewN | apply VF.drew)); exact F.out) hb_))
      | (go_at_call 70; (with_reducible refine Calls.mono (KH0 _ a4 n4 a5 n5 LW.out ?_) ?_); (· (exact VF.c2 (w := w) (gD := ⟨w.heap.size + 1, 0, none⟩) (by (with_reducible repeat (first | apply VF.alloc | apply VF.drewN | apply VF.drew)); exact F.out))); rintro e wk ⟨rfl, hb_⟩; replace F := Aside0.mk (VF.below (by (with_reducible repeat (first | apply VF.alloc | apply VF.drewN | apply VF.drew)); exact F.out) hb_))
      | (go_at_call 70; (with_reducible refine Calls.mono (KH1 _ a4 n4 a5 n5 LW.out ?_) ?_); (· (exact VF.c2 (w := w) (gD := ⟨w.heap.size + 1, 0, none⟩) (by (with_reducible repeat (first | apply VF.alloc | apply VF.drewN | apply VF.drew)); exact F.out))); rintro e wk ⟨rfl, hb_⟩; replace F := Aside0.mk (VF.below (by (with_reducible repeat (first | apply VF.alloc | apply VF.drewN | apply VF.drew)); exact F.out) hb_))
      | (go_at_call 58; (with_reducible refine Calls.mono (KEl _ b4 d4 b5 d5) ?_); rintro e wk ⟨rfl, hb_⟩; replace F := Aside0.mk (VF.below (by (with_reducible repeat (first | apply VF.alloc | apply VF.drewN | apply VF.drew)); exact F.out) hb_))
      | (go_at_call 58; have T9 := HL; clear T9; (with_reducible refine Calls.mono (KEq _ _ _ _ _ _ 1 ?_ ?_ (Nat.le_refl _) ?_) ?_); (· (exact Q1.out)); (· ((with_reducible repeat (first | apply Kd.C_alloc | apply Kd.C_drewN | apply Kd.C_drew)); exact P1.out)); (· ((with_reducible repeat (first | apply Kd.C_alloc | apply Kd.C_drewN | apply Kd.C_drew)); exact HL.out)); rintro e wk ⟨rfl, hb_⟩; replace F := Aside0.mk (VF.below (by (with_reducible repeat (first | apply VF.alloc | apply VF.drewN | apply VF.drew)); exact F.out) hb_))
      | (go_at_call 58; (with_reducible refine Calls.mono (KEq _ _ _ _ _ _ 1 ?_ ?_ (Nat.le_refl _) ?_) ?_); (· (exact Q1.out)); (· ((with_reducible repeat (first | apply Kd.C_alloc | apply Kd.C_drewN | apply Kd.C_drew)); exact P1.out)); (· ((with_reducible repeat (first | apply Kd.C_drewN | apply Kd.C_drew)); exact C_lit1 _ _)); rintro e wk ⟨rfl, hb_⟩; replace F := Aside0.mk (VF.below (by (with_reducible repeat (first | apply VF.alloc | apply VF.drewN | apply VF.drew)); exact F.out) hb_))
      | (go_at_call 59; (with_reducible refine Calls.mono (KPl _ ⟨w.heap.size + 1, 0, none⟩ ?_) ?_); (· (exact VF.c1 (w := w) (a5 := a5) (by (with_reducible repeat (first | apply VF.alloc | apply VF.drewN | apply VF.drew)); exact F.out))); rintro e wk ⟨p4', q4', p5', q5', rfl, hq_, hp_, hb_⟩; replace F := Aside0.mk (VF.below (by (with_reducible repeat (first | apply VF.alloc | apply VF.drewN | apply VF.drew)); exact F.out) hb_); have Q1 := Aside0.mk hq_; have P1 := Aside0.mk hp_; have HL := Aside0.mk (Kd.C_below (show k89.C _ (some ⟨w4.heap.size, 0, none⟩) exP.length exP from (by (with_reducible repeat (first | apply Kd.C_drewN | apply Kd.C_drew)); exact C_lit1 _ _)) hb_); clear hq_ hp_)
      | (go_at_call 59; (with_reducible refine Calls.mono (KPl _ ⟨w.heap.size + 1, 0, none⟩ ?_) ?_); (· (exact VF.c1 (w := w) (a5 := a5) (by (with_reducible repeat (first | apply VF.alloc | apply VF.drewN | apply VF.drew)); exact F.out))); rintro e wk ⟨p4', q4', p5', q5', rfl, hq_, hp_, hb_⟩; replace F := Aside0.mk (VF.below (by (with_reducible repeat (first | apply VF.alloc | apply VF.drewN | apply VF.drew)); exact F.out) hb_); have Q1 := Aside0.mk hq_; have P1 := Aside0.mk hp_; clear hq_ hp_)))
  all_goals
    go_wp2
    go_ret
    exact ⟨rfl, F.out.2.2⟩
end Go.Proofs.Ytogpnkkoablmiaa.V
end
section
namespace Go.Proofs.Ytogpnkkoablmiaa.V
open Go.Proofs.Ytogpnkkoablmiaa.P Go.RowKit Go.Shelf Go.Lib Go.Proofs.Ytogpnkkoablmiaa.Q Go.Proofs.YtogpnkkoablmiaaW.PrintWords Go.Proofs.YtogpnkkoablmiaaW.PrintLast Go.Proofs.YtogpnkkoablmiaaW.PrintMore
set_option linter.unusedVariables false
set_option linter.unusedSimpArgs false
attribute [local go_sem] Oper.semAt_some
theorem chkL_zero (wi : Int) : ∀ l : List S35, chkL l wi = 0 ↔ ∀ x ∈ l, chkV x false wi = 0
  | [] => by simp [chkL]
  | x :: r => by
    have ih := chkL_zero wi r
    rw [chkL]
    by_cases h : chkV x false wi = 0
    · simp [h, ih]
    · simp [h]
theorem chkD_to (wi : Int) : ∀ (d : List S89) (ks : List ByteArray), chkD ks d wi = 0 → ∀ p ∈ d, p.f0.size ≤ 127 ∧ hasZero p.f0 = false ∧ chkV p.f1 false wi = 0
  | [], _, _, p, hp => by simp at hp
  | x :: r, ks, h, p, hp => by
    rw [chkD] at h
    by_cases hx : chkP ks x wi = 0
    · rw [if_neg (by simp [hx])] at h
      rcases List.mem_cons.1 hp with rfl | hp
      · rw [chkP_eq] at hx
        split at hx
        · omega
        · rename_i hn
          simp only [not_or, Bool.not_eq_true] at hn
          exact ⟨by omega, hn.2.1, hx⟩
      · exact chkD_to wi r _ h p hp
    · rw [if_pos (by simpa using hx)] at h
      exact absurd h hx
theorem chkD_of (wi : Int) : ∀ (d : List S89) (ks : List ByteArray), (∀ p ∈ d, p.f0.size ≤ 127 ∧ hasZero p.f0 = false ∧ chkV p.f1 false wi = 0 ∧ p.f0 ∉ ks) → d.Pairwise (fun a b => a.f0 ≠ b.f0) → chkD ks d wi = 0
  | [], _, _, _ => by rw [chkD]
  | x :: r, ks, h, hd => by
    obtain ⟨h1, h2, h3, h4⟩ := h x (by simp)
    have hx : chkP ks x wi = 0 := by
      rw [chkP_eq, if_neg, h3]
      rintro (a | a | a)
      · omega
      · rw [h2] at a; cases a
      · exact h4 ((memK_iff _ _).1 a)
    rw [chkD, if_neg (by simp [hx])]
    have hc := List.pairwise_cons.1 hd
    refine chkD_of wi r _ (fun p hp => ?_) hc.2
    obtain ⟨g1, g2, g3, g4⟩ := h p (by simp [hp])
    refine ⟨g1, g2, g3, fun hm => ?_⟩
    rcases List.mem_append.1 hm with hm | hm
    · exact g4 hm
    · exact hc.1 p hp (by simp only [List.mem_singleton] at hm; exact hm.symm)
theorem pairsP_from {d : List S89} {p : S89} (h : p ∈ pairsP d) : ∃ q ∈ d, p = ⟨q.f0, plain q.f1⟩ := by
  rw [mem_pairsP] at h
  have h1 := List.mem_of_find?_eq_some h.1
  obtain ⟨q, hq, rfl⟩ := List.mem_map.1 h1
  exact ⟨q, hq, rfl⟩
theorem pairsP_rise' (d : List S89) : Rise (pairsP d) := by
  have := plain_rise ⟨6, 0, 0, ⟨#[]⟩, [], d⟩
  rw [plain_eq] at this
  simpa using this
theorem rise_ne {d : List S89} (h : Rise d) : d.Pairwise (fun a b => a.f0 ≠ b.f0) :=
  h.imp fun {a b} h e => by rw [e, ltK_irrefl] at h; cases h
theorem chk_pairs {wi : Int} {d : List S89} (ih : ∀ p ∈ d, chkV p.f1 false wi = 0 → chkV (plain p.f1) false wi = 0) (h : chkD [] d wi = 0) : chkD [] (pairsP d) wi = 0 := by
  refine chkD_of wi _ _ (fun p hp => ?_) (rise_ne (pairsP_rise' d))
  obtain ⟨q, hq, rfl⟩ := pairsP_from hp
  obtain ⟨h1, h2, h3⟩ := chkD_to wi d [] h q hq
  exact ⟨h1, h2, ih q hq h3, by simp⟩
theorem ownE_drop {k n g : Int} {s : ByteArray} {L D L' D' : Nat} {stream : Bool} {wi n' g' : Int} {s' : ByteArray} (h : ownE k n g s L D stream wi = 0)
    (hx : extraB k n' g' s' L' D' = false) (hs : k = 3 ∨ k = 4 ∨ k = 8 → s' = s) (hb : beyondB k n' g' = beyondB k n g) : ownE k n' g' s' L' D' stream wi = 0 := by
  unfold ownE at *
  split at h
  · omega
  rename_i h1
  rw [if_neg h1]
  split at h
  · omega
  rename_i h2
  rw [hx, if_neg (by
    rintro (a | ⟨a, b⟩)
    · cases a
    · rw [hs (.inl a)] at b; exact h2 (.inr ⟨a, b⟩))]
  rw [hb]
  split at h
  · omega
  rename_i h3
  rw [if_neg h3]
  split at h
  · omega
  rename_i h4
  rw [if_neg (by
    rintro (⟨a, b⟩ | ⟨a, b⟩)
    · rw [hs (.inl a)] at b; exact h4 (.inl ⟨a, b⟩)
    · rw [hs (.inr (.inl a))] at b; exact h4 (.inr ⟨a, b⟩))]
  split at h
  · omega
  rename_i h5
  rw [if_neg (by rintro ⟨a, b⟩; rw [hs (.inr (.inr a))] at b; exact h5 ⟨a, b⟩)]
  exact h
theorem ownE_kind {k n g : Int} {s : ByteArray} {L D : Nat} {stream : Bool} {wi : Int} (h : ownE k n g s L D stream wi = 0) : 0 ≤ k ∧ k ≤ 8 := by
  unfold ownE at h
  split at h
  · omega
  · rename_i h1; omega
theorem chk_plain : ∀ (v : S35) (stream : Bool) (wi : Int), chkV v stream wi = 0 → chkV (plain v) stream wi = 0 := by
  refine S35.ind ?_
  intro v ih4 ih5 stream wi h
  rw [chkV_eq] at h
  have h1 : ownE v.f0 v.f1 v.f2 v.f3 v.f4.length v.f5.length stream wi = 0 := by
    by_cases hh : ownE v.f0 v.f1 v.f2 v.f3 v.f4.length v.f5.length stream wi = 0
    · exact hh
    · rw [if_pos hh] at h; exact absurd h hh
  rw [if_neg (by simp [h1])] at h
  have h2 : chkL v.f4 (wi + 1) = 0 := by
    by_cases hh : chkL v.f4 (wi + 1) = 0
    · exact hh
    · rw [if_pos hh] at h; exact absurd h hh
  rw [if_neg (by simp [h2])] at h
  have hk := ownE_kind h1
  have hl : chkL (v.f4.map plain) (wi + 1) = 0 := by
    rw [chkL_zero] at h2 ⊢
    intro x hx
    obtain ⟨y, hy, rfl⟩ := List.mem_map.1 hx
    exact ih4 y hy false (wi + 1) (h2 y hy)
  have hd : chkD [] (pairsP v.f5) (wi + 1) = 0 := chk_pairs (fun p hp => ih5 p hp false (wi + 1)) h
  have key : ∀ u : S35, u.f0 = v.f0 → extraB v.f0 u.f1 u.f2 u.f3 u.f4.length u.f5.length = false → (v.f0 = 3 ∨ v.f0 = 4 ∨ v.f0 = 8 → u.f3 = v.f3) → beyondB v.f0 u.f1 u.f2 = beyondB v.f0 v.f1 v.f2 → chkL u.f4 (wi + 1) = 0 → chkD [] u.f5 (wi + 1) = 0 → chkV u stream wi = 0 := by
    intro u h0 a b c d e
    rw [chkV_eq, h0, ownE_drop h1 a b c, d, e]
    simp
  have hn : chkL [] (wi + 1) = 0 := by rw [chkL]
  have hm : chkD [] [] (wi + 1) = 0 := by rw [chkD]
  have p0 := plain_eq v
  rcases (show v.f0 = 0 ∨ v.f0 = 1 ∨ v.f0 = 2 ∨ v.f0 = 3 ∨ v.f0 = 4 ∨ v.f0 = 5 ∨ v.f0 = 6 ∨ v.f0 = 7 ∨ v.f0 = 8 by omega) with e | e | e | e | e | e | e | e | e
  all_goals
    simp [e] at p0
    rw [p0]
    refine key _ (by simp [e, z35]) (by simp [extraB, e, z35]) (by simp [e, z35]) (by simp [beyondB, e, z35]) ?_ ?_
    · first | exact hl | exact hn
    · first | exact hd | exact hm
theorem plain_null {x : S35} (h : (plain x).f0 = 0) : plain x = z35 := by
  have p := plain_eq x
  rw [p] at h ⊢
  repeat (split at h; · (rename_i h1; simp at h; omega))
  split
  · rename_i h1; exact absurd h1 (by assumption)
  repeat (split; · (rename_i h1; exact absurd h1 (by assumption)))
  rfl
theorem find_iff {d : List S89} (h : Rise d) (k : ByteArray) (p : S89) : d.find? (fun y => decide (y.f0.data = k.data)) = some p ↔ p ∈ d ∧ p.f0.data = k.data := by
  constructor
  · intro hf
    exact ⟨List.mem_of_find?_eq_some hf, by simpa using List.find?_some hf⟩
  · rintro ⟨hp, hk⟩
    have := (rise_find d h p).1 hp
    rwa [hk] at this
theorem hasK_some (d : List S89) (k : ByteArray) : hasK d k = (d.find? (fun y => decide (y.f0.data = k.data))).isSome := by
  unfold hasK
  induction d with
  | nil => rfl
  | cons x r ih =>
    rw [List.any_cons, List.find?_cons]
    split
    · rename_i h; simp only [h, Bool.true_or, Option.isSome_some]
    · rename_i h; simp only [h, Bool.false_or]; exact ih
theorem find_put (key : ByteArray) (x : S35) (d : List S89) (k : ByteArray) : (pairsP (⟨key, x⟩ :: d)).find? (fun y => decide (y.f0.data = k.data)) = if key.data = k.data then (if (plain x).f0 ≠ 0 then some ⟨key, plain x⟩ else none) else (pairsP d).find? (fun y => decide (y.f0.data = k.data)) := by
  refine Option.ext fun p => ?_
  rw [find_iff (pairsP_rise' _), mem_pairsP_cons]
  by_cases hk : key.data = k.data
  · rw [if_pos hk]
    constructor
    · rintro ⟨(⟨h1, rfl, h3⟩ | ⟨h1, _⟩), h4⟩
      · rw [if_pos h3]
      · exact absurd (hk.trans h4.symm) h1
    · intro h
      split at h
      · rename_i h3
        injection h with h
        subst h
        exact ⟨.inl ⟨rfl, rfl, h3⟩, hk⟩
      · cases h
  · rw [if_neg hk, find_iff (pairsP_rise' _)]
    constructor
    · rintro ⟨(⟨h1, rfl, h3⟩ | ⟨h1, h2⟩), h4⟩
      · exact absurd h4 hk
      · exact ⟨h2, h4⟩
    · rintro ⟨h1, h2⟩
      exact ⟨.inr ⟨fun e => hk (e.trans h2), h1⟩, h2⟩
theorem with_dict (v : S35) (hv : v.f0 = 6) (key : ByteArray) (x : S35) : withV v key x = plain ⟨6, 0, 0, v.f3, [], ⟨key, x⟩ :: v.f5⟩ := by
  rw [with_eq, rwithV, if_pos (.inl hv), hv]
theorem with_plain (v : S35) (hv : v.f0 = 6) (key : ByteArray) (x : S35) : (plain (withV v key x)).f5 = pairsP (⟨key, x⟩ :: v.f5) := by
  rw [with_dict v hv, plain_idem, plain_eq]
  simp
theorem plain_dict (v : S35) (hv : v.f0 = 6) : (plain v).f5 = pairsP v.f5 := by
  rw [plain_eq]
  simp [hv]
theorem get_with (v : S35) (hv : v.f0 = 6) (key : ByteArray) (x : S35) : hasK (plain (withV v key x)).f5 key = decide ((plain x).f0 ≠ 0) ∧ plain (getV (withV v key x) key) = plain x := by
  have h := find_put key x v.f5 key
  rw [if_pos rfl] at h
  rw [hasK_some, getV, with_plain v hv, h]
  by_cases hx : (plain x).f0 ≠ 0
  · simp [hx, plain_idem]
  · have hx : (plain x).f0 = 0 := by omega
    rw [if_neg (by simp [hx]), plain_null hx]
    exact ⟨rfl, by kernel_rfl⟩
theorem get_other (v : S35) (hv : v.f0 = 6) (key other : ByteArray) (x : S35) (hk : ¬ key.data = other.data) : hasK (plain (withV v key x)).f5 other = hasK (plain v).f5 other ∧ getV (withV v key x) other = getV v other := by
  have h := find_put key x v.f5 other
  rw [if_neg hk] at h
  rw [hasK_some, hasK_some, getV, getV, with_plain v hv, plain_dict v hv, h]
  exact ⟨rfl, rfl⟩
theorem tsV_with (v : S35) (hv : v.f0 = 6) (key : ByteArray) (x : S35) : tsV (withV v key x) ≤ tsV v + tsV x + 1 := by
  rw [with_dict v hv]
  refine Nat.le_trans (tsV_plain _) ?_
  rw [tsV_eq, tsV_eq v]
  simp only [tsL, tsD, tsP_eq]
  omega
theorem tsD_find {d : List S89} {f : S89 → Bool} {p : S89} (h : d.find? f = some p) : tsV p.f1 ≤ tsD d := tsD_mem (List.mem_of_find?_eq_some h)
theorem tsV_get (v : S35) (key : ByteArray) : tsV (getV v key) ≤ tsV v + 1 := by
  unfold getV
  split
  · rename_i p hp
    have h1 := tsD_find hp
    have h2 := tsV_plain v
    rw [tsV_eq (plain v)] at h2
    omega
  · simp [z35, tsV, tsL, tsD]
end Go.Proofs.Ytogpnkkoablmiaa.V
end
section
namespace Go.Proofs.Ytogpnkkoablmiaa.V
open Go.Proofs.Ytogpnkkoablmiaa.P Go.Shelf Go.RowKit Go.Lib Go.Sort Go.Proofs.Ytogpnkkoablmiaa.Q Go.Proofs.YtogpnkkoablmiaaW.PrintWords Go.Proofs.YtogpnkkoablmiaaW.PrintLast Go.Proofs.YtogpnkkoablmiaaW.PrintMore
set_option linter.unusedVariables false
set_option linter.unusedSimpArgs false
def HasV (v : S35) (A4 : Option Addr) (c4 : Nat) (A5 : Option Addr) (c5 : Nat) (W : World) : Prop := v.f4.length ≤ c4 ∧ k35.C W A4 v.f4.length v.f4 ∧ v.f5.length ≤ c5 ∧ k89.C W A5 v.f5.length v.f5
theorem HasV.below {v : S35} {A4 : Option Addr} {c4 : Nat} {A5 : Option Addr} {c5 : Nat} {W W' : World} (h : HasV v A4 c4 A5 c5 W) (hb : RowKit.Below W.heap.size W W') : HasV v A4 c4 A5 c5 W' :=
  ⟨h.1, Kd.C_below h.2.1 hb, h.2.2.1, Kd.C_below h.2.2.2 hb⟩
def Stays (Q : World → Prop) : Prop := ∀ W W', Q W → RowKit.Below W.heap.size W W' → Q W'
theorem Stays.and {Q R : World → Prop} (h : Stays Q) (g : Stays R) : Stays (fun W => Q W ∧ R W) := fun W W' a b => ⟨h W W' a.1 b, g W W' a.2 b⟩
theorem Stays.alloc {Q : World → Prop} (h : Stays Q) {W : World} {o : Obj} (q : Q W) : Q (W.alloc o) := h _ _ q (below_alloc (RowKit.Below.refl _ W) o)
theorem Stays.drew {Q : World → Prop} (h : Stays Q) {W : World} (q : Q W) : Q W.drew := h _ _ q (RowKit.Below.refl _ W).drew
theorem Stays.drewN {Q : World → Prop} (h : Stays Q) {W : World} {n : Nat} (q : Q W) : Q (W.drewN n) := h _ _ q (pw_below_drewN (RowKit.Below.refl _ W) n)
theorem stays_val (v : S35) (A4 : Option Addr) (c4 : Nat) (A5 : Option Addr) (c5 : Nat) : Stays (HasV v A4 c4 A5 c5) := fun _ _ h hb => h.below hb
theorem stays_blk (g : Nat) (o : Obj) : Stays (fun W => W.heap[g]? = some o) := fun _ _ h hb => blk_below h hb
theorem stays_below (w : World) : Stays (fun W => RowKit.Below w.heap.size w W) := fun _ _ h hb => h.trans (hb.mono h.size)
theorem stays_lt (n : Nat) : Stays (fun W => n < W.heap.size) := fun _ _ h hb => Nat.lt_of_lt_of_le h hb.size
theorem K_plain (v : S35) (A4 : Option Addr) (c4 : Nat) (A5 : Option Addr) (c5 : Nat) (W : World) (hf : fewV v) (h : HasV v A4 c4 A5 c5 W) : Calls Try.prog 59 #[.agg #[.int .i64 v.f0, .int .i64 v.f1, .int .i64 v.f2, .string v.f3, .slice A4 v.f4.length c4, .slice A5 v.f5.length c5]] W fun e w' => ∃ a4 n4 a5 n5, e = .returned (.agg #[.int .i64 (plain v).f0, .int .i64 (plain v).f1, .int .i64 (plain v).f2, .string (plain v).f3, .slice a4 (plain v).f4.length n4, .slice a5 (plain v).f5.length n5]) ∧ HasV (plain v) a4 n4 a5 n5 w' ∧ RowKit.Below W.heap.size W w' := by
  refine (plain59_all v A4 c4 A5 c5 W hf h.1 h.2.1 h.2.2.1 h.2.2.2).mono ?_
  rintro e w' ⟨v4, v5, rfl, r4, r5, hb⟩
  obtain ⟨a, n, rfl, h1, h2⟩ := Kd.R_reads r4
  obtain ⟨a', n', rfl, h3, h4⟩ := Kd.R_reads r5
  exact ⟨a, n, a', n', rfl, ⟨h1, h2, h3, h4⟩, hb⟩
theorem K_equal (v : S35) (A4 : Option Addr) (c4 : Nat) (A5 : Option Addr) (c5 : Nat) (x : S35) (B4 : Option Addr) (d4 : Nat) (B5 : Option Addr) (d5 : Nat) (W : World) (h : HasV v A4 c4 A5 c5 W) (h2 : HasV x B4 d4 B5 d5 W) : Calls Try.prog 58 #[.agg #[.int .i64 v.f0, .int .i64 v.f1, .int .i64 v.f2, .string v.f3, .slice A4 v.f4.length c4, .slice A5 v.f5.length c5], .agg #[.int .i64 x.f0, .int .i64 x.f1, .int .i64 x.f2, .string x.f3, .slice B4 x.f4.length d4, .slice B5 x.f5.length d5]] W fun e w' => e = .returned (.bool (eqB v x)) ∧ RowKit.Below W.heap.size W w' :=
  equal_all v x A4 c4 A5 c5 B4 d4 B5 d5 W h.1 h.2.1 h.2.2.1 h.2.2.2 h2.1 h2.2.1 h2.2.2.1 h2.2.2.2
theorem K_check (v : S35) (A4 : Option Addr) (c4 : Nat) (A5 : Option Addr) (c5 : Nat) (s : Bool) (W : World) (h : HasV v A4 c4 A5 c5 W) : Calls Try.prog 52 #[.agg #[.int .i64 v.f0, .int .i64 v.f1, .int .i64 v.f2, .string v.f3, .slice A4 v.f4.length c4, .slice A5 v.f5.length c5], .bool s] W fun e w' => e = .returned (.int .i64 (chkV v s 0)) ∧ RowKit.Below W.heap.size W w' :=
  vcheck_calls v A4 c4 A5 c5 s W h.1 h.2.1 h.2.2.1 h.2.2.2
theorem K_same (v : S35) (A4 : Option Addr) (c4 : Nat) (A5 : Option Addr) (c5 : Nat) (x : S35) (B4 : Option Addr) (d4 : Nat) (B5 : Option Addr) (d5 : Nat) (W : World) (hf : fewV v) (hg : fewV x) (h : HasV v A4 c4 A5 c5 W) (h2 : HasV x B4 d4 B5 d5 W) : Calls Try.prog 61 #[.agg #[.int .i64 v.f0, .int .i64 v.f1, .int .i64 v.f2, .string v.f3, .slice A4 v.f4.length c4, .slice A5 v.f5.length c5], .agg #[.int .i64 x.f0, .int .i64 x.f1, .int .i64 x.f2, .string x.f3, .slice B4 x.f4.length d4, .slice B5 x.f5.length d5]] W fun e w' => e = .returned (.bool (eqB (plain v) (plain x))) ∧ RowKit.Below W.heap.size W w' :=
  same_calls v x A4 c4 A5 c5 B4 d4 B5 d5 W hf hg h.1 h.2.1 h.2.2.1 h.2.2.2 h2.1 h2.2.1 h2.2.2.1 h2.2.2.2
theorem K_get (v : S35) (A4 : Option Addr) (c4 : Nat) (A5 : Option Addr) (c5 : Nat) (key : ByteArray) (W : World) (hf : fewV v) (h : HasV v A4 c4 A5 c5 W) : Calls Try.prog 63 #[.agg #[.int .i64 v.f0, .int .i64 v.f1, .int .i64 v.f2, .string v.f3, .slice A4 v.f4.length c4, .slice A5 v.f5.length c5], .string key] W fun e w' => ∃ a4 n4 a5 n5, e = .returned (.tuple #[.agg #[.int .i64 (getV v key).f0, .int .i64 (getV v key).f1, .int .i64 (getV v key).f2, .string (getV v key).f3, .slice a4 (getV v key).f4.length n4, .slice a5 (getV v key).f5.length n5], .bool (hasK (plain v).f5 key)]) ∧ HasV (getV v key) a4 n4 a5 n5 w' ∧ RowKit.Below W.heap.size W w' := by
  refine (get_calls v key A4 c4 A5 c5 W hf h.1 h.2.1 h.2.2.1 h.2.2.2).mono ?_
  rintro e w' ⟨v4, v5, rfl, r4, r5, hb⟩
  obtain ⟨a, n, rfl, h1, h2⟩ := Kd.R_reads r4
  obtain ⟨a', n', rfl, h3, h4⟩ := Kd.R_reads r5
  exact ⟨a, n, a', n', rfl, ⟨h1, h2, h3, h4⟩, hb⟩
theorem K_with (v : S35) (A4 : Option Addr) (c4 : Nat) (A5 : Option Addr) (c5 : Nat) (key : ByteArray) (x : S35) (B4 : Option Addr) (d4 : Nat) (B5 : Option Addr) (d5 : Nat) (W : World) (hf : fewV v) (hg : fewV x) (h : HasV v A4 c4 A5 c5 W) (h2 : HasV x B4 d4 B5 d5 W) : Calls Try.prog 65 #[.agg #[.int .i64 v.f0, .int .i64 v.f1, .int .i64 v.f2, .string v.f3, .slice A4 v.f4.length c4, .slice A5 v.f5.length c5], .string key, .agg #[.int .i64 x.f0, .int .i64 x.f1, .int .i64 x.f2, .string x.f3, .slice B4 x.f4.length d4, .slice B5 x.f5.length d5]] W fun e w' => ∃ a4 n4 a5 n5, e = .returned (.agg #[.int .i64 (withV v key x).f0, .int .i64 (withV v key x).f1, .int .i64 (withV v key x).f2, .string (withV v key x).f3, .slice a4 (withV v key x).f4.length n4, .slice a5 (withV v key x).f5.length n5]) ∧ HasV (withV v key x) a4 n4 a5 n5 w' ∧ RowKit.Below W.heap.size W w' := by
  refine (with_calls v x key A4 c4 A5 c5 B4 d4 B5 d5 W hf hg h.1 h.2.1 h.2.2.1 h.2.2.2 h2.1 h2.2.1 h2.2.2.1 h2.2.2.2).mono ?_
  rintro e w' ⟨a4, n4, a5, n5, he, h1, h2, h3, h4, hb⟩
  exact ⟨a4, n4, a5, n5, he, ⟨h1, h2, h3, h4⟩, hb⟩
theorem K_few (v : S35) (A4 : Option Addr) (c4 : Nat) (A5 : Option Addr) (c5 : Nat) (m : Int) (b : Bool) (k : Nat) (hk : binderyref16_Few.f k v.f0 v.f1 v.f2 v.f3 v.f4 v.f5 m = some b) (W : World) (h : HasV v A4 c4 A5 c5 W) : Calls Try.prog 50 #[.agg #[.int .i64 v.f0, .int .i64 v.f1, .int .i64 v.f2, .string v.f3, .slice A4 v.f4.length c4, .slice A5 v.f5.length c5], .int .i64 m] W fun e w' => e = .returned (.bool b) ∧ RowKit.Below W.heap.size W w' :=
  binderyref16_Few.calls k v.f0 v.f1 v.f2 v.f3 A4 c4 v.f4 A5 c5 v.f5 m b W h.2.1 h.1 h.2.2.2 h.2.2.1 hk
end Go.Proofs.Ytogpnkkoablmiaa.V
end
section
namespace Go.Proofs.Ytogpnkkoablmiaa.V
open Go.Proofs.Ytogpnkkoablmiaa.P Go.Shelf Go.RowKit Go.Lib Go.Sort Go.Proofs.Ytogpnkkoablmiaa.Q Go.Proofs.YtogpnkkoablmiaaW.PrintWords Go.Proofs.YtogpnkkoablmiaaW.PrintLast Go.Proofs.YtogpnkkoablmiaaW.PrintMore
set_option linter.unusedVariables false
set_option linter.unusedSimpArgs false
def nzv (c : Int) : Int := if c = 0 then 1 else c
theorem nzv_of {c : Int} (h : ¬ c = 0) : nzv c = c := if_neg h
theorem nzv_ne (c : Int) : (nzv c = 0) = False := eq_false (by unfold nzv; split <;> omega)
theorem nzv_beq (c : Int) : (nzv c == 0) = false := by have h := nzv_ne c; simp at h; simpa using h
theorem nzv_bne (c : Int) : (nzv c != 0) = true := by rw [bne, nzv_beq]; rfl
theorem data_ne {a b : ByteArray} (h : ¬ b.toList = a.toList) : ¬ a.data = b.data := fun e => h (by cases a; cases b; cases e; rfl)
attribute [local go_sem] nzv_ne nzv_beq nzv_bne
set_option maxHeartbeats 20000000 in
set_option maxRecDepth 100000 in
theorem twice_calls (v x : S35) (key other : ByteArray) (A4 : Option Addr) (c4 : Nat) (A5 : Option Addr) (c5 : Nat) (B4 : Option Addr) (d4 : Nat) (B5 : Option Addr) (d5 : Nat) (w : World) (hv0 : HasV v A4 c4 A5 c5 w) (hx0 : HasV x B4 d4 B5 d5 w) :
    Calls Try.prog 13 #[.agg #[.int .i64 v.f0, .int .i64 v.f1, .int .i64 v.f2, .string v.f3, .slice A4 v.f4.length c4, .slice A5 v.f5.length c5], .string key, .string other, .agg #[.int .i64 x.f0, .int .i64 x.f1, .int .i64 x.f2, .string x.f3, .slice B4 x.f4.length d4, .slice B5 x.f5.length d5]] w fun e w' => e = .returned (.bool true) ∧ RowKit.Below w.heap.size w w' := by
  have hu35 := Try.underlying35
  have hfd : ∀ (c0 c1 c2 : Int) (c3 : ByteArray) (c4 c5 : Value) (w : World), (Instr.field 35 (.agg #[.int .i64 c0, .int .i64 c1, .int .i64 c2, .string c3, c4, c5]) 0).run Try.prog w = .ok (.int .i64 c0) w := fun _ _ _ _ _ _ _ => by kernel_rfl
  obtain ⟨b, kf, hbf, hkf⟩ := few_all v 500 (by omega) (by omega)
  obtain ⟨b1, kf1, hbf1, hkf1⟩ := few_all x 500 (by omega) (by omega)
  have KF := Aside0.mk (fun W (h : HasV v A4 c4 A5 c5 W) => K_few v A4 c4 A5 c5 500 b kf (hkf kf (Nat.le_refl _)) W h)
  have KF1 := Aside0.mk (fun W (h : HasV x B4 d4 B5 d5 W) => K_few x B4 d4 B5 d5 500 b1 kf1 (hkf1 kf1 (Nat.le_refl _)) W h)
  have HBF := Aside0.mk hbf
  have HBF1 := Aside0.mk hbf1
  have hbw := (below_alloc (below_alloc (RowKit.Below.refl (w).heap.size (w)) (.cells #[.int .i64 v.f0, .int .i64 v.f1, .int .i64 v.f2, .string v.f3, .slice A4 v.f4.length c4, .slice A5 v.f5.length c5] 35)) (.cells #[.int .i64 x.f0, .int .i64 x.f1, .int .i64 x.f2, .string x.f3, .slice B4 x.f4.length d4, .slice B5 x.f5.length d5] 35))
  have HV := Aside0.mk (hv0.below hbw)
  have HX := Aside0.mk (hx0.below hbw)
  have BV := Aside0.mk (blk_alloc (blk_new w (.cells #[.int .i64 v.f0, .int .i64 v.f1, .int .i64 v.f2, .string v.f3, .slice A4 v.f4.length c4, .slice A5 v.f5.length c5] 35)) (.cells #[.int .i64 x.f0, .int .i64 x.f1, .int .i64 x.f2, .string x.f3, .slice B4 x.f4.length d4, .slice B5 x.f5.length d5] 35))
  have BX := Aside0.mk (blk_new (w.alloc (.cells #[.int .i64 v.f0, .int .i64 v.f1, .int .i64 v.f2, .string v.f3, .slice A4 v.f4.length c4, .slice A5 v.f5.length c5] 35)) (.cells #[.int .i64 x.f0, .int .i64 x.f1, .int .i64 x.f2, .string x.f3, .slice B4 x.f4.length d4, .slice B5 x.f5.length d5] 35))
  have HB := Aside0.mk hbw
  have L1 := Aside0.mk (show w.heap.size + 1 < ((w.alloc (.cells #[.int .i64 v.f0, .int .i64 v.f1, .int .i64 v.f2, .string v.f3, .slice A4 v.f4.length c4, .slice A5 v.f5.length c5] 35)).alloc (.cells #[.int .i64 x.f0, .int .i64 x.f1, .int .i64 x.f2, .string x.f3, .slice B4 x.f4.length d4, .slice B5 x.f5.length d5] 35)).heap.size by simp)
  simp only [World.size_alloc] at BX
  clear hbf hbf1 hkf hkf1 hbw hv0 hx0
  go_enter Try.func13, Try.ntmps13
  go_wp2_with fail
  refine Calls.mono (KF.out _ HV.out) ?_
  rintro e w1 ⟨rfl, hb⟩
  replace HV := Aside0.mk ((stays_val _ _ _ _ _) _ _ HV.out hb)
  replace HX := Aside0.mk ((stays_val _ _ _ _ _) _ _ HX.out hb)
  replace BV := Aside0.mk ((stays_blk _ _) _ _ BV.out hb)
  replace BX := Aside0.mk ((stays_blk _ _) _ _ BX.out hb)
  replace HB := Aside0.mk ((stays_below _) _ _ HB.out hb)
  replace L1 := Aside0.mk ((stays_lt _) _ _ L1.out hb)
  have hL1 := L1.out
  have hL0 : w.heap.size < w1.heap.size := by omega
  clear hb KF
  obtain ⟨u0, u1, u2, u3, u4, u5⟩ := box35 BV.out
  obtain ⟨v0, v1, v2, v3, v4, v5⟩ := box35 BX.out
  cases b
  case false =>
    go_wp2_with fail
    refine Calls.mono (values_calls _) ?_
    rintro e we ⟨rfl, hbe⟩
    have HE := Aside0.mk (stays_below _ _ _ HB.out (below_step (RowKit.Below.refl (w1).heap.size (w1)) hbe))
    clear hbe
    go_wp2
    go_ret
    exact ⟨rfl, HE.out⟩
  go_wp2_with fail
  refine Calls.mono (KF1.out _ HX.out) ?_
  rintro e w2 ⟨rfl, hb⟩
  clear u0 u1 u2 u3 u4 u5 v0 v1 v2 v3 v4 v5
  clear hL0 hL1
  replace HV := Aside0.mk ((stays_val _ _ _ _ _) _ _ HV.out hb)
  replace HX := Aside0.mk ((stays_val _ _ _ _ _) _ _ HX.out hb)
  replace BV := Aside0.mk ((stays_blk _ _) _ _ BV.out hb)
  replace BX := Aside0.mk ((stays_blk _ _) _ _ BX.out hb)
  replace HB := Aside0.mk ((stays_below _) _ _ HB.out hb)
  replace L1 := Aside0.mk ((stays_lt _) _ _ L1.out hb)
  have hL1 := L1.out
  have hL0 : w.heap.size < w2.heap.size := by omega
  clear hb KF1
  obtain ⟨u0, u1, u2, u3, u4, u5⟩ := box35 BV.out
  obtain ⟨v0, v1, v2, v3, v4, v5⟩ := box35 BX.out
  cases b1
  case false =>
    go_wp2_with fail
    refine Calls.mono (values_calls _) ?_
    rintro e we ⟨rfl, hbe⟩
    have HE := Aside0.mk (stays_below _ _ _ HB.out (below_step (RowKit.Below.refl (w2).heap.size (w2)) hbe))
    clear hbe
    go_wp2
    go_ret
    exact ⟨rfl, HE.out⟩
  by_cases hk3 : (3000 : Int) < (key.size : Int)
  · go_wp2_with fail
    refine Calls.mono (values_calls _) ?_
    rintro e we ⟨rfl, hbe⟩
    have HE := Aside0.mk (stays_below _ _ _ HB.out (below_step (RowKit.Below.refl (w2).heap.size (w2)) hbe))
    clear hbe
    go_wp2
    go_ret
    exact ⟨rfl, HE.out⟩
  by_cases ho3 : (3000 : Int) < (other.size : Int)
  · go_wp2_with fail
    refine Calls.mono (values_calls _) ?_
    rintro e we ⟨rfl, hbe⟩
    have HE := Aside0.mk (stays_below _ _ _ HB.out (below_step (RowKit.Below.refl (w2).heap.size (w2)) hbe))
    clear hbe
    go_wp2
    go_ret
    exact ⟨rfl, HE.out⟩
  obtain ⟨hts, hfv, -⟩ := HBF.out (by trivial)
  obtain ⟨htx, hfx, -⟩ := HBF1.out (by trivial)
  have FV := Aside0.mk hfv
  have FX := Aside0.mk hfx
  have TS := Aside0.mk (And.intro hts htx)
  clear hts hfv htx hfx HBF HBF1
  have PL := Aside0.mk (K_plain v A4 c4 A5 c5 w2 FV.out HV.out)
  have PI := Aside0.mk (plain_idem v)
  have CHK := Aside0.mk (chk_plain v true 0)
  have TP := Aside0.mk (tsV_plain v)
  have WD := Aside0.mk (fun h => get_with v h key x)
  have WO := Aside0.mk (fun h hk => get_other v h key other x hk)
  have TW := Aside0.mk (fun h => tsV_with v h key x)
  obtain ⟨p, hp⟩ : ∃ p, p = plain v := ⟨_, rfl⟩
  rw [← hp] at PL PI CHK TP
  have FP := Aside0.mk (show fewV p from few_ts p (by have := TP.out; have := TS.out.1; omega))
  clear hp
  go_wp2_with fail
  · exfalso; omega
  refine Calls.mono PL.out ?_
  rintro e w3 ⟨a4, n4, a5, n5, rfl, hp, hb⟩
  have HP := Aside0.mk hp
  clear u0 u1 u2 u3 u4 u5 v0 v1 v2 v3 v4 v5
  clear hL0 hL1 hk3 ho3 PL
  replace HV := Aside0.mk ((stays_val _ _ _ _ _) _ _ HV.out hb)
  replace HX := Aside0.mk ((stays_val _ _ _ _ _) _ _ HX.out hb)
  replace BV := Aside0.mk ((stays_blk _ _) _ _ BV.out hb)
  replace BX := Aside0.mk ((stays_blk _ _) _ _ BX.out hb)
  replace HB := Aside0.mk ((stays_below _) _ _ HB.out hb)
  replace L1 := Aside0.mk ((stays_lt _) _ _ L1.out hb)
  clear hb hp
  go_upto_region 4 with fail
  replace HP := Aside0.mk (((stays_val _ _ _ _ _) _ _ HP.out (below_alloc (RowKit.Below.refl (w3).heap.size (w3)) (.cells #[.int .i64 p.f0, .int .i64 p.f1, .int .i64 p.f2, .string p.f3, .slice a4 p.f4.length n4, .slice a5 p.f5.length n5] 35))))
  have BP := Aside0.mk (blk_new w3 (.cells #[.int .i64 p.f0, .int .i64 p.f1, .int .i64 p.f2, .string p.f3, .slice a4 p.f4.length n4, .slice a5 p.f5.length n5] 35))
  have L3 := Aside0.mk (show w3.heap.size < (w3.alloc (.cells #[.int .i64 p.f0, .int .i64 p.f1, .int .i64 p.f2, .string p.f3, .slice a4 p.f4.length n4, .slice a5 p.f5.length n5] 35)).heap.size by simp)
  have hb3 := (below_alloc (RowKit.Below.refl (w3).heap.size (w3)) (.cells #[.int .i64 p.f0, .int .i64 p.f1, .int .i64 p.f2, .string p.f3, .slice a4 p.f4.length n4, .slice a5 p.f5.length n5] 35))
  have L13 := Aside0.mk (show w.heap.size + 1 < w3.heap.size from L1.out)
  replace HV := Aside0.mk ((stays_val _ _ _ _ _) _ _ HV.out hb3)
  replace HX := Aside0.mk ((stays_val _ _ _ _ _) _ _ HX.out hb3)
  replace BV := Aside0.mk ((stays_blk _ _) _ _ BV.out hb3)
  replace BX := Aside0.mk ((stays_blk _ _) _ _ BX.out hb3)
  replace HB := Aside0.mk ((stays_below _) _ _ HB.out hb3)
  replace L1 := Aside0.mk ((stays_lt _) _ _ L1.out hb3)
  clear hb3
  obtain ⟨Q4, hQ4⟩ : ∃ Q : World → Prop, Q = fun W => HasV v A4 c4 A5 c5 W ∧ HasV x B4 d4 B5 d5 W ∧ W.heap[w.heap.size]? = some (.cells #[.int .i64 v.f0, .int .i64 v.f1, .int .i64 v.f2, .string v.f3, .slice A4 v.f4.length c4, .slice A5 v.f5.length c5] 35) ∧ W.heap[w.heap.size + 1]? = some (.cells #[.int .i64 x.f0, .int .i64 x.f1, .int .i64 x.f2, .string x.f3, .slice B4 x.f4.length d4, .slice B5 x.f5.length d5] 35) ∧ RowKit.Below w.heap.size w W ∧ w.heap.size + 1 < W.heap.size ∧ HasV p a4 n4 a5 n5 W ∧ W.heap[w3.heap.size]? = some (.cells #[.int .i64 p.f0, .int .i64 p.f1, .int .i64 p.f2, .string p.f3, .slice a4 p.f4.length n4, .slice a5 p.f5.length n5] 35) ∧ w3.heap.size < W.heap.size := ⟨_, rfl⟩
  have hS : Stays Q4 := by rw [hQ4]; exact (Stays.and (stays_val _ _ _ _ _) (Stays.and (stays_val _ _ _ _ _) (Stays.and (stays_blk _ _) (Stays.and (stays_blk _ _) (Stays.and (stays_below _) (Stays.and (stays_lt _) (Stays.and (stays_val _ _ _ _ _) (Stays.and (stays_blk _ _) (stays_lt _)))))))))
  have F0 := Aside0.mk (show Q4 (w3.alloc (.cells #[.int .i64 p.f0, .int .i64 p.f1, .int .i64 p.f2, .string p.f3, .slice a4 p.f4.length n4, .slice a5 p.f5.length n5] 35)) by rw [hQ4]; exact ⟨HV.out, HX.out, BV.out, BX.out, HB.out, L1.out, HP.out, BP.out, L3.out⟩)
  have EV : ∀ W, Q4 W → HasV v A4 c4 A5 c5 W := fun W h => by rw [hQ4] at h; exact h.1
  have EP : ∀ W, Q4 W → HasV p a4 n4 a5 n5 W := fun W h => by rw [hQ4] at h; exact h.2.2.2.2.2.2.1
  have KPP : ∀ W, HasV p a4 n4 a5 n5 W → Calls Try.prog 59 #[.agg #[.int .i64 p.f0, .int .i64 p.f1, .int .i64 p.f2, .string p.f3, .slice a4 p.f4.length n4, .slice a5 p.f5.length n5]] W fun e w' => ∃ b4 m4 b5 m5, e = .returned (.agg #[.int .i64 p.f0, .int .i64 p.f1, .int .i64 p.f2, .string p.f3, .slice b4 p.f4.length m4, .slice b5 p.f5.length m5]) ∧ HasV p b4 m4 b5 m5 w' ∧ RowKit.Below W.heap.size W w' := fun W h => by
    have h2 := K_plain p a4 n4 a5 n5 W FP.out h
    rw [PI.out] at h2
    exact h2
  have KEE : ∀ W b4 m4 b5 m5, HasV p b4 m4 b5 m5 W → HasV p a4 n4 a5 n5 W → Calls Try.prog 58 #[.agg #[.int .i64 p.f0, .int .i64 p.f1, .int .i64 p.f2, .string p.f3, .slice b4 p.f4.length m4, .slice b5 p.f5.length m5], .agg #[.int .i64 p.f0, .int .i64 p.f1, .int .i64 p.f2, .string p.f3, .slice a4 p.f4.length n4, .slice a5 p.f5.length n5]] W fun e w' => e = .returned (.bool true) ∧ RowKit.Below W.heap.size W w' := fun W b4 m4 b5 m5 h1 h2 => by
    have h3 := K_equal p b4 m4 b5 m5 p a4 n4 a5 n5 W h1 h2
    rw [eqB_true rfl] at h3
    exact h3
  have HQ4 := Aside0.mk hQ4
  clear hQ4
  go_cut [52] (fun s wc => s = .bool false ∧ Aside0 (Q4 wc))
  case first =>
    have F := F0
    have BV1 := BV.out
    have BP1 := BP.out
    clear F0 HV HX BV BX HB L1 HP BP L3
    generalize w3.alloc (.cells #[.int .i64 p.f0, .int .i64 p.f1, .int .i64 p.f2, .string p.f3, .slice a4 p.f4.length n4, .slice a5 p.f5.length n5] 35) = W4 at *
    obtain ⟨u0, u1, u2, u3, u4, u5⟩ := box35 BV1
    obtain ⟨v0, v1, v2, v3, v4, v5⟩ := box35 BP1
    by_cases hcv : chkV v true 0 = 0
    · have KCV : ∀ W, HasV v A4 c4 A5 c5 W → Calls Try.prog 52 #[.agg #[.int .i64 v.f0, .int .i64 v.f1, .int .i64 v.f2, .string v.f3, .slice A4 v.f4.length c4, .slice A5 v.f5.length c5], .bool true] W fun e w' => e = .returned (.int .i64 0) ∧ RowKit.Below W.heap.size W w' := fun W h => by
        have h2 := K_check v A4 c4 A5 c5 true W h
        rw [hcv] at h2
        exact h2
      have KCP : ∀ W, HasV p a4 n4 a5 n5 W → Calls Try.prog 52 #[.agg #[.int .i64 p.f0, .int .i64 p.f1, .int .i64 p.f2, .string p.f3, .slice a4 p.f4.length n4, .slice a5 p.f5.length n5], .bool true] W fun e w' => e = .returned (.int .i64 0) ∧ RowKit.Below W.heap.size W w' := fun W h => by
        have h2 := K_check p a4 n4 a5 n5 true W h
        rw [CHK.out hcv] at h2
        exact h2
      clear hcv
      refine start_ (n := 15) (S := (fun w' => w'.cell? ⟨w.heap.size, 0, none⟩ = some (.int .i64 v.f0) ∧ w'.cell? ⟨w.heap.size, 1, none⟩ = some (.int .i64 v.f1) ∧ w'.cell? ⟨w.heap.size, 2, none⟩ = some (.int .i64 v.f2) ∧ w'.cell? ⟨w.heap.size, 3, none⟩ = some (.string v.f3) ∧ w'.cell? ⟨w.heap.size, 4, none⟩ = some (.slice A4 v.f4.length c4) ∧ w'.cell? ⟨w.heap.size, 5, none⟩ = some (.slice A5 v.f5.length c5) ∧ w'.cell? ⟨w3.heap.size, 0, none⟩ = some (.int .i64 p.f0) ∧ w'.cell? ⟨w3.heap.size, 1, none⟩ = some (.int .i64 p.f1) ∧ w'.cell? ⟨w3.heap.size, 2, none⟩ = some (.int .i64 p.f2) ∧ w'.cell? ⟨w3.heap.size, 3, none⟩ = some (.string p.f3) ∧ w'.cell? ⟨w3.heap.size, 4, none⟩ = some (.slice a4 p.f4.length n4) ∧ w'.cell? ⟨w3.heap.size, 5, none⟩ = some (.slice a5 p.f5.length n5))) (ds := [13, 14]) #[false, false, false, false, false, false, false, false, false, false, false, false, false, false, false] (by kernel_rfl) rfl rfl (by refine ⟨?_, ?_, ?_, ?_, ?_, ?_, ?_, ?_, ?_, ?_, ?_, ?_⟩ <;> go_simp) (fun hHeld => ?_)
      refine take_ (i := 0) (N := some 38) (v := ?_) (a' := ?_) #[true, false, false, false, false, false, false, false, false, false, false, false, false, false, false] rfl rfl (by kernel_rfl) (fun _ _ _ h => h) (Or.inl ⟨by rfl, ?_⟩) hHeld ?_ ?_
      rotate_left
      · intro w' hSw
        (try dsimp only at hSw)
        go_split_ands
        go_simp
        with_reducible rfl
      rotate_left
      · simp only [Act.put, List.setIfInBounds_toArray, List.set_cons_zero, List.set_cons_succ]
        rfl
      refine take_ (i := 2) (N := some 40) (v := ?_) (a' := ?_) #[true, false, true, false, false, false, false, false, false, false, false, false, false, false, false] rfl rfl (by kernel_rfl) (fun _ _ _ h => h) (Or.inl ⟨by rfl, ?_⟩) hHeld ?_ ?_
      rotate_left
      · intro w' hSw
        (try dsimp only at hSw)
        go_split_ands
        go_simp
        with_reducible rfl
      rotate_left
      · simp only [Act.put, List.setIfInBounds_toArray, List.set_cons_zero, List.set_cons_succ]
        rfl
      have HH := Aside0.mk hHeld
      clear hHeld
      replace F := Aside0.mk (Stays.drew hS F.out)
      generalize W4.drew = W4 at *
      refine one_ (i := 1) (N := some 39) #[true, true, true, false, false, false, false, false, false, false, false, false, false, false, false] rfl rfl (by kernel_rfl) (by decide) (fun K hK => ?_)
      refine goes_ Try.func59 (by kernel_rfl) rfl #[.agg #[.int .i64 p.f0, .int .i64 p.f1, .int .i64 p.f2, .string p.f3, .slice a4 p.f4.length n4, .slice a5 p.f5.length n5]] (by rfl) rfl rfl (by first | rfl | (simp only [List.map_toArray, List.map_cons, List.map_nil]; rfl)) ?_
      refine Calls.mono (KPP _ (EP _ F.out)) ?_
      rintro e wk ⟨b4', m4', b5', m5', rfl, hr_, hb_⟩
      refine ⟨_, rfl, ?_⟩
      refine hK.out _ _ ⟨(hb_.cell (World.block_lt_of_cell? _ _ HH.out.1)).trans HH.out.1, (hb_.cell (World.block_lt_of_cell? _ _ HH.out.2.1)).trans HH.out.2.1, (hb_.cell (World.block_lt_of_cell? _ _ HH.out.2.2.1)).trans HH.out.2.2.1, (hb_.cell (World.block_lt_of_cell? _ _ HH.out.2.2.2.1)).trans HH.out.2.2.2.1, (hb_.cell (World.block_lt_of_cell? _ _ HH.out.2.2.2.2.1)).trans HH.out.2.2.2.2.1, (hb_.cell (World.block_lt_of_cell? _ _ HH.out.2.2.2.2.2.1)).trans HH.out.2.2.2.2.2.1, (hb_.cell (World.block_lt_of_cell? _ _ HH.out.2.2.2.2.2.2.1)).trans HH.out.2.2.2.2.2.2.1, (hb_.cell (World.block_lt_of_cell? _ _ HH.out.2.2.2.2.2.2.2.1)).trans HH.out.2.2.2.2.2.2.2.1, (hb_.cell (World.block_lt_of_cell? _ _ HH.out.2.2.2.2.2.2.2.2.1)).trans HH.out.2.2.2.2.2.2.2.2.1, (hb_.cell (World.block_lt_of_cell? _ _ HH.out.2.2.2.2.2.2.2.2.2.1)).trans HH.out.2.2.2.2.2.2.2.2.2.1, (hb_.cell (World.block_lt_of_cell? _ _ HH.out.2.2.2.2.2.2.2.2.2.2.1)).trans HH.out.2.2.2.2.2.2.2.2.2.2.1, (hb_.cell (World.block_lt_of_cell? _ _ HH.out.2.2.2.2.2.2.2.2.2.2.2)).trans HH.out.2.2.2.2.2.2.2.2.2.2.2⟩ (fun hH2 => ?_)
      replace HH := Aside0.mk hH2
      clear hK K hH2
      replace F := Aside0.mk (hS _ _ F.out hb_)
      have HR := Aside0.mk hr_
      clear hr_
      clear hb_
      refine norm_ (a' := ?_) ?_ ?_
      rotate_left
      · show Act.put _ (some 39) _ = _
        simp only [Act.put, List.setIfInBounds_toArray, List.set_cons_zero, List.set_cons_succ]
        rfl
      refine one_ (i := 3) (N := some 41) #[true, true, true, true, false, false, false, false, false, false, false, false, false, false, false] rfl rfl (by kernel_rfl) (by decide) (fun K hK => ?_)
      refine goes_ Try.func58 (by kernel_rfl) rfl #[.agg #[.int .i64 p.f0, .int .i64 p.f1, .int .i64 p.f2, .string p.f3, .slice b4' p.f4.length m4', .slice b5' p.f5.length m5'], .agg #[.int .i64 p.f0, .int .i64 p.f1, .int .i64 p.f2, .string p.f3, .slice a4 p.f4.length n4, .slice a5 p.f5.length n5]] (by rfl) rfl rfl (by first | rfl | (simp only [List.map_toArray, List.map_cons, List.map_nil]; rfl)) ?_
      refine Calls.mono (KEE _ _ _ _ _ HR.out (EP _ F.out)) ?_
      rintro e wk ⟨rfl, hb_⟩
      refine ⟨_, rfl, ?_⟩
      refine hK.out _ _ ⟨(hb_.cell (World.block_lt_of_cell? _ _ HH.out.1)).trans HH.out.1, (hb_.cell (World.block_lt_of_cell? _ _ HH.out.2.1)).trans HH.out.2.1, (hb_.cell (World.block_lt_of_cell? _ _ HH.out.2.2.1)).trans HH.out.2.2.1, (hb_.cell (World.block_lt_of_cell? _ _ HH.out.2.2.2.1)).trans HH.out.2.2.2.1, (hb_.cell (World.block_lt_of_cell? _ _ HH.out.2.2.2.2.1)).trans HH.out.2.2.2.2.1, (hb_.cell (World.block_lt_of_cell? _ _ HH.out.2.2.2.2.2.1)).trans HH.out.2.2.2.2.2.1, (hb_.cell (World.block_lt_of_cell? _ _ HH.out.2.2.2.2.2.2.1)).trans HH.out.2.2.2.2.2.2.1, (hb_.cell (World.block_lt_of_cell? _ _ HH.out.2.2.2.2.2.2.2.1)).trans HH.out.2.2.2.2.2.2.2.1, (hb_.cell (World.block_lt_of_cell? _ _ HH.out.2.2.2.2.2.2.2.2.1)).trans HH.out.2.2.2.2.2.2.2.2.1, (hb_.cell (World.block_lt_of_cell? _ _ HH.out.2.2.2.2.2.2.2.2.2.1)).trans HH.out.2.2.2.2.2.2.2.2.2.1, (hb_.cell (World.block_lt_of_cell? _ _ HH.out.2.2.2.2.2.2.2.2.2.2.1)).trans HH.out.2.2.2.2.2.2.2.2.2.2.1, (hb_.cell (World.block_lt_of_cell? _ _ HH.out.2.2.2.2.2.2.2.2.2.2.2)).trans HH.out.2.2.2.2.2.2.2.2.2.2.2⟩ (fun hH2 => ?_)
      replace HH := Aside0.mk hH2
      clear hK K hH2
      replace F := Aside0.mk (hS _ _ F.out hb_)
      clear hb_
      refine norm_ (a' := ?_) ?_ ?_
      rotate_left
      · show Act.put _ (some 41) _ = _
        simp only [Act.put, List.setIfInBounds_toArray, List.set_cons_zero, List.set_cons_succ]
        rfl
      refine pure_ (i := 4) (N := some 42) (v := ?_) (a' := ?_) #[true, true, true, true, true, false, false, false, false, false, false, false, false, false, false] rfl rfl (by kernel_rfl) (fun _ _ _ h => h) (Or.inl ⟨by rfl, ?_⟩) ?_ ?_
      rotate_left
      · intro w'
        go_simp
        with_reducible rfl
      rotate_left
      · simp only [Act.put, List.setIfInBounds_toArray, List.set_cons_zero, List.set_cons_succ]
        rfl
      refine pure_ (i := 5) (N := some 43) (v := ?_) (a' := ?_) #[true, true, true, true, true, true, false, false, false, false, false, false, false, false, false] rfl rfl (by kernel_rfl) (fun _ _ _ h => h) (Or.inl ⟨by rfl, ?_⟩) ?_ ?_
      rotate_left
      · intro w'
        go_simp
        with_reducible rfl
      rotate_left
      · simp only [Act.put, List.setIfInBounds_toArray, List.set_cons_zero, List.set_cons_succ]
        rfl
      refine take_ (i := 6) (N := some 44) (v := ?_) (a' := ?_) #[true, true, true, true, true, true, true, false, false, false, false, false, false, false, false] rfl rfl (by kernel_rfl) (fun _ _ _ h => h) (Or.inl ⟨by rfl, ?_⟩) HH.out ?_ ?_
      rotate_left
      · intro w' hSw
        (try dsimp only at hSw)
        go_split_ands
        go_simp
        with_reducible rfl
      rotate_left
      · simp only [Act.put, List.setIfInBounds_toArray, List.set_cons_zero, List.set_cons_succ]
        rfl
      refine one_ (i := 7) (N := some 45) #[true, true, true, true, true, true, true, true, false, false, false, false, false, false, false] rfl rfl (by kernel_rfl) (by decide) (fun K hK => ?_)
      refine goes_ Try.func52 (by kernel_rfl) rfl #[.agg #[.int .i64 v.f0, .int .i64 v.f1, .int .i64 v.f2, .string v.f3, .slice A4 v.f4.length c4, .slice A5 v.f5.length c5], .bool true] (by rfl) rfl rfl (by first | rfl | (simp only [List.map_toArray, List.map_cons, List.map_nil]; rfl)) ?_
      refine Calls.mono (KCV _ (EV _ F.out)) ?_
      rintro e wk ⟨rfl, hb_⟩
      refine ⟨_, rfl, ?_⟩
      refine hK.out _ _ ⟨(hb_.cell (World.block_lt_of_cell? _ _ HH.out.1)).trans HH.out.1, (hb_.cell (World.block_lt_of_cell? _ _ HH.out.2.1)).trans HH.out.2.1, (hb_.cell (World.block_lt_of_cell? _ _ HH.out.2.2.1)).trans HH.out.2.2.1, (hb_.cell (World.block_lt_of_cell? _ _ HH.out.2.2.2.1)).trans HH.out.2.2.2.1, (hb_.cell (World.block_lt_of_cell? _ _ HH.out.2.2.2.2.1)).trans HH.out.2.2.2.2.1, (hb_.cell (World.block_lt_of_cell? _ _ HH.out.2.2.2.2.2.1)).trans HH.out.2.2.2.2.2.1, (hb_.cell (World.block_lt_of_cell? _ _ HH.out.2.2.2.2.2.2.1)).trans HH.out.2.2.2.2.2.2.1, (hb_.cell (World.block_lt_of_cell? _ _ HH.out.2.2.2.2.2.2.2.1)).trans HH.out.2.2.2.2.2.2.2.1, (hb_.cell (World.block_lt_of_cell? _ _ HH.out.2.2.2.2.2.2.2.2.1)).trans HH.out.2.2.2.2.2.2.2.2.1, (hb_.cell (World.block_lt_of_cell? _ _ HH.out.2.2.2.2.2.2.2.2.2.1)).trans HH.out.2.2.2.2.2.2.2.2.2.1, (hb_.cell (World.block_lt_of_cell? _ _ HH.out.2.2.2.2.2.2.2.2.2.2.1)).trans HH.out.2.2.2.2.2.2.2.2.2.2.1, (hb_.cell (World.block_lt_of_cell? _ _ HH.out.2.2.2.2.2.2.2.2.2.2.2)).trans HH.out.2.2.2.2.2.2.2.2.2.2.2⟩ (fun hH2 => ?_)
      replace HH := Aside0.mk hH2
      clear hK K hH2
      replace F := Aside0.mk (hS _ _ F.out hb_)
      clear hb_
      refine norm_ (a' := ?_) ?_ ?_
      rotate_left
      · show Act.put _ (some 45) _ = _
        simp only [Act.put, List.setIfInBounds_toArray, List.set_cons_zero, List.set_cons_succ]
        rfl
      refine pure_ (i := 8) (N := some 46) (v := ?_) (a' := ?_) #[true, true, true, true, true, true, true, true, true, false, false, false, false, false, false] rfl rfl (by kernel_rfl) (fun _ _ _ h => h) (Or.inl ⟨by rfl, ?_⟩) ?_ ?_
      rotate_left
      · intro w'
        go_simp
        with_reducible rfl
      rotate_left
      · simp only [Act.put, List.setIfInBounds_toArray, List.set_cons_zero, List.set_cons_succ]
        rfl
      refine pure_ (i := 9) (N := some 47) (v := ?_) (a' := ?_) #[true, true, true, true, true, true, true, true, true, true, false, false, false, false, false] rfl rfl (by kernel_rfl) (fun _ _ _ h => h) (Or.inl ⟨by rfl, ?_⟩) ?_ ?_
      rotate_left
      · intro w'
        go_simp
        with_reducible rfl
      rotate_left
      · simp only [Act.put, List.setIfInBounds_toArray, List.set_cons_zero, List.set_cons_succ]
        rfl
      refine take_ (i := 10) (N := some 48) (v := ?_) (a' := ?_) #[true, true, true, true, true, true, true, true, true, true, true, false, false, false, false] rfl rfl (by kernel_rfl) (fun _ _ _ h => h) (Or.inl ⟨by rfl, ?_⟩) HH.out ?_ ?_
      rotate_left
      · intro w' hSw
        (try dsimp only at hSw)
        go_split_ands
        go_simp
        with_reducible rfl
      rotate_left
      · simp only [Act.put, List.setIfInBounds_toArray, List.set_cons_zero, List.set_cons_succ]
        rfl
      refine one_ (i := 11) (N := some 49) #[true, true, true, true, true, true, true, true, true, true, true, true, false, false, false] rfl rfl (by kernel_rfl) (by decide) (fun K hK => ?_)
      refine goes_ Try.func52 (by kernel_rfl) rfl #[.agg #[.int .i64 p.f0, .int .i64 p.f1, .int .i64 p.f2, .string p.f3, .slice a4 p.f4.length n4, .slice a5 p.f5.length n5], .bool true] (by rfl) rfl rfl (by first | rfl | (simp only [List.map_toArray, List.map_cons, List.map_nil]; rfl)) ?_
      refine Calls.mono (KCP _ (EP _ F.out)) ?_
      rintro e wk ⟨rfl, hb_⟩
      refine ⟨_, rfl, ?_⟩
      refine hK.out _ _ ⟨(hb_.cell (World.block_lt_of_cell? _ _ HH.out.1)).trans HH.out.1, (hb_.cell (World.block_lt_of_cell? _ _ HH.out.2.1)).trans HH.out.2.1, (hb_.cell (World.block_lt_of_cell? _ _ HH.out.2.2.1)).trans HH.out.2.2.1, (hb_.cell (World.block_lt_of_cell? _ _ HH.out.2.2.2.1)).trans HH.out.2.2.2.1, (hb_.cell (World.block_lt_of_cell? _ _ HH.out.2.2.2.2.1)).trans HH.out.2.2.2.2.1, (hb_.cell (World.block_lt_of_cell? _ _ HH.out.2.2.2.2.2.1)).trans HH.out.2.2.2.2.2.1, (hb_.cell (World.block_lt_of_cell? _ _ HH.out.2.2.2.2.2.2.1)).trans HH.out.2.2.2.2.2.2.1, (hb_.cell (World.block_lt_of_cell? _ _ HH.out.2.2.2.2.2.2.2.1)).trans HH.out.2.2.2.2.2.2.2.1, (hb_.cell (World.block_lt_of_cell? _ _ HH.out.2.2.2.2.2.2.2.2.1)).trans HH.out.2.2.2.2.2.2.2.2.1, (hb_.cell (World.block_lt_of_cell? _ _ HH.out.2.2.2.2.2.2.2.2.2.1)).trans HH.out.2.2.2.2.2.2.2.2.2.1, (hb_.cell (World.block_lt_of_cell? _ _ HH.out.2.2.2.2.2.2.2.2.2.2.1)).trans HH.out.2.2.2.2.2.2.2.2.2.2.1, (hb_.cell (World.block_lt_of_cell? _ _ HH.out.2.2.2.2.2.2.2.2.2.2.2)).trans HH.out.2.2.2.2.2.2.2.2.2.2.2⟩ (fun hH2 => ?_)
      replace HH := Aside0.mk hH2
      clear hK K hH2
      replace F := Aside0.mk (hS _ _ F.out hb_)
      clear hb_
      refine norm_ (a' := ?_) ?_ ?_
      rotate_left
      · show Act.put _ (some 49) _ = _
        simp only [Act.put, List.setIfInBounds_toArray, List.set_cons_zero, List.set_cons_succ]
        rfl
      refine pure_ (i := 12) (N := some 50) (v := ?_) (a' := ?_) #[true, true, true, true, true, true, true, true, true, true, true, true, true, false, false] rfl rfl (by kernel_rfl) (fun _ _ _ h => h) (Or.inl ⟨by rfl, ?_⟩) ?_ ?_
      rotate_left
      · intro w'
        go_simp
        with_reducible rfl
      rotate_left
      · simp only [Act.put, List.setIfInBounds_toArray, List.set_cons_zero, List.set_cons_succ]
        rfl
      refine chain_ [13, 14] _ _ _ _ (⟨_, _, rfl, rfl, ⟨_, _, rfl, rfl, rfl⟩⟩) (by kernel_rfl) (by decide) ?_
      go_wp2
      go_meet
      exact ⟨rfl, ⟨F.out⟩⟩
    · obtain ⟨cv, hcv'⟩ : ∃ cv, cv = chkV v true 0 := ⟨_, rfl⟩
      have hz : nzv cv = cv := nzv_of (by rw [hcv']; exact hcv)
      have KCV : ∀ W, HasV v A4 c4 A5 c5 W → Calls Try.prog 52 #[.agg #[.int .i64 v.f0, .int .i64 v.f1, .int .i64 v.f2, .string v.f3, .slice A4 v.f4.length c4, .slice A5 v.f5.length c5], .bool true] W fun e w' => e = .returned (.int .i64 (nzv cv)) ∧ RowKit.Below W.heap.size W w' := fun W h => by
        have h2 := K_check v A4 c4 A5 c5 true W h
        rw [← hcv', ← hz] at h2
        exact h2
      clear hcv' hcv hz
      refine start_ (n := 15) (S := (fun w' => w'.cell? ⟨w.heap.size, 0, none⟩ = some (.int .i64 v.f0) ∧ w'.cell? ⟨w.heap.size, 1, none⟩ = some (.int .i64 v.f1) ∧ w'.cell? ⟨w.heap.size, 2, none⟩ = some (.int .i64 v.f2) ∧ w'.cell? ⟨w.heap.size, 3, none⟩ = some (.string v.f3) ∧ w'.cell? ⟨w.heap.size, 4, none⟩ = some (.slice A4 v.f4.length c4) ∧ w'.cell? ⟨w.heap.size, 5, none⟩ = some (.slice A5 v.f5.length c5) ∧ w'.cell? ⟨w3.heap.size, 0, none⟩ = some (.int .i64 p.f0) ∧ w'.cell? ⟨w3.heap.size, 1, none⟩ = some (.int .i64 p.f1) ∧ w'.cell? ⟨w3.heap.size, 2, none⟩ = some (.int .i64 p.f2) ∧ w'.cell? ⟨w3.heap.size, 3, none⟩ = some (.string p.f3) ∧ w'.cell? ⟨w3.heap.size, 4, none⟩ = some (.slice a4 p.f4.length n4) ∧ w'.cell? ⟨w3.heap.size, 5, none⟩ = some (.slice a5 p.f5.length n5))) (ds := [13, 14]) #[false, false, false, false, false, false, false, false, false, false, false, false, false, false, false] (by kernel_rfl) rfl rfl (by refine ⟨?_, ?_, ?_, ?_, ?_, ?_, ?_, ?_, ?_, ?_, ?_, ?_⟩ <;> go_simp) (fun hHeld => ?_)
      refine take_ (i := 0) (N := some 38) (v := ?_) (a' := ?_) #[true, false, false, false, false, false, false, false, false, false, false, false, false, false, false] rfl rfl (by kernel_rfl) (fun _ _ _ h => h) (Or.inl ⟨by rfl, ?_⟩) hHeld ?_ ?_
      rotate_left
      · intro w' hSw
        (try dsimp only at hSw)
        go_split_ands
        go_simp
        with_reducible rfl
      rotate_left
      · simp only [Act.put, List.setIfInBounds_toArray, List.set_cons_zero, List.set_cons_succ]
        rfl
      refine take_ (i := 2) (N := some 40) (v := ?_) (a' := ?_) #[true, false, true, false, false, false, false, false, false, false, false, false, false, false, false] rfl rfl (by kernel_rfl) (fun _ _ _ h => h) (Or.inl ⟨by rfl, ?_⟩) hHeld ?_ ?_
      rotate_left
      · intro w' hSw
        (try dsimp only at hSw)
        go_split_ands
        go_simp
        with_reducible rfl
      rotate_left
      · simp only [Act.put, List.setIfInBounds_toArray, List.set_cons_zero, List.set_cons_succ]
        rfl
      have HH := Aside0.mk hHeld
      clear hHeld
      replace F := Aside0.mk (Stays.drew hS F.out)
      generalize W4.drew = W4 at *
      refine one_ (i := 1) (N := some 39) #[true, true, true, false, false, false, false, false, false, false, false, false, false, false, false] rfl rfl (by kernel_rfl) (by decide) (fun K hK => ?_)
      refine goes_ Try.func59 (by kernel_rfl) rfl #[.agg #[.int .i64 p.f0, .int .i64 p.f1, .int .i64 p.f2, .string p.f3, .slice a4 p.f4.length n4, .slice a5 p.f5.length n5]] (by rfl) rfl rfl (by first | rfl | (simp only [List.map_toArray, List.map_cons, List.map_nil]; rfl)) ?_
      refine Calls.mono (KPP _ (EP _ F.out)) ?_
      rintro e wk ⟨b4', m4', b5', m5', rfl, hr_, hb_⟩
      refine ⟨_, rfl, ?_⟩
      refine hK.out _ _ ⟨(hb_.cell (World.block_lt_of_cell? _ _ HH.out.1)).trans HH.out.1, (hb_.cell (World.block_lt_of_cell? _ _ HH.out.2.1)).trans HH.out.2.1, (hb_.cell (World.block_lt_of_cell? _ _ HH.out.2.2.1)).trans HH.out.2.2.1, (hb_.cell (World.block_lt_of_cell? _ _ HH.out.2.2.2.1)).trans HH.out.2.2.2.1, (hb_.cell (World.block_lt_of_cell? _ _ HH.out.2.2.2.2.1)).trans HH.out.2.2.2.2.1, (hb_.cell (World.block_lt_of_cell? _ _ HH.out.2.2.2.2.2.1)).trans HH.out.2.2.2.2.2.1, (hb_.cell (World.block_lt_of_cell? _ _ HH.out.2.2.2.2.2.2.1)).trans HH.out.2.2.2.2.2.2.1, (hb_.cell (World.block_lt_of_cell? _ _ HH.out.2.2.2.2.2.2.2.1)).trans HH.out.2.2.2.2.2.2.2.1, (hb_.cell (World.block_lt_of_cell? _ _ HH.out.2.2.2.2.2.2.2.2.1)).trans HH.out.2.2.2.2.2.2.2.2.1, (hb_.cell (World.block_lt_of_cell? _ _ HH.out.2.2.2.2.2.2.2.2.2.1)).trans HH.out.2.2.2.2.2.2.2.2.2.1, (hb_.cell (World.block_lt_of_cell? _ _ HH.out.2.2.2.2.2.2.2.2.2.2.1)).trans HH.out.2.2.2.2.2.2.2.2.2.2.1, (hb_.cell (World.block_lt_of_cell? _ _ HH.out.2.2.2.2.2.2.2.2.2.2.2)).trans HH.out.2.2.2.2.2.2.2.2.2.2.2⟩ (fun hH2 => ?_)
      replace HH := Aside0.mk hH2
      clear hK K hH2
      replace F := Aside0.mk (hS _ _ F.out hb_)
      have HR := Aside0.mk hr_
      clear hr_
      clear hb_
      refine norm_ (a' := ?_) ?_ ?_
      rotate_left
      · show Act.put _ (some 39) _ = _
        simp only [Act.put, List.setIfInBounds_toArray, List.set_cons_zero, List.set_cons_succ]
        rfl
      refine one_ (i := 3) (N := some 41) #[true, true, true, true, false, false, false, false, false, false, false, false, false, false, false] rfl rfl (by kernel_rfl) (by decide) (fun K hK => ?_)
      refine goes_ Try.func58 (by kernel_rfl) rfl #[.agg #[.int .i64 p.f0, .int .i64 p.f1, .int .i64 p.f2, .string p.f3, .slice b4' p.f4.length m4', .slice b5' p.f5.length m5'], .agg #[.int .i64 p.f0, .int .i64 p.f1, .int .i64 p.f2, .string p.f3, .slice a4 p.f4.length n4, .slice a5 p.f5.length n5]] (by rfl) rfl rfl (by first | rfl | (simp only [List.map_toArray, List.map_cons, List.map_nil]; rfl)) ?_
      refine Calls.mono (KEE _ _ _ _ _ HR.out (EP _ F.out)) ?_
      rintro e wk ⟨rfl, hb_⟩
      refine ⟨_, rfl, ?_⟩
      refine hK.out _ _ ⟨(hb_.cell (World.block_lt_of_cell? _ _ HH.out.1)).trans HH.out.1, (hb_.cell (World.block_lt_of_cell? _ _ HH.out.2.1)).trans HH.out.2.1, (hb_.cell (World.block_lt_of_cell? _ _ HH.out.2.2.1)).trans HH.out.2.2.1, (hb_.cell (World.block_lt_of_cell? _ _ HH.out.2.2.2.1)).trans HH.out.2.2.2.1, (hb_.cell (World.block_lt_of_cell? _ _ HH.out.2.2.2.2.1)).trans HH.out.2.2.2.2.1, (hb_.cell (World.block_lt_of_cell? _ _ HH.out.2.2.2.2.2.1)).trans HH.out.2.2.2.2.2.1, (hb_.cell (World.block_lt_of_cell? _ _ HH.out.2.2.2.2.2.2.1)).trans HH.out.2.2.2.2.2.2.1, (hb_.cell (World.block_lt_of_cell? _ _ HH.out.2.2.2.2.2.2.2.1)).trans HH.out.2.2.2.2.2.2.2.1, (hb_.cell (World.block_lt_of_cell? _ _ HH.out.2.2.2.2.2.2.2.2.1)).trans HH.out.2.2.2.2.2.2.2.2.1, (hb_.cell (World.block_lt_of_cell? _ _ HH.out.2.2.2.2.2.2.2.2.2.1)).trans HH.out.2.2.2.2.2.2.2.2.2.1, (hb_.cell (World.block_lt_of_cell? _ _ HH.out.2.2.2.2.2.2.2.2.2.2.1)).trans HH.out.2.2.2.2.2.2.2.2.2.2.1, (hb_.cell (World.block_lt_of_cell? _ _ HH.out.2.2.2.2.2.2.2.2.2.2.2)).trans HH.out.2.2.2.2.2.2.2.2.2.2.2⟩ (fun hH2 => ?_)
      replace HH := Aside0.mk hH2
      clear hK K hH2
      replace F := Aside0.mk (hS _ _ F.out hb_)
      clear hb_
      refine norm_ (a' := ?_) ?_ ?_
      rotate_left
      · show Act.put _ (some 41) _ = _
        simp only [Act.put, List.setIfInBounds_toArray, List.set_cons_zero, List.set_cons_succ]
        rfl
      refine pure_ (i := 4) (N := some 42) (v := ?_) (a' := ?_) #[true, true, true, true, true, false, false, false, false, false, false, false, false, false, false] rfl rfl (by kernel_rfl) (fun _ _ _ h => h) (Or.inl ⟨by rfl, ?_⟩) ?_ ?_
      rotate_left
      · intro w'
        go_simp
        with_reducible rfl
      rotate_left
      · simp only [Act.put, List.setIfInBounds_toArray, List.set_cons_zero, List.set_cons_succ]
        rfl
      refine pure_ (i := 5) (N := some 43) (v := ?_) (a' := ?_) #[true, true, true, true, true, true, false, false, false, false, false, false, false, false, false] rfl rfl (by kernel_rfl) (fun _ _ _ h => h) (Or.inl ⟨by rfl, ?_⟩) ?_ ?_
      rotate_left
      · intro w'
        go_simp
        with_reducible rfl
      rotate_left
      · simp only [Act.put, List.setIfInBounds_toArray, List.set_cons_zero, List.set_cons_succ]
        rfl
      refine take_ (i := 6) (N := some 44) (v := ?_) (a' := ?_) #[true, true, true, true, true, true, true, false, false, false, false, false, false, false, false] rfl rfl (by kernel_rfl) (fun _ _ _ h => h) (Or.inl ⟨by rfl, ?_⟩) HH.out ?_ ?_
      rotate_left
      · intro w' hSw
        (try dsimp only at hSw)
        go_split_ands
        go_simp
        with_reducible rfl
      rotate_left
      · simp only [Act.put, List.setIfInBounds_toArray, List.set_cons_zero, List.set_cons_succ]
        rfl
      refine one_ (i := 7) (N := some 45) #[true, true, true, true, true, true, true, true, false, false, false, false, false, false, false] rfl rfl (by kernel_rfl) (by decide) (fun K hK => ?_)
      refine goes_ Try.func52 (by kernel_rfl) rfl #[.agg #[.int .i64 v.f0, .int .i64 v.f1, .int .i64 v.f2, .string v.f3, .slice A4 v.f4.length c4, .slice A5 v.f5.length c5], .bool true] (by rfl) rfl rfl (by first | rfl | (simp only [List.map_toArray, List.map_cons, List.map_nil]; rfl)) ?_
      refine Calls.mono (KCV _ (EV _ F.out)) ?_
      rintro e wk ⟨rfl, hb_⟩
      refine ⟨_, rfl, ?_⟩
      refine hK.out _ _ ⟨(hb_.cell (World.block_lt_of_cell? _ _ HH.out.1)).trans HH.out.1, (hb_.cell (World.block_lt_of_cell? _ _ HH.out.2.1)).trans HH.out.2.1, (hb_.cell (World.block_lt_of_cell? _ _ HH.out.2.2.1)).trans HH.out.2.2.1, (hb_.cell (World.block_lt_of_cell? _ _ HH.out.2.2.2.1)).trans HH.out.2.2.2.1, (hb_.cell (World.block_lt_of_cell? _ _ HH.out.2.2.2.2.1)).trans HH.out.2.2.2.2.1, (hb_.cell (World.block_lt_of_cell? _ _ HH.out.2.2.2.2.2.1)).trans HH.out.2.2.2.2.2.1, (hb_.cell (World.block_lt_of_cell? _ _ HH.out.2.2.2.2.2.2.1)).trans HH.out.2.2.2.2.2.2.1, (hb_.cell (World.block_lt_of_cell? _ _ HH.out.2.2.2.2.2.2.2.1)).trans HH.out.2.2.2.2.2.2.2.1, (hb_.cell (World.block_lt_of_cell? _ _ HH.out.2.2.2.2.2.2.2.2.1)).trans HH.out.2.2.2.2.2.2.2.2.1, (hb_.cell (World.block_lt_of_cell? _ _ HH.out.2.2.2.2.2.2.2.2.2.1)).trans HH.out.2.2.2.2.2.2.2.2.2.1, (hb_.cell (World.block_lt_of_cell? _ _ HH.out.2.2.2.2.2.2.2.2.2.2.1)).trans HH.out.2.2.2.2.2.2.2.2.2.2.1, (hb_.cell (World.block_lt_of_cell? _ _ HH.out.2.2.2.2.2.2.2.2.2.2.2)).trans HH.out.2.2.2.2.2.2.2.2.2.2.2⟩ (fun hH2 => ?_)
      replace HH := Aside0.mk hH2
      clear hK K hH2
      replace F := Aside0.mk (hS _ _ F.out hb_)
      clear hb_
      refine norm_ (a' := ?_) ?_ ?_
      rotate_left
      · show Act.put _ (some 45) _ = _
        simp only [Act.put, List.setIfInBounds_toArray, List.set_cons_zero, List.set_cons_succ]
        rfl
      refine pure_ (i := 8) (N := some 46) (v := ?_) (a' := ?_) #[true, true, true, true, true, true, true, true, true, false, false, false, false, false, false] rfl rfl (by kernel_rfl) (fun _ _ _ h => h) (Or.inl ⟨by rfl, ?_⟩) ?_ ?_
      rotate_left
      · intro w'
        go_simp
        with_reducible rfl
      rotate_left
      · simp only [Act.put, List.setIfInBounds_toArray, List.set_cons_zero, List.set_cons_succ]
        rfl
      refine pure_ (i := 9) (N := some 47) (v := ?_) (a' := ?_) #[true, true, true, true, true, true, true, true, true, true, false, false, false, false, false] rfl rfl (by kernel_rfl) (fun _ _ _ h => h) (Or.inl ⟨by rfl, ?_⟩) ?_ ?_
      rotate_left
      · intro w'
        go_simp
        with_reducible rfl
      rotate_left
      · simp only [Act.put, List.setIfInBounds_toArray, List.set_cons_zero, List.set_cons_succ]
        rfl
      refine pure_ (i := 10) (N := some 48) (v := undef) (a' := ?_) #[true, true, true, true, true, true, true, true, true, true, true, false, false, false, false] rfl rfl (by kernel_rfl) (fun _ _ _ h => h) (Or.inr ⟨by rfl, rfl⟩) ?_ ?_
      rotate_left
      · simp only [Act.put, List.setIfInBounds_toArray, List.set_cons_zero, List.set_cons_succ]
        rfl
      refine pure_ (i := 11) (N := some 49) (v := undef) (a' := ?_) #[true, true, true, true, true, true, true, true, true, true, true, true, false, false, false] rfl rfl (by kernel_rfl) (fun _ _ _ h => h) (Or.inr ⟨by rfl, rfl⟩) ?_ ?_
      rotate_left
      · simp only [Act.put, List.setIfInBounds_toArray, List.set_cons_zero, List.set_cons_succ]
        rfl
      refine pure_ (i := 12) (N := some 50) (v := undef) (a' := ?_) #[true, true, true, true, true, true, true, true, true, true, true, true, true, false, false] rfl rfl (by kernel_rfl) (fun _ _ _ h => h) (Or.inr ⟨by rfl, rfl⟩) ?_ ?_
      rotate_left
      · simp only [Act.put, List.setIfInBounds_toArray, List.set_cons_zero, List.set_cons_succ]
        rfl
      refine chain_ [13, 14] _ _ _ _ (⟨_, _, rfl, rfl, ⟨_, _, rfl, rfl, rfl⟩⟩) (by kernel_rfl) (by decide) ?_
      go_wp2
      go_meet
      exact ⟨rfl, ⟨F.out⟩⟩
  case' rest => obtain ⟨rfl, F⟩ := hcut; clear F0 HV HX BV BX HB L1 HP BP L3
  have hq := F.out
  rw [HQ4.out] at hq
  obtain ⟨q1, q2, q3, q4, q5, q6, q7, q8, q9⟩ := hq
  have HV := Aside0.mk q1
  have HX := Aside0.mk q2
  have BV := Aside0.mk q3
  have BX := Aside0.mk q4
  have HB := Aside0.mk q5
  have L1 := Aside0.mk q6
  have hL1 := L1.out
  have hL0 : w.heap.size < wc.heap.size := by omega
  clear q1 q2 q3 q4 q5 q6 q7 q8 q9 F hS EV EP KPP KEE HQ4 FP PI CHK TP
  obtain ⟨u0, u1, u2, u3, u4, u5⟩ := box35 BV.out
  obtain ⟨v0, v1, v2, v3, v4, v5⟩ := box35 BX.out
  go_upto_if 55 with fail
  generalize htb : (v.f0 != 6) = tb
  have HTB := Aside0.mk htb
  clear htb
  cases tb
  case true =>
    go_wp2_with fail
    refine Calls.mono (values_calls _) ?_
    rintro e we ⟨rfl, hbe⟩
    have HE := Aside0.mk (stays_below _ _ _ HB.out (below_step (RowKit.Below.refl (wc).heap.size (wc)) hbe))
    clear hbe
    go_wp2
    go_ret
    exact ⟨rfl, HE.out⟩
  have H6 : v.f0 = 6 := by have h := HTB.out; simpa using h
  have hwd := WD.out H6
  have hwo := WO.out H6
  have htw := TW.out H6
  clear WD WO TW HTB
  obtain ⟨wv, hwv⟩ : ∃ wv, wv = withV v key x := ⟨_, rfl⟩
  rw [← hwv] at hwd hwo htw
  have hts := TS.out
  have FW := Aside0.mk (few_ts wv (by omega))
  have hga := tsV_get wv key
  obtain ⟨ga, hga'⟩ : ∃ ga, ga = getV wv key := ⟨_, rfl⟩
  rw [← hga'] at hga hwd
  have FG := Aside0.mk (few_ts ga (by omega))
  have KW := Aside0.mk (fun (W : World) (h1 : HasV v A4 c4 A5 c5 W) (h2 : HasV x B4 d4 B5 d5 W) => K_with v A4 c4 A5 c5 key x B4 d4 B5 d5 W FV.out FX.out h1 h2)
  rw [← hwv] at KW
  have KG1 := Aside0.mk (fun (a4 : Option Addr) (n4 : Nat) (a5 : Option Addr) (n5 : Nat) (W : World) (h : HasV wv a4 n4 a5 n5 W) => K_get wv a4 n4 a5 n5 key W FW.out h)
  rw [← hga'] at KG1
  have KG2 := Aside0.mk (fun (a4 : Option Addr) (n4 : Nat) (a5 : Option Addr) (n5 : Nat) (W : World) (h : HasV wv a4 n4 a5 n5 W) => K_get wv a4 n4 a5 n5 other W FW.out h)
  have KG3 := Aside0.mk (fun (W : World) (h : HasV v A4 c4 A5 c5 W) => K_get v A4 c4 A5 c5 other W FV.out h)
  have KSA := Aside0.mk (fun (a4 : Option Addr) (n4 : Nat) (a5 : Option Addr) (n5 : Nat) (W : World) (h : HasV ga a4 n4 a5 n5 W) (h2 : HasV x B4 d4 B5 d5 W) => K_same ga a4 n4 a5 n5 x B4 d4 B5 d5 W FG.out FX.out h h2)
  have KPX := Aside0.mk (fun (W : World) (h : HasV x B4 d4 B5 d5 W) => K_plain x B4 d4 B5 d5 W FX.out h)
  generalize hasK (plain wv).f5 key = ha at *
  generalize hasK (plain wv).f5 other = hb2 at *
  generalize hasK (plain v).f5 other = hc2 at *
  generalize getV wv other = gb at *
  generalize getV v other = gc at *
  rw [hwd.2, eqB_true rfl] at KSA
  have HHA := Aside0.mk hwd.1
  have HWO := Aside0.mk hwo
  generalize plain x = px at *
  clear hwd hwo htw hwv hga hga' hts TS H6 FV FX FW FG
  go_wp2_with fail
  refine Calls.mono (KW.out _ HV.out HX.out) ?_
  rintro e w5 ⟨a6, n6, a7, n7, rfl, hw, hb⟩
  have HW := Aside0.mk hw
  clear u0 u1 u2 u3 u4 u5 v0 v1 v2 v3 v4 v5
  clear hL0 hL1 KW
  replace HV := Aside0.mk ((stays_val _ _ _ _ _) _ _ HV.out hb)
  replace HX := Aside0.mk ((stays_val _ _ _ _ _) _ _ HX.out hb)
  replace BV := Aside0.mk ((stays_blk _ _) _ _ BV.out hb)
  replace BX := Aside0.mk ((stays_blk _ _) _ _ BX.out hb)
  replace HB := Aside0.mk ((stays_below _) _ _ HB.out hb)
  replace L1 := Aside0.mk ((stays_lt _) _ _ L1.out hb)
  have hL1 := L1.out
  have hL0 : w.heap.size < w5.heap.size := by omega
  clear hb hw
  clear hL0 hL1
  have g0_5 : w.heap.size < w5.heap.size := by have hh := L1.out; omega
  have g1_5 : w.heap.size + 1 < w5.heap.size := by have hh := L1.out; omega
  obtain ⟨u0, u1, u2, u3, u4, u5⟩ := box35 BV.out
  obtain ⟨v0, v1, v2, v3, v4, v5⟩ := box35 BX.out
  go_upto_region 9 with fail
  clear u0 u1 u2 u3 u4 u5 v0 v1 v2 v3 v4 v5
  replace HV := Aside0.mk ((stays_val _ _ _ _ _) _ _ HV.out (below_alloc (RowKit.Below.refl (w5).heap.size (w5)) (.cells #[.int .i64 wv.f0, .int .i64 wv.f1, .int .i64 wv.f2, .string wv.f3, .slice a6 wv.f4.length n6, .slice a7 wv.f5.length n7] 35)))
  replace HX := Aside0.mk ((stays_val _ _ _ _ _) _ _ HX.out (below_alloc (RowKit.Below.refl (w5).heap.size (w5)) (.cells #[.int .i64 wv.f0, .int .i64 wv.f1, .int .i64 wv.f2, .string wv.f3, .slice a6 wv.f4.length n6, .slice a7 wv.f5.length n7] 35)))
  replace BV := Aside0.mk ((stays_blk _ _) _ _ BV.out (below_alloc (RowKit.Below.refl (w5).heap.size (w5)) (.cells #[.int .i64 wv.f0, .int .i64 wv.f1, .int .i64 wv.f2, .string wv.f3, .slice a6 wv.f4.length n6, .slice a7 wv.f5.length n7] 35)))
  replace BX := Aside0.mk ((stays_blk _ _) _ _ BX.out (below_alloc (RowKit.Below.refl (w5).heap.size (w5)) (.cells #[.int .i64 wv.f0, .int .i64 wv.f1, .int .i64 wv.f2, .string wv.f3, .slice a6 wv.f4.length n6, .slice a7 wv.f5.length n7] 35)))
  replace HB := Aside0.mk ((stays_below _) _ _ HB.out (below_alloc (RowKit.Below.refl (w5).heap.size (w5)) (.cells #[.int .i64 wv.f0, .int .i64 wv.f1, .int .i64 wv.f2, .string wv.f3, .slice a6 wv.f4.length n6, .slice a7 wv.f5.length n7] 35)))
  replace L1 := Aside0.mk ((stays_lt _) _ _ L1.out (below_alloc (RowKit.Below.refl (w5).heap.size (w5)) (.cells #[.int .i64 wv.f0, .int .i64 wv.f1, .int .i64 wv.f2, .string wv.f3, .slice a6 wv.f4.length n6, .slice a7 wv.f5.length n7] 35)))
  replace HW := Aside0.mk ((stays_val _ _ _ _ _) _ _ HW.out (below_alloc (RowKit.Below.refl (w5).heap.size (w5)) (.cells #[.int .i64 wv.f0, .int .i64 wv.f1, .int .i64 wv.f2, .string wv.f3, .slice a6 wv.f4.length n6, .slice a7 wv.f5.length n7] 35)))
  have BW := Aside0.mk (blk_new w5 (.cells #[.int .i64 wv.f0, .int .i64 wv.f1, .int .i64 wv.f2, .string wv.f3, .slice a6 wv.f4.length n6, .slice a7 wv.f5.length n7] 35))
  have L5 := Aside0.mk (show w5.heap.size < (w5.alloc (.cells #[.int .i64 wv.f0, .int .i64 wv.f1, .int .i64 wv.f2, .string wv.f3, .slice a6 wv.f4.length n6, .slice a7 wv.f5.length n7] 35)).heap.size by simp)
  generalize hG5 : w5.alloc (.cells #[.int .i64 wv.f0, .int .i64 wv.f1, .int .i64 wv.f2, .string wv.f3, .slice a6 wv.f4.length n6, .slice a7 wv.f5.length n7] 35) = W5 at *
  clear hG5
  obtain ⟨y0, y1, y2, y3, y4, y5⟩ := box35 BW.out
  go_wp2_with fail
  refine Calls.mono (KG1.out _ _ _ _ _ HW.out) ?_
  rintro e w6 ⟨e4, m4, e5, m5, rfl, hw, hb⟩
  have HG := Aside0.mk hw
  clear y0 y1 y2 y3 y4 y5
  replace HV := Aside0.mk ((stays_val _ _ _ _ _) _ _ HV.out hb)
  replace HX := Aside0.mk ((stays_val _ _ _ _ _) _ _ HX.out hb)
  replace BV := Aside0.mk ((stays_blk _ _) _ _ BV.out hb)
  replace BX := Aside0.mk ((stays_blk _ _) _ _ BX.out hb)
  replace HB := Aside0.mk ((stays_below _) _ _ HB.out hb)
  replace L1 := Aside0.mk ((stays_lt _) _ _ L1.out hb)
  replace HW := Aside0.mk ((stays_val _ _ _ _ _) _ _ HW.out hb)
  replace BW := Aside0.mk ((stays_blk _ _) _ _ BW.out hb)
  replace L5 := Aside0.mk ((stays_lt _) _ _ L5.out hb)
  clear hb hw KG1
  have g0_6 : w.heap.size < w6.heap.size := by have hh := L1.out; omega
  have g1_6 : w.heap.size + 1 < w6.heap.size := by have hh := L1.out; omega
  have g5_6 : w5.heap.size < w6.heap.size := by have hh := L5.out; omega
  go_upto_region 10 with fail
  replace HV := Aside0.mk ((stays_val _ _ _ _ _) _ _ HV.out (below_alloc (RowKit.Below.refl (w6).heap.size (w6)) (.cells #[.int .i64 ga.f0, .int .i64 ga.f1, .int .i64 ga.f2, .string ga.f3, .slice e4 ga.f4.length m4, .slice e5 ga.f5.length m5] 35)))
  replace HX := Aside0.mk ((stays_val _ _ _ _ _) _ _ HX.out (below_alloc (RowKit.Below.refl (w6).heap.size (w6)) (.cells #[.int .i64 ga.f0, .int .i64 ga.f1, .int .i64 ga.f2, .string ga.f3, .slice e4 ga.f4.length m4, .slice e5 ga.f5.length m5] 35)))
  replace BV := Aside0.mk ((stays_blk _ _) _ _ BV.out (below_alloc (RowKit.Below.refl (w6).heap.size (w6)) (.cells #[.int .i64 ga.f0, .int .i64 ga.f1, .int .i64 ga.f2, .string ga.f3, .slice e4 ga.f4.length m4, .slice e5 ga.f5.length m5] 35)))
  replace BX := Aside0.mk ((stays_blk _ _) _ _ BX.out (below_alloc (RowKit.Below.refl (w6).heap.size (w6)) (.cells #[.int .i64 ga.f0, .int .i64 ga.f1, .int .i64 ga.f2, .string ga.f3, .slice e4 ga.f4.length m4, .slice e5 ga.f5.length m5] 35)))
  replace HB := Aside0.mk ((stays_below _) _ _ HB.out (below_alloc (RowKit.Below.refl (w6).heap.size (w6)) (.cells #[.int .i64 ga.f0, .int .i64 ga.f1, .int .i64 ga.f2, .string ga.f3, .slice e4 ga.f4.length m4, .slice e5 ga.f5.length m5] 35)))
  replace L1 := Aside0.mk ((stays_lt _) _ _ L1.out (below_alloc (RowKit.Below.refl (w6).heap.size (w6)) (.cells #[.int .i64 ga.f0, .int .i64 ga.f1, .int .i64 ga.f2, .string ga.f3, .slice e4 ga.f4.length m4, .slice e5 ga.f5.length m5] 35)))
  replace HW := Aside0.mk ((stays_val _ _ _ _ _) _ _ HW.out (below_alloc (RowKit.Below.refl (w6).heap.size (w6)) (.cells #[.int .i64 ga.f0, .int .i64 ga.f1, .int .i64 ga.f2, .string ga.f3, .slice e4 ga.f4.length m4, .slice e5 ga.f5.length m5] 35)))
  replace BW := Aside0.mk ((stays_blk _ _) _ _ BW.out (below_alloc (RowKit.Below.refl (w6).heap.size (w6)) (.cells #[.int .i64 ga.f0, .int .i64 ga.f1, .int .i64 ga.f2, .string ga.f3, .slice e4 ga.f4.length m4, .slice e5 ga.f5.length m5] 35)))
  replace L5 := Aside0.mk ((stays_lt _) _ _ L5.out (below_alloc (RowKit.Below.refl (w6).heap.size (w6)) (.cells #[.int .i64 ga.f0, .int .i64 ga.f1, .int .i64 ga.f2, .string ga.f3, .slice e4 ga.f4.length m4, .slice e5 ga.f5.length m5] 35)))
  replace HG := Aside0.mk ((stays_val _ _ _ _ _) _ _ HG.out (below_alloc (RowKit.Below.refl (w6).heap.size (w6)) (.cells #[.int .i64 ga.f0, .int .i64 ga.f1, .int .i64 ga.f2, .string ga.f3, .slice e4 ga.f4.length m4, .slice e5 ga.f5.length m5] 35)))
  have BG := Aside0.mk (blk_new w6 (.cells #[.int .i64 ga.f0, .int .i64 ga.f1, .int .i64 ga.f2, .string ga.f3, .slice e4 ga.f4.length m4, .slice e5 ga.f5.length m5] 35))
  have L6 := Aside0.mk (show w6.heap.size < (w6.alloc (.cells #[.int .i64 ga.f0, .int .i64 ga.f1, .int .i64 ga.f2, .string ga.f3, .slice e4 ga.f4.length m4, .slice e5 ga.f5.length m5] 35)).heap.size by simp)
  generalize hG6 : w6.alloc (.cells #[.int .i64 ga.f0, .int .i64 ga.f1, .int .i64 ga.f2, .string ga.f3, .slice e4 ga.f4.length m4, .slice e5 ga.f5.length m5] 35) = W6 at *
  clear hG6
  obtain ⟨y0, y1, y2, y3, y4, y5⟩ := box35 BW.out
  go_wp2_with fail
  refine Calls.mono (KG2.out _ _ _ _ _ HW.out) ?_
  rintro e w7 ⟨f4, o4, f5, o5, rfl, hw, hb⟩
  have HBB := Aside0.mk hw
  clear y0 y1 y2 y3 y4 y5
  replace HV := Aside0.mk ((stays_val _ _ _ _ _) _ _ HV.out hb)
  replace HX := Aside0.mk ((stays_val _ _ _ _ _) _ _ HX.out hb)
  replace BV := Aside0.mk ((stays_blk _ _) _ _ BV.out hb)
  replace BX := Aside0.mk ((stays_blk _ _) _ _ BX.out hb)
  replace HB := Aside0.mk ((stays_below _) _ _ HB.out hb)
  replace L1 := Aside0.mk ((stays_lt _) _ _ L1.out hb)
  replace HW := Aside0.mk ((stays_val _ _ _ _ _) _ _ HW.out hb)
  replace BW := Aside0.mk ((stays_blk _ _) _ _ BW.out hb)
  replace L5 := Aside0.mk ((stays_lt _) _ _ L5.out hb)
  replace HG := Aside0.mk ((stays_val _ _ _ _ _) _ _ HG.out hb)
  replace BG := Aside0.mk ((stays_blk _ _) _ _ BG.out hb)
  replace L6 := Aside0.mk ((stays_lt _) _ _ L6.out hb)
  clear hb hw KG2
  have g0_7 : w.heap.size < w7.heap.size := by have hh := L1.out; omega
  have g1_7 : w.heap.size + 1 < w7.heap.size := by have hh := L1.out; omega
  have g5_7 : w5.heap.size < w7.heap.size := by have hh := L5.out; omega
  have g6_7 : w6.heap.size < w7.heap.size := by have hh := L6.out; omega
  go_upto_region 11 with fail
  replace HV := Aside0.mk ((stays_val _ _ _ _ _) _ _ HV.out (below_alloc (RowKit.Below.refl (w7).heap.size (w7)) (.cells #[.int .i64 gb.f0, .int .i64 gb.f1, .int .i64 gb.f2, .string gb.f3, .slice f4 gb.f4.length o4, .slice f5 gb.f5.length o5] 35)))
  replace HX := Aside0.mk ((stays_val _ _ _ _ _) _ _ HX.out (below_alloc (RowKit.Below.refl (w7).heap.size (w7)) (.cells #[.int .i64 gb.f0, .int .i64 gb.f1, .int .i64 gb.f2, .string gb.f3, .slice f4 gb.f4.length o4, .slice f5 gb.f5.length o5] 35)))
  replace BV := Aside0.mk ((stays_blk _ _) _ _ BV.out (below_alloc (RowKit.Below.refl (w7).heap.size (w7)) (.cells #[.int .i64 gb.f0, .int .i64 gb.f1, .int .i64 gb.f2, .string gb.f3, .slice f4 gb.f4.length o4, .slice f5 gb.f5.length o5] 35)))
  replace BX := Aside0.mk ((stays_blk _ _) _ _ BX.out (below_alloc (RowKit.Below.refl (w7).heap.size (w7)) (.cells #[.int .i64 gb.f0, .int .i64 gb.f1, .int .i64 gb.f2, .string gb.f3, .slice f4 gb.f4.length o4, .slice f5 gb.f5.length o5] 35)))
  replace HB := Aside0.mk ((stays_below _) _ _ HB.out (below_alloc (RowKit.Below.refl (w7).heap.size (w7)) (.cells #[.int .i64 gb.f0, .int .i64 gb.f1, .int .i64 gb.f2, .string gb.f3, .slice f4 gb.f4.length o4, .slice f5 gb.f5.length o5] 35)))
  replace L1 := Aside0.mk ((stays_lt _) _ _ L1.out (below_alloc (RowKit.Below.refl (w7).heap.size (w7)) (.cells #[.int .i64 gb.f0, .int .i64 gb.f1, .int .i64 gb.f2, .string gb.f3, .slice f4 gb.f4.length o4, .slice f5 gb.f5.length o5] 35)))
  replace HW := Aside0.mk ((stays_val _ _ _ _ _) _ _ HW.out (below_alloc (RowKit.Below.refl (w7).heap.size (w7)) (.cells #[.int .i64 gb.f0, .int .i64 gb.f1, .int .i64 gb.f2, .string gb.f3, .slice f4 gb.f4.length o4, .slice f5 gb.f5.length o5] 35)))
  replace BW := Aside0.mk ((stays_blk _ _) _ _ BW.out (below_alloc (RowKit.Below.refl (w7).heap.size (w7)) (.cells #[.int .i64 gb.f0, .int .i64 gb.f1, .int .i64 gb.f2, .string gb.f3, .slice f4 gb.f4.length o4, .slice f5 gb.f5.length o5] 35)))
  replace L5 := Aside0.mk ((stays_lt _) _ _ L5.out (below_alloc (RowKit.Below.refl (w7).heap.size (w7)) (.cells #[.int .i64 gb.f0, .int .i64 gb.f1, .int .i64 gb.f2, .string gb.f3, .slice f4 gb.f4.length o4, .slice f5 gb.f5.length o5] 35)))
  replace HG := Aside0.mk ((stays_val _ _ _ _ _) _ _ HG.out (below_alloc (RowKit.Below.refl (w7).heap.size (w7)) (.cells #[.int .i64 gb.f0, .int .i64 gb.f1, .int .i64 gb.f2, .string gb.f3, .slice f4 gb.f4.length o4, .slice f5 gb.f5.length o5] 35)))
  replace BG := Aside0.mk ((stays_blk _ _) _ _ BG.out (below_alloc (RowKit.Below.refl (w7).heap.size (w7)) (.cells #[.int .i64 gb.f0, .int .i64 gb.f1, .int .i64 gb.f2, .string gb.f3, .slice f4 gb.f4.length o4, .slice f5 gb.f5.length o5] 35)))
  replace L6 := Aside0.mk ((stays_lt _) _ _ L6.out (below_alloc (RowKit.Below.refl (w7).heap.size (w7)) (.cells #[.int .i64 gb.f0, .int .i64 gb.f1, .int .i64 gb.f2, .string gb.f3, .slice f4 gb.f4.length o4, .slice f5 gb.f5.length o5] 35)))
  replace HBB := Aside0.mk ((stays_val _ _ _ _ _) _ _ HBB.out (below_alloc (RowKit.Below.refl (w7).heap.size (w7)) (.cells #[.int .i64 gb.f0, .int .i64 gb.f1, .int .i64 gb.f2, .string gb.f3, .slice f4 gb.f4.length o4, .slice f5 gb.f5.length o5] 35)))
  have BB := Aside0.mk (blk_new w7 (.cells #[.int .i64 gb.f0, .int .i64 gb.f1, .int .i64 gb.f2, .string gb.f3, .slice f4 gb.f4.length o4, .slice f5 gb.f5.length o5] 35))
  have L7 := Aside0.mk (show w7.heap.size < (w7.alloc (.cells #[.int .i64 gb.f0, .int .i64 gb.f1, .int .i64 gb.f2, .string gb.f3, .slice f4 gb.f4.length o4, .slice f5 gb.f5.length o5] 35)).heap.size by simp)
  generalize hG7 : w7.alloc (.cells #[.int .i64 gb.f0, .int .i64 gb.f1, .int .i64 gb.f2, .string gb.f3, .slice f4 gb.f4.length o4, .slice f5 gb.f5.length o5] 35) = W7 at *
  clear hG7
  obtain ⟨u0, u1, u2, u3, u4, u5⟩ := box35 BV.out
  go_wp2_with fail
  refine Calls.mono (KG3.out _ HV.out) ?_
  rintro e w8 ⟨r4, s4, r5, s5, rfl, hw, hb⟩
  have HC := Aside0.mk hw
  clear u0 u1 u2 u3 u4 u5
  replace HV := Aside0.mk ((stays_val _ _ _ _ _) _ _ HV.out hb)
  replace HX := Aside0.mk ((stays_val _ _ _ _ _) _ _ HX.out hb)
  replace BV := Aside0.mk ((stays_blk _ _) _ _ BV.out hb)
  replace BX := Aside0.mk ((stays_blk _ _) _ _ BX.out hb)
  replace HB := Aside0.mk ((stays_below _) _ _ HB.out hb)
  replace L1 := Aside0.mk ((stays_lt _) _ _ L1.out hb)
  replace HW := Aside0.mk ((stays_val _ _ _ _ _) _ _ HW.out hb)
  replace BW := Aside0.mk ((stays_blk _ _) _ _ BW.out hb)
  replace L5 := Aside0.mk ((stays_lt _) _ _ L5.out hb)
  replace HG := Aside0.mk ((stays_val _ _ _ _ _) _ _ HG.out hb)
  replace BG := Aside0.mk ((stays_blk _ _) _ _ BG.out hb)
  replace L6 := Aside0.mk ((stays_lt _) _ _ L6.out hb)
  replace HBB := Aside0.mk ((stays_val _ _ _ _ _) _ _ HBB.out hb)
  replace BB := Aside0.mk ((stays_blk _ _) _ _ BB.out hb)
  replace L7 := Aside0.mk ((stays_lt _) _ _ L7.out hb)
  clear hb hw KG3
  have g0_8 : w.heap.size < w8.heap.size := by have hh := L1.out; omega
  have g1_8 : w.heap.size + 1 < w8.heap.size := by have hh := L1.out; omega
  have g5_8 : w5.heap.size < w8.heap.size := by have hh := L5.out; omega
  have g6_8 : w6.heap.size < w8.heap.size := by have hh := L6.out; omega
  have g7_8 : w7.heap.size < w8.heap.size := by have hh := L7.out; omega
  go_upto_region 12 with fail
  replace HV := Aside0.mk ((stays_val _ _ _ _ _) _ _ HV.out (below_alloc (RowKit.Below.refl (w8).heap.size (w8)) (.cells #[.int .i64 gc.f0, .int .i64 gc.f1, .int .i64 gc.f2, .string gc.f3, .slice r4 gc.f4.length s4, .slice r5 gc.f5.length s5] 35)))
  replace HX := Aside0.mk ((stays_val _ _ _ _ _) _ _ HX.out (below_alloc (RowKit.Below.refl (w8).heap.size (w8)) (.cells #[.int .i64 gc.f0, .int .i64 gc.f1, .int .i64 gc.f2, .string gc.f3, .slice r4 gc.f4.length s4, .slice r5 gc.f5.length s5] 35)))
  replace BV := Aside0.mk ((stays_blk _ _) _ _ BV.out (below_alloc (RowKit.Below.refl (w8).heap.size (w8)) (.cells #[.int .i64 gc.f0, .int .i64 gc.f1, .int .i64 gc.f2, .string gc.f3, .slice r4 gc.f4.length s4, .slice r5 gc.f5.length s5] 35)))
  replace BX := Aside0.mk ((stays_blk _ _) _ _ BX.out (below_alloc (RowKit.Below.refl (w8).heap.size (w8)) (.cells #[.int .i64 gc.f0, .int .i64 gc.f1, .int .i64 gc.f2, .string gc.f3, .slice r4 gc.f4.length s4, .slice r5 gc.f5.length s5] 35)))
  replace HB := Aside0.mk ((stays_below _) _ _ HB.out (below_alloc (RowKit.Below.refl (w8).heap.size (w8)) (.cells #[.int .i64 gc.f0, .int .i64 gc.f1, .int .i64 gc.f2, .string gc.f3, .slice r4 gc.f4.length s4, .slice r5 gc.f5.length s5] 35)))
  replace L1 := Aside0.mk ((stays_lt _) _ _ L1.out (below_alloc (RowKit.Below.refl (w8).heap.size (w8)) (.cells #[.int .i64 gc.f0, .int .i64 gc.f1, .int .i64 gc.f2, .string gc.f3, .slice r4 gc.f4.length s4, .slice r5 gc.f5.length s5] 35)))
  replace HW := Aside0.mk ((stays_val _ _ _ _ _) _ _ HW.out (below_alloc (RowKit.Below.refl (w8).heap.size (w8)) (.cells #[.int .i64 gc.f0, .int .i64 gc.f1, .int .i64 gc.f2, .string gc.f3, .slice r4 gc.f4.length s4, .slice r5 gc.f5.length s5] 35)))
  replace BW := Aside0.mk ((stays_blk _ _) _ _ BW.out (below_alloc (RowKit.Below.refl (w8).heap.size (w8)) (.cells #[.int .i64 gc.f0, .int .i64 gc.f1, .int .i64 gc.f2, .string gc.f3, .slice r4 gc.f4.length s4, .slice r5 gc.f5.length s5] 35)))
  replace L5 := Aside0.mk ((stays_lt _) _ _ L5.out (below_alloc (RowKit.Below.refl (w8).heap.size (w8)) (.cells #[.int .i64 gc.f0, .int .i64 gc.f1, .int .i64 gc.f2, .string gc.f3, .slice r4 gc.f4.length s4, .slice r5 gc.f5.length s5] 35)))
  replace HG := Aside0.mk ((stays_val _ _ _ _ _) _ _ HG.out (below_alloc (RowKit.Below.refl (w8).heap.size (w8)) (.cells #[.int .i64 gc.f0, .int .i64 gc.f1, .int .i64 gc.f2, .string gc.f3, .slice r4 gc.f4.length s4, .slice r5 gc.f5.length s5] 35)))
  replace BG := Aside0.mk ((stays_blk _ _) _ _ BG.out (below_alloc (RowKit.Below.refl (w8).heap.size (w8)) (.cells #[.int .i64 gc.f0, .int .i64 gc.f1, .int .i64 gc.f2, .string gc.f3, .slice r4 gc.f4.length s4, .slice r5 gc.f5.length s5] 35)))
  replace L6 := Aside0.mk ((stays_lt _) _ _ L6.out (below_alloc (RowKit.Below.refl (w8).heap.size (w8)) (.cells #[.int .i64 gc.f0, .int .i64 gc.f1, .int .i64 gc.f2, .string gc.f3, .slice r4 gc.f4.length s4, .slice r5 gc.f5.length s5] 35)))
  replace HBB := Aside0.mk ((stays_val _ _ _ _ _) _ _ HBB.out (below_alloc (RowKit.Below.refl (w8).heap.size (w8)) (.cells #[.int .i64 gc.f0, .int .i64 gc.f1, .int .i64 gc.f2, .string gc.f3, .slice r4 gc.f4.length s4, .slice r5 gc.f5.length s5] 35)))
  replace BB := Aside0.mk ((stays_blk _ _) _ _ BB.out (below_alloc (RowKit.Below.refl (w8).heap.size (w8)) (.cells #[.int .i64 gc.f0, .int .i64 gc.f1, .int .i64 gc.f2, .string gc.f3, .slice r4 gc.f4.length s4, .slice r5 gc.f5.length s5] 35)))
  replace L7 := Aside0.mk ((stays_lt _) _ _ L7.out (below_alloc (RowKit.Below.refl (w8).heap.size (w8)) (.cells #[.int .i64 gc.f0, .int .i64 gc.f1, .int .i64 gc.f2, .string gc.f3, .slice r4 gc.f4.length s4, .slice r5 gc.f5.length s5] 35)))
  replace HC := Aside0.mk ((stays_val _ _ _ _ _) _ _ HC.out (below_alloc (RowKit.Below.refl (w8).heap.size (w8)) (.cells #[.int .i64 gc.f0, .int .i64 gc.f1, .int .i64 gc.f2, .string gc.f3, .slice r4 gc.f4.length s4, .slice r5 gc.f5.length s5] 35)))
  have BC := Aside0.mk (blk_new w8 (.cells #[.int .i64 gc.f0, .int .i64 gc.f1, .int .i64 gc.f2, .string gc.f3, .slice r4 gc.f4.length s4, .slice r5 gc.f5.length s5] 35))
  have L8 := Aside0.mk (show w8.heap.size < (w8.alloc (.cells #[.int .i64 gc.f0, .int .i64 gc.f1, .int .i64 gc.f2, .string gc.f3, .slice r4 gc.f4.length s4, .slice r5 gc.f5.length s5] 35)).heap.size by simp)
  generalize hG8 : w8.alloc (.cells #[.int .i64 gc.f0, .int .i64 gc.f1, .int .i64 gc.f2, .string gc.f3, .slice r4 gc.f4.length s4, .slice r5 gc.f5.length s5] 35) = W8 at *
  clear hG8
  obtain ⟨u0, u1, u2, u3, u4, u5⟩ := box35 BB.out
  obtain ⟨v0, v1, v2, v3, v4, v5⟩ := box35 BC.out
  obtain ⟨y0, y1, y2, y3, y4, y5⟩ := box35 BX.out
  obtain ⟨z0, z1, z2, z3, z4, z5⟩ := box35 BG.out
  go_wp2_with fail
  · exact absurd (HWO.out (data_ne (by assumption))).1 (by assumption)
  · have hk : ¬ other.toList = key.toList := by assumption
    obtain ⟨-, rfl⟩ := HWO.out (data_ne hk)
    have KE := K_equal gb f4 o4 f5 o5 gb r4 s4 r5 s5 W8 HBB.out HC.out
    rw [eqB_true rfl] at KE
    refine Calls.mono KE ?_
    rintro e w9 ⟨rfl, hb⟩
    clear u0 u1 u2 u3 u4 u5 v0 v1 v2 v3 v4 v5 y0 y1 y2 y3 y4 y5 z0 z1 z2 z3 z4 z5
    replace HV := Aside0.mk ((stays_val _ _ _ _ _) _ _ HV.out hb)
    replace HX := Aside0.mk ((stays_val _ _ _ _ _) _ _ HX.out hb)
    replace BV := Aside0.mk ((stays_blk _ _) _ _ BV.out hb)
    replace BX := Aside0.mk ((stays_blk _ _) _ _ BX.out hb)
    replace HB := Aside0.mk ((stays_below _) _ _ HB.out hb)
    replace L1 := Aside0.mk ((stays_lt _) _ _ L1.out hb)
    replace HW := Aside0.mk ((stays_val _ _ _ _ _) _ _ HW.out hb)
    replace BW := Aside0.mk ((stays_blk _ _) _ _ BW.out hb)
    replace L5 := Aside0.mk ((stays_lt _) _ _ L5.out hb)
    replace HG := Aside0.mk ((stays_val _ _ _ _ _) _ _ HG.out hb)
    replace BG := Aside0.mk ((stays_blk _ _) _ _ BG.out hb)
    replace L6 := Aside0.mk ((stays_lt _) _ _ L6.out hb)
    replace HBB := Aside0.mk ((stays_val _ _ _ _ _) _ _ HBB.out hb)
    replace BB := Aside0.mk ((stays_blk _ _) _ _ BB.out hb)
    replace L7 := Aside0.mk ((stays_lt _) _ _ L7.out hb)
    replace HC := Aside0.mk ((stays_val _ _ _ _ _) _ _ HC.out hb)
    replace BC := Aside0.mk ((stays_blk _ _) _ _ BC.out hb)
    replace L8 := Aside0.mk ((stays_lt _) _ _ L8.out hb)
    clear hb KE
    obtain ⟨y0, y1, y2, y3, y4, y5⟩ := box35 BX.out
    go_wp2_with fail
    refine Calls.mono (KPX.out _ HX.out) ?_
    rintro e w10 ⟨p4, pz4, p5, pz5, rfl, -, hb⟩
    clear y0 y1 y2 y3 y4 y5
    replace HV := Aside0.mk ((stays_val _ _ _ _ _) _ _ HV.out hb)
    replace HX := Aside0.mk ((stays_val _ _ _ _ _) _ _ HX.out hb)
    replace BV := Aside0.mk ((stays_blk _ _) _ _ BV.out hb)
    replace BX := Aside0.mk ((stays_blk _ _) _ _ BX.out hb)
    replace HB := Aside0.mk ((stays_below _) _ _ HB.out hb)
    replace L1 := Aside0.mk ((stays_lt _) _ _ L1.out hb)
    replace HW := Aside0.mk ((stays_val _ _ _ _ _) _ _ HW.out hb)
    replace BW := Aside0.mk ((stays_blk _ _) _ _ BW.out hb)
    replace L5 := Aside0.mk ((stays_lt _) _ _ L5.out hb)
    replace HG := Aside0.mk ((stays_val _ _ _ _ _) _ _ HG.out hb)
    replace BG := Aside0.mk ((stays_blk _ _) _ _ BG.out hb)
    replace L6 := Aside0.mk ((stays_lt _) _ _ L6.out hb)
    replace HBB := Aside0.mk ((stays_val _ _ _ _ _) _ _ HBB.out hb)
    replace BB := Aside0.mk ((stays_blk _ _) _ _ BB.out hb)
    replace L7 := Aside0.mk ((stays_lt _) _ _ L7.out hb)
    replace HC := Aside0.mk ((stays_val _ _ _ _ _) _ _ HC.out hb)
    replace BC := Aside0.mk ((stays_blk _ _) _ _ BC.out hb)
    replace L8 := Aside0.mk ((stays_lt _) _ _ L8.out hb)
    clear hb KPX
    have hha := HHA.out
    generalize px.f0 = z at *
    obtain ⟨u0, u1, u2, u3, u4, u5⟩ := box35 BG.out
    obtain ⟨v0, v1, v2, v3, v4, v5⟩ := box35 BX.out
    by_cases hz : z = 0
    · subst hz
      obtain rfl : ha = false := by rw [hha]; simp
      clear hha HHA
      go_wp2_with fail
      refine Calls.mono (KSA.out _ _ _ _ _ HG.out HX.out) ?_
      rintro e w11 ⟨rfl, hb⟩
      clear u0 u1 u2 u3 u4 u5 v0 v1 v2 v3 v4 v5
      replace HB := Aside0.mk (stays_below _ _ _ HB.out hb)
      clear hb
      go_wp2_with fail
      refine Calls.mono (values_calls _) ?_
      rintro e w12 ⟨rfl, hb⟩
      replace HB := Aside0.mk (stays_below _ _ _ HB.out hb)
      clear hb
      go_wp2
      go_ret
      exact ⟨rfl, HB.out⟩
    · obtain rfl : ha = true := by rw [hha]; simpa using hz
      obtain ⟨z', rfl⟩ : ∃ z', z = nzv z' := ⟨z, (nzv_of hz).symm⟩
      clear hha HHA hz
      go_wp2_with fail
      refine Calls.mono (KSA.out _ _ _ _ _ HG.out HX.out) ?_
      rintro e w11 ⟨rfl, hb⟩
      clear u0 u1 u2 u3 u4 u5 v0 v1 v2 v3 v4 v5
      replace HB := Aside0.mk (stays_below _ _ _ HB.out hb)
      clear hb
      go_wp2_with fail
      refine Calls.mono (values_calls _) ?_
      rintro e w12 ⟨rfl, hb⟩
      replace HB := Aside0.mk (stays_below _ _ _ HB.out hb)
      clear hb
      go_wp2
      go_ret
      exact ⟨rfl, HB.out⟩
  · have hfd2 := hfd
    refine Calls.mono (KPX.out _ HX.out) ?_
    rintro e w10 ⟨p4, pz4, p5, pz5, rfl, -, hb⟩
    clear u0 u1 u2 u3 u4 u5 v0 v1 v2 v3 v4 v5 y0 y1 y2 y3 y4 y5 z0 z1 z2 z3 z4 z5
    replace HV := Aside0.mk ((stays_val _ _ _ _ _) _ _ HV.out hb)
    replace HX := Aside0.mk ((stays_val _ _ _ _ _) _ _ HX.out hb)
    replace BV := Aside0.mk ((stays_blk _ _) _ _ BV.out hb)
    replace BX := Aside0.mk ((stays_blk _ _) _ _ BX.out hb)
    replace HB := Aside0.mk ((stays_below _) _ _ HB.out hb)
    replace L1 := Aside0.mk ((stays_lt _) _ _ L1.out hb)
    replace HW := Aside0.mk ((stays_val _ _ _ _ _) _ _ HW.out hb)
    replace BW := Aside0.mk ((stays_blk _ _) _ _ BW.out hb)
    replace L5 := Aside0.mk ((stays_lt _) _ _ L5.out hb)
    replace HG := Aside0.mk ((stays_val _ _ _ _ _) _ _ HG.out hb)
    replace BG := Aside0.mk ((stays_blk _ _) _ _ BG.out hb)
    replace L6 := Aside0.mk ((stays_lt _) _ _ L6.out hb)
    replace HBB := Aside0.mk ((stays_val _ _ _ _ _) _ _ HBB.out hb)
    replace BB := Aside0.mk ((stays_blk _ _) _ _ BB.out hb)
    replace L7 := Aside0.mk ((stays_lt _) _ _ L7.out hb)
    replace HC := Aside0.mk ((stays_val _ _ _ _ _) _ _ HC.out hb)
    replace BC := Aside0.mk ((stays_blk _ _) _ _ BC.out hb)
    replace L8 := Aside0.mk ((stays_lt _) _ _ L8.out hb)
    clear hb KPX
    have hha := HHA.out
    generalize px.f0 = z at *
    obtain ⟨u0, u1, u2, u3, u4, u5⟩ := box35 BG.out
    obtain ⟨v0, v1, v2, v3, v4, v5⟩ := box35 BX.out
    by_cases hz : z = 0
    · subst hz
      obtain rfl : ha = false := by rw [hha]; simp
      clear hha HHA
      go_wp2_with fail
      refine Calls.mono (KSA.out _ _ _ _ _ HG.out HX.out) ?_
      rintro e w11 ⟨rfl, hb⟩
      clear u0 u1 u2 u3 u4 u5 v0 v1 v2 v3 v4 v5
      replace HB := Aside0.mk (stays_below _ _ _ HB.out hb)
      clear hb
      go_wp2_with fail
      refine Calls.mono (values_calls _) ?_
      rintro e w12 ⟨rfl, hb⟩
      replace HB := Aside0.mk (stays_below _ _ _ HB.out hb)
      clear hb
      go_wp2
      go_ret
      exact ⟨rfl, HB.out⟩
    · obtain rfl : ha = true := by rw [hha]; simpa using hz
      obtain ⟨z', rfl⟩ : ∃ z', z = nzv z' := ⟨z, (nzv_of hz).symm⟩
      clear hha HHA hz
      go_wp2_with fail
      refine Calls.mono (KSA.out _ _ _ _ _ HG.out HX.out) ?_
      rintro e w11 ⟨rfl, hb⟩
      clear u0 u1 u2 u3 u4 u5 v0 v1 v2 v3 v4 v5
      replace HB := Aside0.mk (stays_below _ _ _ HB.out hb)
      clear hb
      go_wp2_with fail
      refine Calls.mono (values_calls _) ?_
      rintro e w12 ⟨rfl, hb⟩
      replace HB := Aside0.mk (stays_below _ _ _ HB.out hb)
      clear hb
      go_wp2
      go_ret
      exact ⟨rfl, HB.out⟩
end Go.Proofs.Ytogpnkkoablmiaa.V
end
