/- Parts of the proof: what the theorem reaches, put together by a program of this session. -/
import Derived.ArgAppend
import Derived.Below
import Derived.BigGuardPart
import Derived.BigQuiet
import Derived.BigRegion
import Derived.Deep.AppendLies
import Derived.Deep.CutBlock
import Derived.Deep.DeepCutAuto
import Derived.Deep.Draws
import Derived.Deep.LoopGhost
import Derived.Deep.OwnRows
import Derived.Deep.QuietTactic
import Derived.Deep.RegionHeld3
import Derived.Deep.RegionLaw
import Derived.KernelRfl
import Derived.Laws.BitsLemmas
import Derived.Laws.BytesArg
import Derived.Laws.EntriesVeiled
import Derived.Laws.IdiomCopy
import Derived.Laws.MakeOwn
import Derived.Laws.OwnMore
import Derived.Laws.Rows
import Derived.Laws.Slices
import Derived.Laws.StructEq
import Derived.Lib.AppendIntMem
import Derived.Lib.AppendStr
import Derived.Lib.Bytealg
import Derived.Lib.ConvBytes
import Derived.Lib.Hide
import Derived.Lib.OwnBridge
import Derived.Lib.SliceRun
import Derived.LoopIn
import Derived.LoopNIn
import Derived.Maps.AppendAt
import Derived.Maps.OwnOps
import Derived.Maps.Views
import Derived.OrdersHeld
import Derived.Outline
import Derived.OwnWalk
import Derived.OwnWalkIn
import Derived.RangeFuncBound
import Derived.RangeFuncBox
import Derived.RangeFuncCalls
import Derived.RangeFuncFrom
import Derived.RangeFuncKeeps
import Derived.RangeFuncLeaves
import Derived.RangeFuncNested
import Derived.RowKit
import Derived.RowKit3
import Derived.Shelf.Abstract
import Derived.Shelf.RegionOpen
import Derived.Shelf.SlSortCmp.KitK
import Derived.Shelf.Spec.SlicesInsertGrow
import Derived.Sort.LotA
import Derived.Sort.WalkB12
import Derived.Sort.WalkB2
import Derived.Tactics
import Derived.TacticsInMore
import Derived.Test.YtogpnkkoablmiaaProg
import Derived.WalkKit
import Derived.WalkLawsBesides
import Derived.WideLaws
import Derived.Test.YtogpnkkoablmiaaBC1
import Derived.Test.YtogpnkkoablmiaaBC2
import Derived.Test.YtogpnkkoablmiaaBC3
import Derived.Test.YtogpnkkoablmiaaBC4
import Derived.Test.YtogpnkkoablmiaaBC5
import Derived.Test.YtogpnkkoablmiaaBC6
import Derived.Test.YtogpnkkoablmiaaBC8
import Derived.Test.YtogpnkkoablmiaaBC9
import Derived.Test.YtogpnkkoablmiaaBC10
import Derived.Test.YtogpnkkoablmiaaBC11
import Derived.Test.YtogpnkkoablmiaaBC12
import Derived.Test.YtogpnkkoablmiaaBC13
import Derived.Test.YtogpnkkoablmiaaBC14
import Derived.Test.YtogpnkkoablmiaaBC15
import Derived.Test.YtogpnkkoablmiaaBC16
import Derived.Test.YtogpnkkoablmiaaBC17
import Derived.Test.YtogpnkkoablmiaaBC18
import Derived.Test.YtogpnkkoablmiaaBC19
import Derived.Test.YtogpnkkoablmiaaBC20
import Derived.Test.YtogpnkkoablmiaaBC21
section
namespace Go.Proofs.Ytogpnkkoablmiaa.V
open Go.Shelf Go.RowKit Go.Lib Go.Sort Go.Proofs.Ytogpnkkoablmiaa.Q Go.Proofs.YtogpnkkoablmiaaW.PrintWords Go.Proofs.YtogpnkkoablmiaaW.PrintLast Go.Proofs.YtogpnkkoablmiaaW.PrintMore
set_option linter.unusedVariables false
set_option linter.unusedSimpArgs false
def exD : List S89 := [⟨⟨#[66]⟩, ⟨2, 1, 0, ⟨#[]⟩, [], []⟩⟩, ⟨⟨#[65]⟩, ⟨0, 0, 0, ⟨#[]⟩, [], []⟩⟩, ⟨⟨#[66]⟩, ⟨2, 2, 0, ⟨#[]⟩, [], []⟩⟩]
def exP : List S89 := [⟨⟨#[66]⟩, ⟨2, 1, 0, ⟨#[]⟩, [], []⟩⟩]
def exW : List S89 := [⟨⟨#[66]⟩, ⟨2, 1, 0, ⟨#[]⟩, [], []⟩⟩, ⟨⟨#[67]⟩, ⟨7, 3, 1, ⟨#[]⟩, [], []⟩⟩]
theorem ex_plain : plain ⟨6, 0, 0, ⟨#[]⟩, [], exD⟩ = ⟨6, 0, 0, ⟨#[]⟩, [], exP⟩ := by kernel_rfl
theorem ex_plainP : plain ⟨6, 0, 0, ⟨#[]⟩, [], exP⟩ = ⟨6, 0, 0, ⟨#[]⟩, [], exP⟩ := by kernel_rfl
theorem ex_with : withD ⟨6, 0, 0, ⟨#[]⟩, [], exD⟩ ⟨#[67]⟩ ⟨7, 3, 1, ⟨#[]⟩, [], []⟩ = exW := by kernel_rfl
theorem ex_get : getV ⟨6, 0, 0, ⟨#[]⟩, [], exW⟩ ⟨#[67]⟩ = ⟨7, 3, 1, ⟨#[]⟩, [], []⟩ := by kernel_rfl
theorem ex_has : hasK (plain ⟨6, 0, 0, ⟨#[]⟩, [], exW⟩).f5 ⟨#[67]⟩ = true := by kernel_rfl
theorem ex_h1 : holdsV ⟨6, 0, 0, ⟨#[]⟩, [], exW⟩ 3 1 = true := by kernel_rfl
theorem ex_h0 : holdsV ⟨6, 0, 0, ⟨#[]⟩, [], exW⟩ 3 0 = false := by kernel_rfl
theorem ex_c1 : chkV ⟨6, 0, 0, ⟨#[]⟩, [], exD⟩ false 0 = 11 := by kernel_rfl
theorem ex_c2 : chkV ⟨6, 0, 0, ⟨#[]⟩, [], exW⟩ false 0 = 0 := by kernel_rfl
theorem ex_c3 : chkV ⟨8, 0, 0, ⟨#[]⟩, [], []⟩ false 0 = 10 := by kernel_rfl
theorem ex_dep : value_Depth.f 20 6 0 0 ⟨#[]⟩ [] exD = some 1 := by kernel_rfl
theorem ex_siz : value_Size.f 20 6 0 0 ⟨#[]⟩ [] exD = some 4 := by kernel_rfl
theorem ex_fewD : fewV ⟨6, 0, 0, ⟨#[]⟩, [], exD⟩ := by simp [exD, fewV, fewL, fewD, fewP]
theorem ex_fewP : fewV ⟨6, 0, 0, ⟨#[]⟩, [], exP⟩ := by simp [exP, fewV, fewL, fewD, fewP]
theorem ex_fewW : fewV ⟨6, 0, 0, ⟨#[]⟩, [], exW⟩ := by simp [exW, fewV, fewL, fewD, fewP]
theorem ex_fewL : fewV ⟨7, 3, 1, ⟨#[]⟩, [], []⟩ := by simp [fewV, fewL, fewD]
theorem C35_nil (w : World) (A : Option Addr) : k35.C w A ([] : List S35).length [] := ⟨rfl, by simp, fun h => absurd h (by simp)⟩
theorem C89_nil (w : World) (A : Option Addr) : k89.C w A ([] : List S89).length [] := ⟨rfl, by simp, fun h => absurd h (by simp)⟩
theorem C_lit3 (W : World) (e : TypeId) : k89.C (W.alloc (.cells #[.string ⟨#[66]⟩, .int .i64 2, .int .i64 1, .int .i64 0, .string ⟨#[]⟩, .slice none 0 0, .slice none 0 0, .string ⟨#[65]⟩, .int .i64 0, .int .i64 0, .int .i64 0, .string ⟨#[]⟩, .slice none 0 0, .slice none 0 0, .string ⟨#[66]⟩, .int .i64 2, .int .i64 2, .int .i64 0, .string ⟨#[]⟩, .slice none 0 0, .slice none 0 0] e)) (some ⟨W.heap.size, 0, none⟩) 3 exD := by
  refine ⟨rfl, by simp [exD], fun _ => ⟨_, rfl, fun j p hj => ?_⟩⟩
  have hc : ∀ o u, #[.string ⟨#[66]⟩, .int .i64 2, .int .i64 1, .int .i64 0, .string ⟨#[]⟩, .slice none 0 0, .slice none 0 0, .string ⟨#[65]⟩, .int .i64 0, .int .i64 0, .int .i64 0, .string ⟨#[]⟩, .slice none 0 0, .slice none 0 0, .string ⟨#[66]⟩, .int .i64 2, .int .i64 2, .int .i64 0, .string ⟨#[]⟩, .slice none 0 0, .slice none 0 0][o]? = some u → (W.alloc (.cells #[.string ⟨#[66]⟩, .int .i64 2, .int .i64 1, .int .i64 0, .string ⟨#[]⟩, .slice none 0 0, .slice none 0 0, .string ⟨#[65]⟩, .int .i64 0, .int .i64 0, .int .i64 0, .string ⟨#[]⟩, .slice none 0 0, .slice none 0 0, .string ⟨#[66]⟩, .int .i64 2, .int .i64 2, .int .i64 0, .string ⟨#[]⟩, .slice none 0 0, .slice none 0 0] e)).cell? ⟨W.heap.size, o, none⟩ = some u := fun o u h => by rw [World.cell?_alloc_new]; exact h
  match j, hj with
  | 0, hj =>
    obtain rfl : _ = p := Option.some.inj hj
    refine ⟨_, rfl, k89_mk _ _ (c5 := 0) (Nat.le_refl _) (C35_nil _ none) (c6 := 0) (Nat.le_refl _) (C89_nil _ none), fun i u hi => ?_⟩
    rw [Addr.add_lit]
    match i, hi with
    | 0, hi => exact hc 0 u hi
    | 1, hi => exact hc 1 u hi
    | 2, hi => exact hc 2 u hi
    | 3, hi => exact hc 3 u hi
    | 4, hi => exact hc 4 u hi
    | 5, hi => exact hc 5 u hi
    | 6, hi => exact hc 6 u hi
  | 1, hj =>
    obtain rfl : _ = p := Option.some.inj hj
    refine ⟨_, rfl, k89_mk _ _ (c5 := 0) (Nat.le_refl _) (C35_nil _ none) (c6 := 0) (Nat.le_refl _) (C89_nil _ none), fun i u hi => ?_⟩
    rw [Addr.add_lit]
    match i, hi with
    | 0, hi => exact hc 7 u hi
    | 1, hi => exact hc 8 u hi
    | 2, hi => exact hc 9 u hi
    | 3, hi => exact hc 10 u hi
    | 4, hi => exact hc 11 u hi
    | 5, hi => exact hc 12 u hi
    | 6, hi => exact hc 13 u hi
  | 2, hj =>
    obtain rfl : _ = p := Option.some.inj hj
    refine ⟨_, rfl, k89_mk _ _ (c5 := 0) (Nat.le_refl _) (C35_nil _ none) (c6 := 0) (Nat.le_refl _) (C89_nil _ none), fun i u hi => ?_⟩
    rw [Addr.add_lit]
    match i, hi with
    | 0, hi => exact hc 14 u hi
    | 1, hi => exact hc 15 u hi
    | 2, hi => exact hc 16 u hi
    | 3, hi => exact hc 17 u hi
    | 4, hi => exact hc 18 u hi
    | 5, hi => exact hc 19 u hi
    | 6, hi => exact hc 20 u hi
theorem C_lit1 (W : World) (e : TypeId) : k89.C (W.alloc (.cells #[.string ⟨#[66]⟩, .int .i64 2, .int .i64 1, .int .i64 0, .string ⟨#[]⟩, .slice none 0 0, .slice none 0 0] e)) (some ⟨W.heap.size, 0, none⟩) 1 exP := by
  refine ⟨rfl, by simp [exP], fun _ => ⟨_, rfl, fun j p hj => ?_⟩⟩
  have hc : ∀ o u, #[.string ⟨#[66]⟩, .int .i64 2, .int .i64 1, .int .i64 0, .string ⟨#[]⟩, .slice none 0 0, .slice none 0 0][o]? = some u → (W.alloc (.cells #[.string ⟨#[66]⟩, .int .i64 2, .int .i64 1, .int .i64 0, .string ⟨#[]⟩, .slice none 0 0, .slice none 0 0] e)).cell? ⟨W.heap.size, o, none⟩ = some u := fun o u h => by rw [World.cell?_alloc_new]; exact h
  match j, hj with
  | 0, hj =>
    obtain rfl : _ = p := Option.some.inj hj
    refine ⟨_, rfl, k89_mk _ _ (c5 := 0) (Nat.le_refl _) (C35_nil _ none) (c6 := 0) (Nat.le_refl _) (C89_nil _ none), fun i u hi => ?_⟩
    rw [Addr.add_lit]
    match i, hi with
    | 0, hi => exact hc 0 u hi
    | 1, hi => exact hc 1 u hi
    | 2, hi => exact hc 2 u hi
    | 3, hi => exact hc 3 u hi
    | 4, hi => exact hc 4 u hi
    | 5, hi => exact hc 5 u hi
    | 6, hi => exact hc 6 u hi
theorem vcheck_calls (v : S35) (A4 : Option Addr) (c4 : Nat) (A5 : Option Addr) (c5 : Nat) (stream : Bool) (w : World) (la4 : v.f4.length ≤ c4) (ra4 : k35.C w A4 v.f4.length v.f4) (la5 : v.f5.length ≤ c5) (ra5 : k89.C w A5 v.f5.length v.f5) :
    Calls Try.prog 52 #[.agg #[.int .i64 v.f0, .int .i64 v.f1, .int .i64 v.f2, .string v.f3, .slice A4 v.f4.length c4, .slice A5 v.f5.length c5], .bool stream] w fun e w' => e = .returned (.int .i64 (chkV v stream 0)) ∧ RowKit.Below w.heap.size w w' := by
  have hu35 := Try.underlying35
  have H := Aside0.mk (check_all v A4 c4 A5 c5 stream 0 (w.alloc (.cells #[.int .i64 v.f0, .int .i64 v.f1, .int .i64 v.f2, .string v.f3, .slice A4 v.f4.length c4, .slice A5 v.f5.length c5] 35)) (by omega) (by omega) la4 (Kd.C_alloc ra4 _) la5 (Kd.C_alloc ra5 _))
  have HB := Aside0.mk (below_alloc (RowKit.Below.refl w.heap.size w) (.cells #[.int .i64 v.f0, .int .i64 v.f1, .int .i64 v.f2, .string v.f3, .slice A4 v.f4.length c4, .slice A5 v.f5.length c5] 35))
  clear ra4 ra5
  go_enter Try.func52, Try.ntmps52
  go_wp2_with fail
  refine Calls.mono H.out ?_
  rintro e w1 ⟨rfl, hb⟩
  have HB2 := Aside0.mk (below_step HB.out hb)
  clear hb HB H
  go_wp2
  go_ret
  exact ⟨rfl, HB2.out⟩
theorem rcheck_calls (v : S35) (A4 : Option Addr) (c4 : Nat) (A5 : Option Addr) (c5 : Nat) (stream : Bool) (w : World) (hs : szV v) (la4 : v.f4.length ≤ c4) (ra4 : k35.C w A4 v.f4.length v.f4) (la5 : v.f5.length ≤ c5) (ra5 : k89.C w A5 v.f5.length v.f5) :
    Calls Try.prog 53 #[.agg #[.int .i64 v.f0, .int .i64 v.f1, .int .i64 v.f2, .string v.f3, .slice A4 v.f4.length c4, .slice A5 v.f5.length c5], .bool stream] w fun e w' => e = .returned (.int .i64 (chkV v stream 0)) ∧ RowKit.Below w.heap.size w w' := by
  have hu35 := Try.underlying35
  have H := Aside0.mk (rcheck_all v A4 c4 A5 c5 stream 0 (w.alloc (.cells #[.int .i64 v.f0, .int .i64 v.f1, .int .i64 v.f2, .string v.f3, .slice A4 v.f4.length c4, .slice A5 v.f5.length c5] 35)) hs (by omega) (by omega) la4 (Kd.C_alloc ra4 _) la5 (Kd.C_alloc ra5 _))
  have HB := Aside0.mk (below_alloc (RowKit.Below.refl w.heap.size w) (.cells #[.int .i64 v.f0, .int .i64 v.f1, .int .i64 v.f2, .string v.f3, .slice A4 v.f4.length c4, .slice A5 v.f5.length c5] 35))
  clear ra4 ra5
  go_enter Try.func53, Try.ntmps53
  go_wp2_with fail
  refine Calls.mono H.out ?_
  rintro e w1 ⟨rfl, hb⟩
  have HB2 := Aside0.mk (below_step HB.out hb)
  clear hb HB H
  go_wp2
  go_ret
  exact ⟨rfl, HB2.out⟩
def VF (w : World) (gD : Addr) (a5 : Option Addr) (W : World) : Prop := k89.C W (some gD) 3 exD ∧ k89.C W a5 2 exW ∧ RowKit.Below w.heap.size w W
theorem VF.below {w : World} {gD : Addr} {a5 : Option Addr} {W W' : World} (h : VF w gD a5 W) (hb : RowKit.Below W.heap.size W W') : VF w gD a5 W' :=
  ⟨Kd.C_below h.1 hb, Kd.C_below h.2.1 hb, h.2.2.trans (hb.mono h.2.2.size)⟩
theorem VF.alloc {w : World} {gD : Addr} {a5 : Option Addr} {W : World} (h : VF w gD a5 W) (o : Obj) : VF w gD a5 (W.alloc o) := h.below (below_alloc (RowKit.Below.refl _ W) o)
theorem VF.drew {w : World} {gD : Addr} {a5 : Option Addr} {W : World} (h : VF w gD a5 W) : VF w gD a5 W.drew := h.below (RowKit.Below.refl _ W).drew
theorem VF.drewN {w : World} {gD : Addr} {a5 : Option Addr} {W : World} (h : VF w gD a5 W) (n : Nat) : VF w gD a5 (W.drewN n) := h.below (pw_below_drewN (RowKit.Below.refl _ W) n)
theorem VF.c1 {w : World} {gD : Addr} {a5 : Option Addr} {W : World} (h : VF w gD a5 W) : k89.C W (some gD) 3 exD := h.1
theorem VF.c2 {w : World} {gD : Addr} {a5 : Option Addr} {W : World} (h : VF w gD a5 W) : k89.C W a5 2 exW := h.2.1
theorem KPl (W : World) (gD : Addr) (h : k89.C W (some gD) 3 exD) : Calls Try.prog 59 #[.agg #[.int .i64 6, .int .i64 0, .int .i64 0, .string ⟨#[]⟩, .slice none 0 0, .slice (some gD) 3 3]] W fun e w' => ∃ p4 q4 p5 q5, e = .returned (.agg #[.int .i64 6, .int .i64 0, .int .i64 0, .string ⟨#[]⟩, .slice p4 0 q4, .slice p5 1 q5]) ∧ 1 ≤ q5 ∧ k89.C w' p5 1 exP ∧ RowKit.Below W.heap.size W w' := by
  refine (plain59_all ⟨6, 0, 0, ⟨#[]⟩, [], exD⟩ none 0 (some gD) 3 W ex_fewD (Nat.le_refl _) (C35_nil _ _) (Nat.le_refl _) h).mono ?_
  rintro e w' ⟨v4, v5, rfl, r4, r5, hb⟩
  rw [ex_plain] at r4 r5 ⊢
  obtain ⟨a, c, rfl, -, -⟩ := Kd.R_reads r4
  obtain ⟨a', c', rfl, h1, h2⟩ := Kd.R_reads r5
  exact ⟨a, c, a', c', rfl, h1, h2, hb⟩
theorem KEq (W : World) (p4 : Option Addr) (q4 : Nat) (p5 : Option Addr) (q5 : Nat) (r5 : Option Addr) (m5 : Nat) (h1 : 1 ≤ q5) (h2 : k89.C W p5 1 exP) (h3 : 1 ≤ m5) (h4 : k89.C W r5 1 exP) : Calls Try.prog 58 #[.agg #[.int .i64 6, .int .i64 0, .int .i64 0, .string ⟨#[]⟩, .slice p4 0 q4, .slice p5 1 q5], .agg #[.int .i64 6, .int .i64 0, .int .i64 0, .string ⟨#[]⟩, .slice none 0 0, .slice r5 1 m5]] W fun e w' => e = .returned (.bool true) ∧ RowKit.Below W.heap.size W w' := by
  refine (equal_all ⟨6, 0, 0, ⟨#[]⟩, [], exP⟩ ⟨6, 0, 0, ⟨#[]⟩, [], exP⟩ p4 q4 p5 q5 none 0 r5 m5 W (Nat.zero_le _) (C35_nil _ _) h1 h2 (Nat.le_refl _) (C35_nil _ _) h3 h4).mono ?_
  rintro e w' ⟨he, hb⟩
  rw [eqB_true rfl] at he
  exact ⟨he, hb⟩
theorem KEl (W : World) (b4 : Option Addr) (d4 : Nat) (b5 : Option Addr) (d5 : Nat) : Calls Try.prog 58 #[.agg #[.int .i64 7, .int .i64 3, .int .i64 1, .string ⟨#[]⟩, .slice b4 0 d4, .slice b5 0 d5], .agg #[.int .i64 7, .int .i64 3, .int .i64 1, .string ⟨#[]⟩, .slice none 0 0, .slice none 0 0]] W fun e w' => e = .returned (.bool true) ∧ RowKit.Below W.heap.size W w' := by
  refine (equal_all ⟨7, 3, 1, ⟨#[]⟩, [], []⟩ ⟨7, 3, 1, ⟨#[]⟩, [], []⟩ b4 d4 b5 d5 none 0 none 0 W (Nat.zero_le _) (C35_nil _ _) (Nat.zero_le _) (C89_nil _ _) (Nat.le_refl _) (C35_nil _ _) (Nat.le_refl _) (C89_nil _ _)).mono ?_
  rintro e w' ⟨he, hb⟩
  rw [eqB_true rfl] at he
  exact ⟨he, hb⟩
theorem KH1 (W : World) (a4 : Option Addr) (n4 : Nat) (a5 : Option Addr) (n5 : Nat) (h1 : 2 ≤ n5) (h2 : k89.C W a5 2 exW) : Calls Try.prog 70 #[.agg #[.int .i64 6, .int .i64 0, .int .i64 0, .string ⟨#[]⟩, .slice a4 0 n4, .slice a5 2 n5], .agg #[.int .i64 3, .int .i64 1]] W fun e w' => e = .returned (.bool true) ∧ RowKit.Below W.heap.size W w' := by
  refine (Holds_calls ⟨6, 0, 0, ⟨#[]⟩, [], exW⟩ a4 n4 a5 n5 3 1 W ex_fewW (Nat.zero_le _) (C35_nil _ _) h1 h2).mono ?_
  rintro e w' ⟨he, hb⟩
  rw [ex_h1] at he
  exact ⟨he, hb⟩
theorem KH0 (W : World) (a4 : Option Addr) (n4 : Nat) (a5 : Option Addr) (n5 : Nat) (h1 : 2 ≤ n5) (h2 : k89.C W a5 2 exW) : Calls Try.prog 70 #[.agg #[.int .i64 6, .int .i64 0, .int .i64 0, .string ⟨#[]⟩, .slice a4 0 n4, .slice a5 2 n5], .agg #[.int .i64 3, .int .i64 0]] W fun e w' => e = .returned (.bool false) ∧ RowKit.Below W.heap.size W w' := by
  refine (Holds_calls ⟨6, 0, 0, ⟨#[]⟩, [], exW⟩ a4 n4 a5 n5 3 0 W ex_fewW (Nat.zero_le _) (C35_nil _ _) h1 h2).mono ?_
  rintro e w' ⟨he, hb⟩
  rw [ex_h0] at he
  exact ⟨he, hb⟩
theorem KC1 (W : World) (gD : Addr) (h : k89.C W (some gD) 3 exD) : Calls Try.prog 52 #[.agg #[.int .i64 6, .int .i64 0, .int .i64 0, .string ⟨#[]⟩, .slice none 0 0, .slice (some gD) 3 3], .bool false] W fun e w' => e = .returned (.int .i64 11) ∧ RowKit.Below W.heap.size W w' := by
  refine (vcheck_calls ⟨6, 0, 0, ⟨#[]⟩, [], exD⟩ none 0 (some gD) 3 false W (Nat.le_refl _) (C35_nil _ _) (Nat.le_refl _) h).mono ?_
  rintro e w' ⟨he, hb⟩
  rw [ex_c1] at he
  exact ⟨he, hb⟩
theorem KC2 (W : World) (a4 : Option Addr) (n4 : Nat) (a5 : Option Addr) (n5 : Nat) (h1 : 2 ≤ n5) (h2 : k89.C W a5 2 exW) : Calls Try.prog 52 #[.agg #[.int .i64 6, .int .i64 0, .int .i64 0, .string ⟨#[]⟩, .slice a4 0 n4, .slice a5 2 n5], .bool false] W fun e w' => e = .returned (.int .i64 0) ∧ RowKit.Below W.heap.size W w' := by
  refine (vcheck_calls ⟨6, 0, 0, ⟨#[]⟩, [], exW⟩ a4 n4 a5 n5 false W (Nat.zero_le _) (C35_nil _ _) h1 h2).mono ?_
  rintro e w' ⟨he, hb⟩
  rw [ex_c2] at he
  exact ⟨he, hb⟩
theorem KC3 (W : World) : Calls Try.prog 52 #[.agg #[.int .i64 8, .int .i64 0, .int .i64 0, .string ⟨#[]⟩, .slice none 0 0, .slice none 0 0], .bool false] W fun e w' => e = .returned (.int .i64 10) ∧ RowKit.Below W.heap.size W w' := by
  refine (vcheck_calls ⟨8, 0, 0, ⟨#[]⟩, [], []⟩ none 0 none 0 false W (Nat.le_refl _) (C35_nil _ _) (Nat.le_refl _) (C89_nil _ _)).mono ?_
  rintro e w' ⟨he, hb⟩
  rw [ex_c3] at he
  exact ⟨he, hb⟩
theorem KDe (W : World) (gD : Addr) (h : k89.C W (some gD) 3 exD) : Calls Try.prog 54 #[.agg #[.int .i64 6, .int .i64 0, .int .i64 0, .string ⟨#[]⟩, .slice none 0 0, .slice (some gD) 3 3]] W fun e w' => e = .returned (.int .i64 1) ∧ RowKit.Below W.heap.size W w' :=
  value_Depth.calls 20 6 0 0 ⟨#[]⟩ none 0 [] (some gD) 3 exD 1 W (C35_nil _ _) (Nat.le_refl _) h (Nat.le_refl _) ex_dep
theorem KSi (W : World) (gD : Addr) (h : k89.C W (some gD) 3 exD) : Calls Try.prog 56 #[.agg #[.int .i64 6, .int .i64 0, .int .i64 0, .string ⟨#[]⟩, .slice none 0 0, .slice (some gD) 3 3]] W fun e w' => e = .returned (.int .i64 4) ∧ RowKit.Below W.heap.size W w' :=
  value_Size.calls 20 6 0 0 ⟨#[]⟩ none 0 [] (some gD) 3 exD 4 W (C35_nil _ _) (Nat.le_refl _) h (Nat.le_refl _) ex_siz
theorem KSa (W : World) (gD : Addr) (h : k89.C W (some gD) 3 exD) (p4 : Option Addr) (q4 : Nat) (p5 : Option Addr) (q5 : Nat) (h1 : 1 ≤ q5) (h2 : k89.C W p5 1 exP) : Calls Try.prog 61 #[.agg #[.int .i64 6, .int .i64 0, .int .i64 0, .string ⟨#[]⟩, .slice none 0 0, .slice (some gD) 3 3], .agg #[.int .i64 6, .int .i64 0, .int .i64 0, .string ⟨#[]⟩, .slice p4 0 q4, .slice p5 1 q5]] W fun e w' => e = .returned (.bool true) ∧ RowKit.Below W.heap.size W w' := by
  refine (same_calls ⟨6, 0, 0, ⟨#[]⟩, [], exD⟩ ⟨6, 0, 0, ⟨#[]⟩, [], exP⟩ none 0 (some gD) 3 p4 q4 p5 q5 W ex_fewD ex_fewP (Nat.le_refl _) (C35_nil _ _) (Nat.le_refl _) h (Nat.zero_le _) (C35_nil _ _) h1 h2).mono ?_
  rintro e w' ⟨he, hb⟩
  rw [ex_plain, ex_plainP, eqB_true rfl] at he
  exact ⟨he, hb⟩
theorem KGe (W : World) (a4 : Option Addr) (n4 : Nat) (a5 : Option Addr) (n5 : Nat) (h1 : 2 ≤ n5) (h2 : k89.C W a5 2 exW) : Calls Try.prog 63 #[.agg #[.int .i64 6, .int .i64 0, .int .i64 0, .string ⟨#[]⟩, .slice a4 0 n4, .slice a5 2 n5], .string ⟨#[67]⟩] W fun e w' => ∃ b4 d4 b5 d5, e = .returned (.tuple #[.agg #[.int .i64 7, .int .i64 3, .int .i64 1, .string ⟨#[]⟩, .slice b4 0 d4, .slice b5 0 d5], .bool true]) ∧ RowKit.Below W.heap.size W w' := by
  refine (get_calls ⟨6, 0, 0, ⟨#[]⟩, [], exW⟩ ⟨#[67]⟩ a4 n4 a5 n5 W ex_fewW (Nat.zero_le _) (C35_nil _ _) h1 h2).mono ?_
  rintro e w' ⟨v4, v5, rfl, r4, r5, hb⟩
  rw [ex_get] at r4 r5 ⊢
  rw [ex_has]
  obtain ⟨a, c, rfl, -, -⟩ := Kd.R_reads r4
  obtain ⟨a', c', rfl, h1, h2⟩ := Kd.R_reads r5
  exact ⟨a, c, a', c', rfl, hb⟩
theorem KWi (W : World) (gD : Addr) (h : k89.C W (some gD) 3 exD) : Calls Try.prog 65 #[.agg #[.int .i64 6, .int .i64 0, .int .i64 0, .string ⟨#[]⟩, .slice none 0 0, .slice (some gD) 3 3], .string ⟨#[67]⟩, .agg #[.int .i64 7, .int .i64 3, .int .i64 1, .string ⟨#[]⟩, .slice none 0 0, .slice none 0 0]] W fun e w' => ∃ a4 n4 a5 n5, e = .returned (.agg #[.int .i64 6, .int .i64 0, .int .i64 0, .string ⟨#[]⟩, .slice a4 0 n4, .slice a5 2 n5]) ∧ 2 ≤ n5 ∧ k89.C w' a5 2 exW ∧ RowKit.Below W.heap.size W w' := by
  refine (with_calls ⟨6, 0, 0, ⟨#[]⟩, [], exD⟩ ⟨7, 3, 1, ⟨#[]⟩, [], []⟩ ⟨#[67]⟩ none 0 (some gD) 3 none 0 none 0 W ex_fewD ex_fewL (Nat.le_refl _) (C35_nil _ _) (Nat.le_refl _) h (Nat.le_refl _) (C35_nil _ _) (Nat.le_refl _) (C89_nil _ _)).mono ?_
  rintro e w' ⟨a4, n4, a5, n5, rfl, h1, h2, h3, h4, hb⟩
  rw [ex_with] at h3 h4 ⊢
  rw [ex_plain]
  exact ⟨a4, n4, a5, n5, rfl, h3, h4, hb⟩
theorem links_not_nil (b : Addr) (w : World) : (binOp .eql 103 (.func (.func 127) #[] #[.pointer (some b)]) .nilFunc).run Try.prog w = .ok (.bool false) w := by
  have h : ∀ d : Nat, (Op.equalIn (d + 1) 103 (.func (.func 127) #[] #[.pointer (some b)]) .nilFunc).run Try.prog w = .ok false w := fun d => by
    simp [Op.equalIn, run_underlying Try.underlying103]
  simp only [binOp]
  simp [Op.equal, Op.maxDepth, h 9999]
end Go.Proofs.Ytogpnkkoablmiaa.V
end
section
namespace Go.Proofs.Ytogpnkkoablmiaa.V
open Go.Shelf Go.RowKit Go.Lib Go.Sort Go.Proofs.Ytogpnkkoablmiaa.Q Go.Proofs.YtogpnkkoablmiaaW.PrintWords Go.Proofs.YtogpnkkoablmiaaW.PrintLast Go.Proofs.YtogpnkkoablmiaaW.PrintMore
set_option linter.unusedVariables false
set_option linter.unusedSimpArgs false
set_option maxHeartbeats 20000000 in
set_option maxRecDepth 100000 in
theorem values_calls (w : World) : Calls Try.prog 51 #[] w fun e w' => e = .returned (.bool true) ∧ RowKit.Below w.heap.size w w' := by
  have hu35 := Try.underlying35
  have hu33 := Try.underlying33
  have hu28 := Try.underlying28
  have hu89 := Try.underlying89
  have T0 := Aside0.mk True.intro
  go_enter Try.func51, Try.ntmps51
  go_wp2_with fail
  have C4 := Aside0.mk (Kd.C_alloc (Kd.C_alloc (C_lit3 (w.alloc (.cells #[.int .i64 2, .int .i64 1, .int .i64 0, .string ⟨#[]⟩, .slice none 0 0, .slice none 0 0] 35)) 89) (.cells #[.int .i64 6, .int .i64 0, .int .i64 0, .string ⟨#[]⟩, .slice none 0 0, .slice (some ⟨w.heap.size + 1, 0, none⟩) 3 3] 35)) (.cells #[.int .i64 7, .int .i64 3, .int .i64 1, .string ⟨#[]⟩, .slice none 0 0, .slice none 0 0] 35))
  have B1 := Aside0.mk (blk_alloc (blk_alloc (blk_alloc (blk_new w (.cells #[.int .i64 2, .int .i64 1, .int .i64 0, .string ⟨#[]⟩, .slice none 0 0, .slice none 0 0] 35)) (.cells #[.string ⟨#[66]⟩, .int .i64 2, .int .i64 1, .int .i64 0, .string ⟨#[]⟩, .slice none 0 0, .slice none 0 0, .string ⟨#[65]⟩, .int .i64 0, .int .i64 0, .int .i64 0, .string ⟨#[]⟩, .slice none 0 0, .slice none 0 0, .string ⟨#[66]⟩, .int .i64 2, .int .i64 2, .int .i64 0, .string ⟨#[]⟩, .slice none 0 0, .slice none 0 0] 89)) (.cells #[.int .i64 6, .int .i64 0, .int .i64 0, .string ⟨#[]⟩, .slice none 0 0, .slice (some ⟨w.heap.size + 1, 0, none⟩) 3 3] 35)) (.cells #[.int .i64 7, .int .i64 3, .int .i64 1, .string ⟨#[]⟩, .slice none 0 0, .slice none 0 0] 35))
  have B2 := Aside0.mk (blk_alloc (blk_new ((w.alloc (.cells #[.int .i64 2, .int .i64 1, .int .i64 0, .string ⟨#[]⟩, .slice none 0 0, .slice none 0 0] 35)).alloc (.cells #[.string ⟨#[66]⟩, .int .i64 2, .int .i64 1, .int .i64 0, .string ⟨#[]⟩, .slice none 0 0, .slice none 0 0, .string ⟨#[65]⟩, .int .i64 0, .int .i64 0, .int .i64 0, .string ⟨#[]⟩, .slice none 0 0, .slice none 0 0, .string ⟨#[66]⟩, .int .i64 2, .int .i64 2, .int .i64 0, .string ⟨#[]⟩, .slice none 0 0, .slice none 0 0] 89)) (.cells #[.int .i64 6, .int .i64 0, .int .i64 0, .string ⟨#[]⟩, .slice none 0 0, .slice (some ⟨w.heap.size + 1, 0, none⟩) 3 3] 35)) (.cells #[.int .i64 7, .int .i64 3, .int .i64 1, .string ⟨#[]⟩, .slice none 0 0, .slice none 0 0] 35))
  have B3 := Aside0.mk (blk_new (((w.alloc (.cells #[.int .i64 2, .int .i64 1, .int .i64 0, .string ⟨#[]⟩, .slice none 0 0, .slice none 0 0] 35)).alloc (.cells #[.string ⟨#[66]⟩, .int .i64 2, .int .i64 1, .int .i64 0, .string ⟨#[]⟩, .slice none 0 0, .slice none 0 0, .string ⟨#[65]⟩, .int .i64 0, .int .i64 0, .int .i64 0, .string ⟨#[]⟩, .slice none 0 0, .slice none 0 0, .string ⟨#[66]⟩, .int .i64 2, .int .i64 2, .int .i64 0, .string ⟨#[]⟩, .slice none 0 0, .slice none 0 0] 89)).alloc (.cells #[.int .i64 6, .int .i64 0, .int .i64 0, .string ⟨#[]⟩, .slice none 0 0, .slice (some ⟨w.heap.size + 1, 0, none⟩) 3 3] 35)) (.cells #[.int .i64 7, .int .i64 3, .int .i64 1, .string ⟨#[]⟩, .slice none 0 0, .slice none 0 0] 35))
  have HB := Aside0.mk (below_alloc (below_alloc (below_alloc (below_alloc (RowKit.Below.refl w.heap.size w) (.cells #[.int .i64 2, .int .i64 1, .int .i64 0, .string ⟨#[]⟩, .slice none 0 0, .slice none 0 0] 35)) (.cells #[.string ⟨#[66]⟩, .int .i64 2, .int .i64 1, .int .i64 0, .string ⟨#[]⟩, .slice none 0 0, .slice none 0 0, .string ⟨#[65]⟩, .int .i64 0, .int .i64 0, .int .i64 0, .string ⟨#[]⟩, .slice none 0 0, .slice none 0 0, .string ⟨#[66]⟩, .int .i64 2, .int .i64 2, .int .i64 0, .string ⟨#[]⟩, .slice none 0 0, .slice none 0 0] 89)) (.cells #[.int .i64 6, .int .i64 0, .int .i64 0, .string ⟨#[]⟩, .slice none 0 0, .slice (some ⟨w.heap.size + 1, 0, none⟩) 3 3] 35)) (.cells #[.int .i64 7, .int .i64 3, .int .i64 1, .string ⟨#[]⟩, .slice none 0 0, .slice none 0 0] 35))
  simp only [World.size_alloc] at C4 B2 B3
  have hs4 : ((((w.alloc (.cells #[.int .i64 2, .int .i64 1, .int .i64 0, .string ⟨#[]⟩, .slice none 0 0, .slice none 0 0] 35)).alloc (.cells #[.string ⟨#[66]⟩, .int .i64 2, .int .i64 1, .int .i64 0, .string ⟨#[]⟩, .slice none 0 0, .slice none 0 0, .string ⟨#[65]⟩, .int .i64 0, .int .i64 0, .int .i64 0, .string ⟨#[]⟩, .slice none 0 0, .slice none 0 0, .string ⟨#[66]⟩, .int .i64 2, .int .i64 2, .int .i64 0, .string ⟨#[]⟩, .slice none 0 0, .slice none 0 0] 89)).alloc (.cells #[.int .i64 6, .int .i64 0, .int .i64 0, .string ⟨#[]⟩, .slice none 0 0, .slice (some ⟨w.heap.size + 1, 0, none⟩) 3 3] 35)).alloc (.cells #[.int .i64 7, .int .i64 3, .int .i64 1, .string ⟨#[]⟩, .slice none 0 0, .slice none 0 0] 35)).heap.size = w.heap.size + 1 + 1 + 1 + 1 := by simp only [World.size_alloc]
  refine Calls.mono (KWi _ ⟨w.heap.size + 1, 0, none⟩ C4.out) ?_
  rintro e w1 ⟨a4, n4, a5, n5, rfl, hn, hC, hb⟩
  have LW := Aside0.mk hn
  have F := Aside0.mk (show VF w ⟨w.heap.size + 1, 0, none⟩ a5 w1 from ⟨Kd.C_below C4.out hb, hC, HB.out.trans (hb.mono HB.out.size)⟩)
  have D1 := Aside0.mk (blk_below B1.out hb)
  have D2 := Aside0.mk (blk_below B2.out hb)
  have D3 := Aside0.mk (blk_below B3.out hb)
  have hs1 : w.heap.size + 1 + 1 + 1 < w1.heap.size := by have := hb.size; omega
  clear hb hC hn B1 B2 B3 C4 HB hs4
  have hnn := links_not_nil
  go_wp2_with fail
  refine Calls.mono (Links_calls _ _ _ _ _ _ _ _ _ _ _) ?_
  rintro e w1' ⟨rfl, rfl⟩
  go_wp2_with fail
  refine Calls.mono (KGe _ a4 n4 a5 n5 LW.out ((F.out.alloc (.cells #[.int .i64 6, .int .i64 0, .int .i64 0, .string ⟨#[]⟩, .slice a4 0 n4, .slice a5 2 n5] 35)).alloc (.cells #[.int .i64 6, .int .i64 0, .int .i64 0, .string ⟨#[]⟩, .slice a4 0 n4, .slice a5 2 n5] 35)).2.1) ?_
  rintro e w2 ⟨b4, d4, b5, d5, rfl, hb⟩
  replace F := Aside0.mk (((F.out.alloc (.cells #[.int .i64 6, .int .i64 0, .int .i64 0, .string ⟨#[]⟩, .slice a4 0 n4, .slice a5 2 n5] 35)).alloc (.cells #[.int .i64 6, .int .i64 0, .int .i64 0, .string ⟨#[]⟩, .slice a4 0 n4, .slice a5 2 n5] 35)).below hb)
  have E1 := Aside0.mk (blk_below (blk_alloc (blk_alloc D1.out (.cells #[.int .i64 6, .int .i64 0, .int .i64 0, .string ⟨#[]⟩, .slice a4 0 n4, .slice a5 2 n5] 35)) (.cells #[.int .i64 6, .int .i64 0, .int .i64 0, .string ⟨#[]⟩, .slice a4 0 n4, .slice a5 2 n5] 35)) hb)
  have E2 := Aside0.mk (blk_below (blk_alloc (blk_alloc D2.out (.cells #[.int .i64 6, .int .i64 0, .int .i64 0, .string ⟨#[]⟩, .slice a4 0 n4, .slice a5 2 n5] 35)) (.cells #[.int .i64 6, .int .i64 0, .int .i64 0, .string ⟨#[]⟩, .slice a4 0 n4, .slice a5 2 n5] 35)) hb)
  have E3 := Aside0.mk (blk_below (blk_alloc (blk_alloc D3.out (.cells #[.int .i64 6, .int .i64 0, .int .i64 0, .string ⟨#[]⟩, .slice a4 0 n4, .slice a5 2 n5] 35)) (.cells #[.int .i64 6, .int .i64 0, .int .i64 0, .string ⟨#[]⟩, .slice a4 0 n4, .slice a5 2 n5] 35)) hb)
  have E4 := Aside0.mk (blk_below (blk_alloc (blk_new w1 (.cells #[.int .i64 6, .int .i64 0, .int .i64 0, .string ⟨#[]⟩, .slice a4 0 n4, .slice a5 2 n5] 35)) (.cells #[.int .i64 6, .int .i64 0, .int .i64 0, .string ⟨#[]⟩, .slice a4 0 n4, .slice a5 2 n5] 35)) hb)
  have hs2 : w1.heap.size < w2.heap.size := by have h := hb.size; simp only [World.size_alloc] at h; omega
  clear hb D1 D2 D3
  go_upto_region 8 with fail
  replace F := Aside0.mk (F.out.alloc (.cells #[.int .i64 7, .int .i64 3, .int .i64 1, .string ⟨#[]⟩, .slice b4 0 d4, .slice b5 0 d5] 35))
  have G1 := Aside0.mk (blk_alloc E1.out (.cells #[.int .i64 7, .int .i64 3, .int .i64 1, .string ⟨#[]⟩, .slice b4 0 d4, .slice b5 0 d5] 35))
  have G2 := Aside0.mk (blk_alloc E2.out (.cells #[.int .i64 7, .int .i64 3, .int .i64 1, .string ⟨#[]⟩, .slice b4 0 d4, .slice b5 0 d5] 35))
  have G3 := Aside0.mk (blk_alloc E3.out (.cells #[.int .i64 7, .int .i64 3, .int .i64 1, .string ⟨#[]⟩, .slice b4 0 d4, .slice b5 0 d5] 35))
  have G4 := Aside0.mk (blk_alloc E4.out (.cells #[.int .i64 7, .int .i64 3, .int .i64 1, .string ⟨#[]⟩, .slice b4 0 d4, .slice b5 0 d5] 35))
  have G5 := Aside0.mk (blk_new w2 (.cells #[.int .i64 7, .int .i64 3, .int .i64 1, .string ⟨#[]⟩, .slice b4 0 d4, .slice b5 0 d5] 35))
  generalize w2.alloc (.cells #[.int .i64 7, .int .i64 3, .int .i64 1, .string ⟨#[]⟩, .slice b4 0 d4, .slice b5 0 d5] 35) = w4 at *
  clear E1 E2 E3 E4
  obtain ⟨u0, u1, u2, u3, u4, u5⟩ := box35 G1.out
  obtain ⟨v0, v1, v2, v3, v4, v5⟩ := box35 G2.out
  obtain ⟨x0, x1, x2, x3, x4, x5⟩ := box35 G3.out
  obtain ⟨y0, y1, y2, y3, y4, y5⟩ := box35 G4.out
  obtain ⟨z0, z1, z2, z3, z4, z5⟩ := box35 G5.out
  go_region_held3 (fun w' => w'.cell? ⟨w.heap.size, 0, none⟩ = some (.int .i64 2) ∧ w'.cell? ⟨w.heap.size, 1, none⟩ = some (.int .i64 1) ∧ w'.cell? ⟨w.heap.size, 2, none⟩ = some (.int .i64 0) ∧ w'.cell? ⟨w.heap.size, 3, none⟩ = some (.string ⟨#[]⟩) ∧ w'.cell? ⟨w.heap.size, 4, none⟩ = some (.slice none 0 0) ∧ w'.cell? ⟨w.heap.size, 5, none⟩ = some (.slice none 0 0) ∧ w'.cell? ⟨w.heap.size + 1 + 1, 0, none⟩ = some (.int .i64 6) ∧ w'.cell? ⟨w.heap.size + 1 + 1, 1, none⟩ = some (.int .i64 0) ∧ w'.cell? ⟨w.heap.size + 1 + 1, 2, none⟩ = some (.int .i64 0) ∧ w'.cell? ⟨w.heap.size + 1 + 1, 3, none⟩ = some (.string ⟨#[]⟩) ∧ w'.cell? ⟨w.heap.size + 1 + 1, 4, none⟩ = some (.slice none 0 0) ∧ w'.cell? ⟨w.heap.size + 1 + 1, 5, none⟩ = some (.slice (some ⟨w.heap.size + 1, 0, none⟩) 3 3) ∧ w'.cell? ⟨w.heap.size + 1 + 1 + 1, 0, none⟩ = some (.int .i64 7) ∧ w'.cell? ⟨w.heap.size + 1 + 1 + 1, 1, none⟩ = some (.int .i64 3) ∧ w'.cell? ⟨w.heap.size + 1 + 1 + 1, 2, none⟩ = some (.int .i64 1) ∧ w'.cell? ⟨w.heap.size + 1 + 1 + 1, 3, none⟩ = some (.string ⟨#[]⟩) ∧ w'.cell? ⟨w.heap.size + 1 + 1 + 1, 4, none⟩ = some (.slice none 0 0) ∧ w'.cell? ⟨w.heap.size + 1 + 1 + 1, 5, none⟩ = some (.slice none 0 0) ∧ w'.cell? ⟨w1.heap.size, 0, none⟩ = some (.int .i64 6) ∧ w'.cell? ⟨w1.heap.size, 1, none⟩ = some (.int .i64 0) ∧ w'.cell? ⟨w1.heap.size, 2, none⟩ = some (.int .i64 0) ∧ w'.cell? ⟨w1.heap.size, 3, none⟩ = some (.string ⟨#[]⟩) ∧ w'.cell? ⟨w1.heap.size, 4, none⟩ = some (.slice a4 0 n4) ∧ w'.cell? ⟨w1.heap.size, 5, none⟩ = some (.slice a5 2 n5) ∧ w'.cell? ⟨w2.heap.size, 0, none⟩ = some (.int .i64 7) ∧ w'.cell? ⟨w2.heap.size, 1, none⟩ = some (.int .i64 3) ∧ w'.cell? ⟨w2.heap.size, 2, none⟩ = some (.int .i64 1) ∧ w'.cell? ⟨w2.heap.size, 3, none⟩ = some (.string ⟨#[]⟩) ∧ w'.cell? ⟨w2.heap.size, 4, none⟩ = some (.slice b4 0 d4) ∧ w'.cell? ⟨w2.heap.size, 5, none⟩ = some (.slice b5 0 d5))
    (first
      | go_keep
      | (go_split_ands
         refine ⟨?_, ?_, ?_, ?_, ?_, ?_, ?_, ?_, ?_, ?_, ?_, ?_, ?_, ?_, ?_, ?_, ?_, ?_, ?_, ?_, ?_, ?_, ?_, ?_, ?_, ?_, ?_, ?_, ?_, ?_⟩ <;> exact (hb_.cell (World.block_lt_of_cell? _ _ (by assumption))).trans (by assumption)))
    ((first
      | (go_at_call 61; (with_reducible refine Calls.mono (KSa _ ⟨w.heap.size + 1, 0, none⟩ ?_ _ _ _ _ ?_ ?_) ?_); (· (exact VF.c1 (w := w) (a5 := a5) (by (with_reducible repeat (first | apply VF.alloc | apply VF.drewN | apply VF.drew)); exact F.out))); (· (exact Q2.out)); (· ((with_reducible repeat (first | apply Kd.C_alloc | apply Kd.C_drewN | apply Kd.C_drew)); exact P2.out)); rintro e wk ⟨rfl, hb_⟩; replace F := Aside0.mk (VF.below (by (with_reducible repeat (first | apply VF.alloc | apply VF.drewN | apply VF.drew)); exact F.out) hb_))
      | (go_at_call 59; have T9 := T8; clear T9; (with_reducible refine Calls.mono (KPl _ ⟨w.heap.size + 1, 0, none⟩ ?_) ?_); (· (exact VF.c1 (w := w) (a5 := a5) (by (with_reducible repeat (first | apply VF.alloc | apply VF.drewN | apply VF.drew)); exact F.out))); rintro e wk ⟨p4', q4', p5', q5', rfl, hq_, hp_, hb_⟩; replace F := Aside0.mk (VF.below (by (with_reducible repeat (first | apply VF.alloc | apply VF.drewN | apply VF.drew)); exact F.out) hb_); have Q2 := Aside0.mk hq_; have P2 := Aside0.mk hp_; clear hq_ hp_)
      | (go_at_call 56; (with_reducible refine Calls.mono (KSi _ ⟨w.heap.size + 1, 0, none⟩ ?_) ?_); (· (exact VF.c1 (w := w) (a5 := a5) (by (with_reducible repeat (first | apply VF.alloc | apply VF.drewN | apply VF.drew)); exact F.out))); rintro e wk ⟨rfl, hb_⟩; replace F := Aside0.mk (VF.below (by (with_reducible repeat (first | apply VF.alloc | apply VF.drewN | apply VF.drew)); exact F.out) hb_); have T8 := T0)
      | (go_at_call 54; (with_reducible refine Calls.mono (KDe _ ⟨w.heap.size + 1, 0, none⟩ ?_) ?_); (· (exact VF.c1 (w := w) (a5 := a5) (by (with_reducible repeat (first | apply VF.alloc | apply VF.drewN | apply VF.drew)); exact F.out))); rintro e wk ⟨rfl, hb_⟩; replace F := Aside0.mk (VF.below (by (with_reducible repeat (first | apply VF.alloc | apply VF.drewN | apply VF.drew)); exact F.out) hb_))
      | (go_at_call 52; (with_reducible refine Calls.mono (KC3 _) ?_); rintro e wk ⟨rfl, hb_⟩; replace F := Aside0.mk (VF.below (by (with_reducible repeat (first | apply VF.alloc | apply VF.drewN | apply VF.drew)); exact F.out) hb_))
      | (go_at_call 52; (with_reducible refine Calls.mono (KC2 _ a4 n4 a5 n5 LW.out ?_) ?_); (· (exact VF.c2 (w := w) (gD := ⟨w.heap.size + 1, 0, none⟩) (by (with_reducible repeat (first | apply VF.alloc | apply VF.drewN | apply VF.drew)); exact F.out))); rintro e wk ⟨rfl, hb_⟩; replace F := Aside0.mk (VF.below (by (with_reducible repeat (first | apply VF.alloc | apply VF.drewN | apply VF.drew)); exact F.out) hb_))
      | (go_at_call 52; (with_reducible refine Calls.mono (KC1 _ ⟨w.heap.size + 1, 0, none⟩ ?_) ?_); (· (exact VF.c1 (w := w) (a5 := a5) (by (with_reducible repeat (first | apply VF.alloc | apply VF.drewN | apply VF.drew)); exact F.out))); rintro e wk ⟨rfl, hb_⟩; replace F := Aside0.mk (VF.below (by (with_reducible repeat (first | apply VF.alloc | apply VF.drewN | apply VF.drew)); exact F.out) hb_))
      | (go_at_call 70; (with_reducible refine Calls.mono (KH0 _ a4 n4 a5 n5 LW.out ?_) ?_); (· (exact VF.c2 (w := w) (gD := ⟨w.heap.size + 1, 0, none⟩) (by (with_reducible repeat (first | apply VF.alloc | apply VF.drewN | apply VF.drew)); exact F.out))); rintro e wk ⟨rfl, hb_⟩; replace F := Aside0.mk (VF.below (by (with_reducible repeat (first | apply VF.alloc | apply VF.drewN | apply VF.drew)); exact F.out) hb_))
      | (go_at_call 70; (with_reducible refine Calls.mono (KH1 _ a4 n4 a5 n5 LW.out ?_) ?_); (· (exact VF.c2 (w := w) (gD := ⟨w.heap.size + 1, 0, none⟩) (by (with_reducible repeat (first | apply VF.alloc | apply VF.drewN | apply VF.drew)); exact F.out))); rintro e wk ⟨rfl, hb_⟩; replace F := Aside0.mk (VF.below (by (with_reducible repeat (first | apply VF.alloc | apply VF.drewN | apply VF.drew)); exact F.out) hb_))
      | (go_at_call 58; (with_reducible refine Calls.mono (KEl _ b4 d4 b5 d5) ?_); rintro e wk ⟨rfl, hb_⟩; replace F := Aside0.mk (VF.below (by (with_reducible repeat (first | apply VF.alloc | apply VF.drewN | apply VF.drew)); exact F.out) hb_))
      | (go_at_call 58; have T9 := HL; clear T9; (with_reducible refine Calls.mono (KEq _ _ _ _ _ _ 1 ?_ ?_ (Nat.le_refl _) ?_) ?_); (· (exact Q1.out)); (· ((with_reducible repeat (first | apply Kd.C_alloc | apply Kd.C_drewN | apply Kd.C_drew)); exact P1.out)); (· ((with_reducible repeat (first | apply Kd.C_alloc | apply Kd.C_drewN | apply Kd.C_drew)); exact HL.out)); rintro e wk ⟨rfl, hb_⟩; replace F := Aside0.mk (VF.below (by (with_reducible repeat (first | apply VF.alloc | apply VF.drewN | apply VF.drew)); exact F.out) hb_))
      | (go_at_call 58; (with_reducible refine Calls.mono (KEq _ _ _ _ _ _ 1 ?_ ?_ (Nat.le_refl _) ?_) ?_); (· (exact Q1.out)); (· ((with_reducible repeat (first | apply Kd.C_alloc | apply Kd.C_drewN | apply Kd.C_drew)); exact P1.out)); (· ((with_reducible repeat (first | apply Kd.C_drewN | apply Kd.C_drew)); exact C_lit1 _ _)); rintro e wk ⟨rfl, hb_⟩; replace F := Aside0.mk (VF.below (by (with_reducible repeat (first | apply VF.alloc | apply VF.drewN | apply VF.drew)); exact F.out) hb_))
      | (go_at_call 59; (with_reducible refine Calls.mono (KPl _ ⟨w.heap.size + 1, 0, none⟩ ?_) ?_); (· (exact VF.c1 (w := w) (a5 := a5) (by (with_reducible repeat (first | apply VF.alloc | apply VF.drewN | apply VF.drew)); exact F.out))); rintro e wk ⟨p4', q4', p5', q5', rfl, hq_, hp_, hb_⟩; replace F := Aside0.mk (VF.below (by (with_reducible repeat (first | apply VF.alloc | apply VF.drewN | apply VF.drew)); exact F.out) hb_); have Q1 := Aside0.mk hq_; have P1 := Aside0.mk hp_; have HL := Aside0.mk (Kd.C_below (show k89.C _ (some ⟨w4.heap.size, 0, none⟩) exP.length exP from (by (with_reducible repeat (first | apply Kd.C_drewN | apply Kd.C_drew)); exact C_lit1 _ _)) hb_); clear hq_ hp_)
      | (go_at_call 59; (with_reducible refine Calls.mono (KPl _ ⟨w.heap.size + 1, 0, none⟩ ?_) ?_); (· (exact VF.c1 (w := w) (a5 := a5) (by (with_reducible repeat (first | apply VF.alloc | apply VF.drewN | apply VF.drew)); exact F.out))); rintro e wk ⟨p4', q4', p5', q5', rfl, hq_, hp_, hb_⟩; replace F := Aside0.mk (VF.below (by (with_reducible repeat (first | apply VF.alloc | apply VF.drewN | apply VF.drew)); exact F.out) hb_); have Q1 := Aside0.mk hq_; have P1 := Aside0.mk hp_; clear hq_ hp_)))
  all_goals
    go_wp2
    go_ret
    exact ⟨rfl, F.out.2.2⟩
end Go.Proofs.Ytogpnkkoablmiaa.V
end
section
namespace Go.Proofs.Ytogpnkkoablmiaa.V
open Go.Proofs.Ytogpnkkoablmiaa.P Go.RowKit Go.Shelf Go.Lib Go.Proofs.Ytogpnkkoablmiaa.Q Go.Proofs.YtogpnkkoablmiaaW.PrintWords Go.Proofs.YtogpnkkoablmiaaW.PrintLast Go.Proofs.YtogpnkkoablmiaaW.PrintMore
set_option linter.unusedVariables false
set_option linter.unusedSimpArgs false
attribute [local go_sem] Oper.semAt_some
end Go.Proofs.Ytogpnkkoablmiaa.V
end
section
namespace Go.Proofs.Ytogpnkkoablmiaa.X
open Go.RowKit Go.Proofs.Ytogpnkkoablmiaa.Q Go.Proofs.YtogpnkkoablmiaaW.PrintWords Go.Proofs.YtogpnkkoablmiaaW.PrintLast Go.Proofs.YtogpnkkoablmiaaW.PrintMore
attribute [local go_sem] max2_int min2_int max_two min_two max_three min_three max_four min_four   -- for this text's walks alone
set_option linter.unusedVariables false
set_option linter.unusedSimpArgs false
noncomputable def value_Check.f (a0_0 : Int) (a0_1 : Int) (a0_2 : Int) (a0_3 : ByteArray) (l0_4 : List (S35)) (l0_5 : List (S89)) (a1 : Bool) : Option (Int) := some (Go.Proofs.Ytogpnkkoablmiaa.V.chkV (⟨a0_0, a0_1, a0_2, a0_3, l0_4, l0_5⟩ : S35) a1 0)
theorem value_Check.calls (a0_0 : Int) (a0_1 : Int) (a0_2 : Int) (a0_3 : ByteArray) (A0_4 : Option Addr) (c0_4 : Nat) (l0_4 : List (S35)) (A0_5 : Option Addr) (c0_5 : Nat) (l0_5 : List (S89)) (a1 : Bool) (r : Int) (w : World) (hr0_4 : Kd.C k35 w A0_4 l0_4.length l0_4) (hc0_4 : l0_4.length ≤ c0_4) (hr0_5 : Kd.C k89 w A0_5 l0_5.length l0_5) (hc0_5 : l0_5.length ≤ c0_5) (h : value_Check.f a0_0 a0_1 a0_2 a0_3 l0_4 l0_5 a1 = some r) :
    Calls Try.prog 52 #[.agg #[.int .i64 a0_0, .int .i64 a0_1, .int .i64 a0_2, .string a0_3, .slice A0_4 l0_4.length c0_4, .slice A0_5 l0_5.length c0_5], .bool a1] w fun e w' => e = .returned (.int .i64 r) ∧ Below w.heap.size w w' := by
  unfold value_Check.f at h
  simp only [Option.some.injEq, Prod.mk.injEq] at h
  obtain rfl := h
  exact Go.Proofs.Ytogpnkkoablmiaa.V.vcheck_calls (⟨a0_0, a0_1, a0_2, a0_3, l0_4, l0_5⟩ : S35) A0_4 c0_4 A0_5 c0_5 a1 w hc0_4 hr0_4 hc0_5 hr0_5
noncomputable def binderylaw16_values.f : Option (Bool) := some true
theorem binderylaw16_values.calls (r : Bool) (w : World) (h : binderylaw16_values.f = some r) :
    Calls Try.prog 51 #[] w fun e w' => e = .returned (.bool r) ∧ Below w.heap.size w w' := by
  obtain rfl := Option.some.inj h
  exact Go.Proofs.Ytogpnkkoablmiaa.V.values_calls w
noncomputable def binderyref16_holder.f (a0 : Int) : Option (Bool) := if a0 = 5 then (some true) else (if a0 = 6 then (some true) else (some (a0 == 8)))
set_option maxHeartbeats 8000000 in
set_option maxRecDepth 100000 in
theorem binderyref16_holder.calls (a0 : Int) (r : Bool) (w : World) (h : binderyref16_holder.f a0 = some r) :
    Calls Try.prog 119 #[.int .i64 a0] w fun e w' => e = .returned (.bool r) ∧ Drawn0 w w' := by
  have H : (if a0 = 5 then (some true) else (if a0 = 6 then (some true) else (some (a0 == 8)))) = some r := h
  clear h
  by_cases c2 : a0 = 5
  · rw [if_pos c2] at H
    have c2b0 : (a0 == 5) = true := beq_iff_eq.mpr c2
    have c2b1 : (a0 != 5) = false := bne_eq_false_iff_eq.mpr c2
    clear c2
    obtain rfl := Option.some.inj H
    go_enter Try.func119, Try.ntmps119
    go_wp2
    go_ret
    exact ⟨by first | rfl | (simp; done) | (simp [*]; done), by repeat (first | exact Drawn0.refl _ | apply Drawn0.step)⟩
  · rw [if_neg c2] at H
    have c2b0 : (a0 == 5) = false := beq_eq_false_iff_ne.mpr c2
    have c2b1 : (a0 != 5) = true := bne_iff_ne.mpr c2
    by_cases c3 : a0 = 6
    · rw [if_pos c3] at H
      have c3b0 : (a0 == 6) = true := beq_iff_eq.mpr c3
      have c3b1 : (a0 != 6) = false := bne_eq_false_iff_eq.mpr c3
      clear c3
      obtain rfl := Option.some.inj H
      go_enter Try.func119, Try.ntmps119
      go_wp2
      go_ret
      exact ⟨by first | rfl | (simp; done) | (simp [*]; done), by repeat (first | exact Drawn0.refl _ | apply Drawn0.step)⟩
    · rw [if_neg c3] at H
      have c3b0 : (a0 == 6) = false := beq_eq_false_iff_ne.mpr c3
      have c3b1 : (a0 != 6) = true := bne_iff_ne.mpr c3
      obtain rfl := Option.some.inj H
      go_enter Try.func119, Try.ntmps119
      go_wp2
      go_ret
      exact ⟨by first | rfl | (simp; done) | (simp [*]; done), by repeat (first | exact Drawn0.refl _ | apply Drawn0.step)⟩
open Classical in
noncomputable def binderyref16_Check.f (a0_0 : Int) (a0_1 : Int) (a0_2 : Int) (a0_3 : ByteArray) (l0_4 : List (S35)) (l0_5 : List (S89)) (a1 : Bool) : Option (Int) := if Go.Proofs.Ytogpnkkoablmiaa.V.szV (⟨a0_0, a0_1, a0_2, a0_3, l0_4, l0_5⟩ : S35) then some (Go.Proofs.Ytogpnkkoablmiaa.V.chkV (⟨a0_0, a0_1, a0_2, a0_3, l0_4, l0_5⟩ : S35) a1 0) else none
theorem binderyref16_Check.calls (a0_0 : Int) (a0_1 : Int) (a0_2 : Int) (a0_3 : ByteArray) (A0_4 : Option Addr) (c0_4 : Nat) (l0_4 : List (S35)) (A0_5 : Option Addr) (c0_5 : Nat) (l0_5 : List (S89)) (a1 : Bool) (r : Int) (w : World) (hr0_4 : Kd.C k35 w A0_4 l0_4.length l0_4) (hc0_4 : l0_4.length ≤ c0_4) (hr0_5 : Kd.C k89 w A0_5 l0_5.length l0_5) (hc0_5 : l0_5.length ≤ c0_5) (h : binderyref16_Check.f a0_0 a0_1 a0_2 a0_3 l0_4 l0_5 a1 = some r) :
    Calls Try.prog 53 #[.agg #[.int .i64 a0_0, .int .i64 a0_1, .int .i64 a0_2, .string a0_3, .slice A0_4 l0_4.length c0_4, .slice A0_5 l0_5.length c0_5], .bool a1] w fun e w' => e = .returned (.int .i64 r) ∧ Below w.heap.size w w' := by
  unfold binderyref16_Check.f at h
  by_cases hc : Go.Proofs.Ytogpnkkoablmiaa.V.szV (⟨a0_0, a0_1, a0_2, a0_3, l0_4, l0_5⟩ : S35)
  · rw [if_pos hc] at h
    simp only [Option.some.injEq, Prod.mk.injEq] at h
    obtain rfl := h
    exact Go.Proofs.Ytogpnkkoablmiaa.V.rcheck_calls (⟨a0_0, a0_1, a0_2, a0_3, l0_4, l0_5⟩ : S35) A0_4 c0_4 A0_5 c0_5 a1 w hc hc0_4 hr0_4 hc0_5 hr0_5
  · rw [if_neg hc] at h
    cases h
end Go.Proofs.Ytogpnkkoablmiaa.X
end
section
namespace Go.Proofs.Ytogpnkkoablmiaa.X
open Go.RowKit Go.Proofs.Ytogpnkkoablmiaa.Q Go.Proofs.YtogpnkkoablmiaaW.PrintWords Go.Proofs.YtogpnkkoablmiaaW.PrintLast Go.Proofs.YtogpnkkoablmiaaW.PrintMore
attribute [local go_sem] max2_int min2_int max_two min_two max_three min_three max_four min_four   -- for this text's walks alone
set_option linter.unusedVariables false
set_option linter.unusedSimpArgs false
noncomputable def binderylaw16_ValueChecks.f (k : Nat) (a0_0 : Int) (a0_1 : Int) (a0_2 : Int) (a0_3 : ByteArray) (l0_4 : List (S35)) (l0_5 : List (S89)) (a1 : Bool) : Option (Bool) := (binderyref16_Few.f k a0_0 a0_1 a0_2 a0_3 l0_4 l0_5 2000).bind fun t123 => (if t123 = true then ((value_Check.f a0_0 a0_1 a0_2 a0_3 l0_4 l0_5 a1).bind fun t125 => ((binderyref16_Check.f a0_0 a0_1 a0_2 a0_3 l0_4 l0_5 a1).bind fun t126 => (if t125 = t126 then ((value_Depth.f k a0_0 a0_1 a0_2 a0_3 l0_4 l0_5).bind fun t127 => ((binderyref16_Depth.f k a0_0 a0_1 a0_2 a0_3 l0_4 l0_5).bind fun t128 => (if t127 = t128 then ((value_Size.f k a0_0 a0_1 a0_2 a0_3 l0_4 l0_5).bind fun t129 => ((binderyref16_Size.f k a0_0 a0_1 a0_2 a0_3 l0_4 l0_5).bind fun t130 => (if t129 = t130 then ((binderylaw16_values.f).bind fun t131 => (some t131)) else (none)))) else (none)))) else (none)))) else ((binderylaw16_values.f).bind fun t124 => (some t124)))
noncomputable def binderylaw16_ValueChecks.T3 : Bool × List (List Nat × List Nat) := (true, [([], []), ([], []), ([0, 1], [0, 1]), ([], []), ([], []), ([3, 4, 2], [3, 4]), ([2, 5], [2, 5]), ([6, 5], [6]), ([7], [7]), ([8, 7, 7], [7, 8]), ([7], [7]), ([10, 9, 7], [7, 10]), ([9, 11, 7], [7, 9, 11]), ([7, 12], [7, 12]), ([13, 11], [13]), ([14], [14]), ([15, 14, 14], [14, 15]), ([14], [14]), ([17, 16, 14], [14, 17]), ([16, 18, 14], [14, 16, 18]), ([14, 19], [14, 19]), ([20, 18], [20]), ([21, 21], [21]), ([21, 22], [21, 22]), ([23, 22, 0, 1, 2, 3, 4, 5, 6, 7, 8, 9, 10, 11, 12, 13, 14, 15, 16, 17, 18, 19, 20, 21, 22, 23], [23])])
noncomputable def binderylaw16_ValueChecks.B3 : List Nat := [0, 0, 3, 0, 0, 31, 63, 127, 255, 511, 255, 2047, 4095, 8191, 16383, 32767, 65535, 32767, 262143, 524287, 1048575, 2097151, 4194303, 8388607, 16777215]
theorem binderylaw16_ValueChecks.tab3 : rtab .any (opsOf Try.f9 3) = binderylaw16_ValueChecks.T3 := by kernel_rfl
theorem binderylaw16_ValueChecks.bits3 : waitsOk binderylaw16_ValueChecks.T3.2 binderylaw16_ValueChecks.B3 = true := by kernel_rfl
set_option maxHeartbeats 8000000 in
set_option maxRecDepth 100000 in
theorem binderylaw16_ValueChecks.calls (k : Nat) (a0_0 : Int) (a0_1 : Int) (a0_2 : Int) (a0_3 : ByteArray) (A0_4 : Option Addr) (c0_4 : Nat) (l0_4 : List (S35)) (A0_5 : Option Addr) (c0_5 : Nat) (l0_5 : List (S89)) (a1 : Bool) (r : Bool) (w : World) (hr0_4 : Kd.C k35 w A0_4 l0_4.length l0_4) (hc0_4 : l0_4.length ≤ c0_4) (hr0_5 : Kd.C k89 w A0_5 l0_5.length l0_5) (hc0_5 : l0_5.length ≤ c0_5) (h : binderylaw16_ValueChecks.f k a0_0 a0_1 a0_2 a0_3 l0_4 l0_5 a1 = some r) :
    Calls Try.prog 9 #[.agg #[.int .i64 a0_0, .int .i64 a0_1, .int .i64 a0_2, .string a0_3, .slice A0_4 l0_4.length c0_4, .slice A0_5 l0_5.length c0_5], .bool a1] w fun e w' => e = .returned (.bool r) ∧ Below w.heap.size w w' := by
  have hu35 := Try.underlying35
  have HR0_4 := Aside0.mk hr0_4
  have HC0_4 := Aside0.mk hc0_4
  clear hr0_4 hc0_4
  have HR0_5 := Aside0.mk hr0_5
  have HC0_5 := Aside0.mk hc0_5
  clear hr0_5 hc0_5
  have HB := Aside0.mk (Below.refl w.heap.size w)
  have H : ((binderyref16_Few.f k a0_0 a0_1 a0_2 a0_3 l0_4 l0_5 2000).bind fun t123 => (if t123 = true then ((value_Check.f a0_0 a0_1 a0_2 a0_3 l0_4 l0_5 a1).bind fun t125 => ((binderyref16_Check.f a0_0 a0_1 a0_2 a0_3 l0_4 l0_5 a1).bind fun t126 => (if t125 = t126 then ((value_Depth.f k a0_0 a0_1 a0_2 a0_3 l0_4 l0_5).bind fun t127 => ((binderyref16_Depth.f k a0_0 a0_1 a0_2 a0_3 l0_4 l0_5).bind fun t128 => (if t127 = t128 then ((value_Size.f k a0_0 a0_1 a0_2 a0_3 l0_4 l0_5).bind fun t129 => ((binderyref16_Size.f k a0_0 a0_1 a0_2 a0_3 l0_4 l0_5).bind fun t130 => (if t129 = t130 then ((binderylaw16_values.f).bind fun t131 => (some t131)) else (none)))) else (none)))) else (none)))) else ((binderylaw16_values.f).bind fun t124 => (some t124)))) = some r := h
  clear h
  replace H := Option.bind_eq_some_iff.mp H
  obtain ⟨t123, A30, H⟩ := H
  replace H : (if t123 = true then ((value_Check.f a0_0 a0_1 a0_2 a0_3 l0_4 l0_5 a1).bind fun t125 => ((binderyref16_Check.f a0_0 a0_1 a0_2 a0_3 l0_4 l0_5 a1).bind fun t126 => (if t125 = t126 then ((value_Depth.f k a0_0 a0_1 a0_2 a0_3 l0_4 l0_5).bind fun t127 => ((binderyref16_Depth.f k a0_0 a0_1 a0_2 a0_3 l0_4 l0_5).bind fun t128 => (if t127 = t128 then ((value_Size.f k a0_0 a0_1 a0_2 a0_3 l0_4 l0_5).bind fun t129 => ((binderyref16_Size.f k a0_0 a0_1 a0_2 a0_3 l0_4 l0_5).bind fun t130 => (if t129 = t130 then ((binderylaw16_values.f).bind fun t131 => (some t131)) else (none)))) else (none)))) else (none)))) else ((binderylaw16_values.f).bind fun t124 => (some t124))) = some r := H
  have A3 := Aside0.mk A30
  clear A30
  by_cases c4 : t123 = true
  · subst c4
    have H1 : ((value_Check.f a0_0 a0_1 a0_2 a0_3 l0_4 l0_5 a1).bind fun t125 => ((binderyref16_Check.f a0_0 a0_1 a0_2 a0_3 l0_4 l0_5 a1).bind fun t126 => (if t125 = t126 then ((value_Depth.f k a0_0 a0_1 a0_2 a0_3 l0_4 l0_5).bind fun t127 => ((binderyref16_Depth.f k a0_0 a0_1 a0_2 a0_3 l0_4 l0_5).bind fun t128 => (if t127 = t128 then ((value_Size.f k a0_0 a0_1 a0_2 a0_3 l0_4 l0_5).bind fun t129 => ((binderyref16_Size.f k a0_0 a0_1 a0_2 a0_3 l0_4 l0_5).bind fun t130 => (if t129 = t130 then ((binderylaw16_values.f).bind fun t131 => (some t131)) else (none)))) else (none)))) else (none)))) = some r := by rw [if_pos rfl] at H; exact H
    clear H
    have H := H1
    clear H1
    replace H := Option.bind_eq_some_iff.mp H
    obtain ⟨t125, A50, H⟩ := H
    replace H : ((binderyref16_Check.f a0_0 a0_1 a0_2 a0_3 l0_4 l0_5 a1).bind fun t126 => (if t125 = t126 then ((value_Depth.f k a0_0 a0_1 a0_2 a0_3 l0_4 l0_5).bind fun t127 => ((binderyref16_Depth.f k a0_0 a0_1 a0_2 a0_3 l0_4 l0_5).bind fun t128 => (if t127 = t128 then ((value_Size.f k a0_0 a0_1 a0_2 a0_3 l0_4 l0_5).bind fun t129 => ((binderyref16_Size.f k a0_0 a0_1 a0_2 a0_3 l0_4 l0_5).bind fun t130 => (if t129 = t130 then ((binderylaw16_values.f).bind fun t131 => (some t131)) else (none)))) else (none)))) else (none))) = some r := H
    have A5 := Aside0.mk A50
    clear A50
    replace H := Option.bind_eq_some_iff.mp H
    obtain ⟨t126, A60, H⟩ := H
    replace H : (if t125 = t126 then ((value_Depth.f k a0_0 a0_1 a0_2 a0_3 l0_4 l0_5).bind fun t127 => ((binderyref16_Depth.f k a0_0 a0_1 a0_2 a0_3 l0_4 l0_5).bind fun t128 => (if t127 = t128 then ((value_Size.f k a0_0 a0_1 a0_2 a0_3 l0_4 l0_5).bind fun t129 => ((binderyref16_Size.f k a0_0 a0_1 a0_2 a0_3 l0_4 l0_5).bind fun t130 => (if t129 = t130 then ((binderylaw16_values.f).bind fun t131 => (some t131)) else (none)))) else (none)))) else (none)) = some r := H
    have A6 := Aside0.mk A60
    clear A60
    by_cases c7 : t125 = t126
    · rw [if_pos c7] at H
      have c7b0 : (t125 == t126) = true := beq_iff_eq.mpr c7
      have c7b1 : (t125 != t126) = false := bne_eq_false_iff_eq.mpr c7
      clear c7
      replace H := Option.bind_eq_some_iff.mp H
      obtain ⟨t127, A80, H⟩ := H
      replace H : ((binderyref16_Depth.f k a0_0 a0_1 a0_2 a0_3 l0_4 l0_5).bind fun t128 => (if t127 = t128 then ((value_Size.f k a0_0 a0_1 a0_2 a0_3 l0_4 l0_5).bind fun t129 => ((binderyref16_Size.f k a0_0 a0_1 a0_2 a0_3 l0_4 l0_5).bind fun t130 => (if t129 = t130 then ((binderylaw16_values.f).bind fun t131 => (some t131)) else (none)))) else (none))) = some r := H
      have A8 := Aside0.mk A80
      clear A80
      replace H := Option.bind_eq_some_iff.mp H
      obtain ⟨t128, A90, H⟩ := H
      replace H : (if t127 = t128 then ((value_Size.f k a0_0 a0_1 a0_2 a0_3 l0_4 l0_5).bind fun t129 => ((binderyref16_Size.f k a0_0 a0_1 a0_2 a0_3 l0_4 l0_5).bind fun t130 => (if t129 = t130 then ((binderylaw16_values.f).bind fun t131 => (some t131)) else (none)))) else (none)) = some r := H
      have A9 := Aside0.mk A90
      clear A90
      by_cases c10 : t127 = t128
      · rw [if_pos c10] at H
        have c10b0 : (t127 == t128) = true := beq_iff_eq.mpr c10
        have c10b1 : (t127 != t128) = false := bne_eq_false_iff_eq.mpr c10
        clear c10
        replace H := Option.bind_eq_some_iff.mp H
        obtain ⟨t129, A110, H⟩ := H
        replace H : ((binderyref16_Size.f k a0_0 a0_1 a0_2 a0_3 l0_4 l0_5).bind fun t130 => (if t129 = t130 then ((binderylaw16_values.f).bind fun t131 => (some t131)) else (none))) = some r := H
        have A11 := Aside0.mk A110
        clear A110
        replace H := Option.bind_eq_some_iff.mp H
        obtain ⟨t130, A120, H⟩ := H
        replace H : (if t129 = t130 then ((binderylaw16_values.f).bind fun t131 => (some t131)) else (none)) = some r := H
        have A12 := Aside0.mk A120
        clear A120
        by_cases c13 : t129 = t130
        · rw [if_pos c13] at H
          have c13b0 : (t129 == t130) = true := beq_iff_eq.mpr c13
          have c13b1 : (t129 != t130) = false := bne_eq_false_iff_eq.mpr c13
          clear c13
          replace H := Option.bind_eq_some_iff.mp H
          obtain ⟨t131, A140, H⟩ := H
          replace H : (some t131) = some r := H
          have A14 := Aside0.mk A140
          clear A140
          obtain rfl := Option.some.inj H
          go_enter Try.func9, Try.ntmps9
          try go_wp2_with (first | ((with_reducible refine gate_dst (N := 2) rfl ?_); refine box_event ?hg (N := 2) ?hd (cs := #[.int .i64 a0_0, .int .i64 a0_1, .int .i64 a0_2, .string a0_3, .slice A0_4 l0_4.length c0_4, .slice A0_5 l0_5.length c0_5]) (t := 35) ?hr ?_; (case hd => rfl); (case hg => rfl); (case hr => first | (go_simp; done) | (go_simp; rfl)); intro gb122 hg w15 hbox hb; have n0_ := Aside0.mk (below_step (by repeat (first | (with_reducible first | exact HB.out | apply below_alloc | apply pw_below_drewN | apply below_drew1) | exact HB.out)) hb); have n1_ := Aside0.mk (hbox); have n2_ := Aside0.mk ((by rw [hg]; exact (below_size (by repeat (first | (with_reducible first | exact HB.out | apply below_alloc | apply pw_below_drewN | apply below_drew1) | exact HB.out))) : w.heap.size ≤ gb122)); have n3_ := Aside0.mk ((by rw [hg]; exact (below_size (by repeat (first | (with_reducible first | exact HB.out | apply below_alloc | apply pw_below_drewN | apply below_drew1) | exact HB.out))) : w.heap.size ≤ gb122)); clear HB; have HB := n0_; have BK122 := n1_; have GW122 := n2_; have GE122 := n3_; clear n0_ n1_ n2_ n3_; clear hb hbox hg; have hcz16_0 : w15.cell? ⟨gb122, 0, none⟩ = some (.int .i64 a0_0) := (blk_cell BK122.out 0).trans rfl; have hcz16_1 : w15.cell? ⟨gb122, 1, none⟩ = some (.int .i64 a0_1) := (blk_cell BK122.out 1).trans rfl; have hcz16_2 : w15.cell? ⟨gb122, 2, none⟩ = some (.int .i64 a0_2) := (blk_cell BK122.out 2).trans rfl; have hcz16_3 : w15.cell? ⟨gb122, 3, none⟩ = some (.string a0_3) := (blk_cell BK122.out 3).trans rfl; have hcz16_4 : w15.cell? ⟨gb122, 4, none⟩ = some (.slice A0_4 l0_4.length c0_4) := (blk_cell BK122.out 4).trans rfl; have hcz16_5 : w15.cell? ⟨gb122, 5, none⟩ = some (.slice A0_5 l0_5.length c0_5) := (blk_cell BK122.out 5).trans rfl; have hfz16_0 := blk_frozen BK122.out 0; have hfz16_1 := blk_frozen BK122.out 1; have hfz16_2 := blk_frozen BK122.out 2; have hfz16_3 := blk_frozen BK122.out 3; have hfz16_4 := blk_frozen BK122.out 4; have hfz16_5 := blk_frozen BK122.out 5) | ((with_reducible refine gate_callee (f := 50) rfl ?_); refine goesL_ (some 6) rfl rfl Try.func50 (by kernel_rfl) rfl #[.agg #[.int .i64 a0_0, .int .i64 a0_1, .int .i64 a0_2, .string a0_3, .slice A0_4 l0_4.length c0_4, .slice A0_5 l0_5.length c0_5], .int .i64 2000] rfl (by (try simp only [List.map_toArray, List.map_cons, List.map_nil]); first | done | rfl | (simp only [List.length_drop, List.length_take]; rfl)) ?_; (with_reducible refine (binderyref16_Few.calls k a0_0 a0_1 a0_2 a0_3 _ _ l0_4 _ _ l0_5 2000 true _ ?side1 ?side2 ?side3 ?side4 A3.out).mono ?_); (case side1 => repeat (first | exact (Kd.C_below HR0_4.out HB.out) | (with_reducible refine Kd.C_alloc ?_ _) | (with_reducible refine Kd.C_drewN ?_ _) | (with_reducible refine Kd.C_drew ?_))); (case side2 => exact HC0_4.out); (case side3 => repeat (first | exact (Kd.C_below HR0_5.out HB.out) | (with_reducible refine Kd.C_alloc ?_ _) | (with_reducible refine Kd.C_drewN ?_ _) | (with_reducible refine Kd.C_drew ?_))); (case side4 => exact HC0_5.out); rintro e w17 ⟨rfl, hb⟩; refine ⟨_, rfl, ?_⟩; have n0_ := Aside0.mk (blk_below (g := gb122) (o := .cells #[.int .i64 a0_0, .int .i64 a0_1, .int .i64 a0_2, .string a0_3, .slice A0_4 l0_4.length c0_4, .slice A0_5 l0_5.length c0_5] 35 (0, 0)) (by (with_reducible repeat (first | refine blk_drewN ?_ _ | refine blk_drew ?_ | refine blk_alloc ?_ _)); exact BK122.out) hb); have n1_ := Aside0.mk (below_step (by repeat (first | (with_reducible first | exact HB.out | apply below_alloc | apply pw_below_drewN | apply below_drew1 | refine below_set ?_ GE122.out) | exact HB.out)) hb); clear BK122; clear HB; have BK122 := n0_; have HB := n1_; clear n0_ n1_; (try clear hb); (try clear hb2); (try clear hk); (try clear hi)))
          have n0_ := Aside0.mk (blk_drew BK122.out)
          have n1_ := Aside0.mk (below_drew1 HB.out)
          clear BK122
          clear HB
          have BK122 := n0_
          have HB := n1_
          clear n0_ n1_
          refine start_ (n := 25) (S := fun w' => w'.cell? ⟨gb122, 0, none⟩ = some (.int .i64 a0_0) ∧ w'.cell? ⟨gb122, 1, none⟩ = some (.int .i64 a0_1) ∧ w'.cell? ⟨gb122, 2, none⟩ = some (.int .i64 a0_2) ∧ w'.cell? ⟨gb122, 3, none⟩ = some (.string a0_3) ∧ w'.cell? ⟨gb122, 4, none⟩ = some (.slice A0_4 l0_4.length c0_4) ∧ w'.cell? ⟨gb122, 5, none⟩ = some (.slice A0_5 l0_5.length c0_5)) (ds := []) #[false, false, false, false, false, false, false, false, false, false, false, false, false, false, false, false, false, false, false, false, false, false, false, false, false] (by kernel_rfl) rfl rfl ⟨(blk_cell BK122.out 0).trans rfl, (blk_cell BK122.out 1).trans rfl, (blk_cell BK122.out 2).trans rfl, (blk_cell BK122.out 3).trans rfl, (blk_cell BK122.out 4).trans rfl, (blk_cell BK122.out 5).trans rfl⟩ (fun hHeld => ?_); refine with_tabW binderylaw16_ValueChecks.tab3 binderylaw16_ValueChecks.bits3 (fun HT_ HW_ => ?_)
          generalize w17.drew = w18 at BK122 HB hHeld ⊢
          refine pure_ (i := 1) (N := some 10) (v := ?_) (a' := ?_) #[false, true, false, false, false, false, false, false, false, false, false, false, false, false, false, false, false, false, false, false, false, false, false, false, false] rfl rfl (any_of HT_.out (by kernel_rfl)) (fun _ _ _ h => h) (Or.inl ⟨by rfl, ?_⟩) ?_ ?_
          rotate_left
          · intro w'
            go_simp
            with_reducible rfl
          rotate_left
          · simp only [Act.put, List.setIfInBounds_toArray, List.set_cons_zero, List.set_cons_succ, i64_w, i32_w]
            rfl
          refine pure_ (i := 4) (N := some 13) (v := ?_) (a' := ?_) #[false, true, false, false, true, false, false, false, false, false, false, false, false, false, false, false, false, false, false, false, false, false, false, false, false] rfl rfl (any_of HT_.out (by kernel_rfl)) (fun _ _ _ h => h) (Or.inl ⟨by rfl, ?_⟩) ?_ ?_
          rotate_left
          · intro w'
            go_simp
            with_reducible rfl
          rotate_left
          · simp only [Act.put, List.setIfInBounds_toArray, List.set_cons_zero, List.set_cons_succ, i64_w, i32_w]
            rfl
          refine take_ (i := 0) (N := some 9) (v := ?_) (a' := ?_) #[true, true, false, false, true, false, false, false, false, false, false, false, false, false, false, false, false, false, false, false, false, false, false, false, false] rfl rfl (take_ofW HT_.out HW_.out (by kernel_rfl)) (fun _ _ _ h => h) (Or.inl ⟨by rfl, ?_⟩) hHeld ?_ ?_
          rotate_left
          · rintro w' ⟨s0, s1, s2, s3, s4, s5⟩
            go_simp
            with_reducible rfl
          rotate_left
          · simp only [Act.put, List.setIfInBounds_toArray, List.set_cons_zero, List.set_cons_succ, i64_w, i32_w]
            rfl
          refine take_ (i := 3) (N := some 12) (v := ?_) (a' := ?_) #[true, true, false, true, true, false, false, false, false, false, false, false, false, false, false, false, false, false, false, false, false, false, false, false, false] rfl rfl (take_ofW HT_.out HW_.out (by kernel_rfl)) (fun _ _ _ h => h) (Or.inl ⟨by rfl, ?_⟩) hHeld ?_ ?_
          rotate_left
          · rintro w' ⟨s0, s1, s2, s3, s4, s5⟩
            go_simp
            with_reducible rfl
          rotate_left
          · simp only [Act.put, List.setIfInBounds_toArray, List.set_cons_zero, List.set_cons_succ, i64_w, i32_w]
            rfl
          refine one_ (i := 2) (N := some 11) #[true, true, true, true, true, false, false, false, false, false, false, false, false, false, false, false, false, false, false, false, false, false, false, false, false] rfl rfl (one_of HT_.out (by kernel_rfl)) (by decide) (fun K hK => ?_)
          refine goes_ Try.func52 (by kernel_rfl) rfl #[.agg #[.int .i64 a0_0, .int .i64 a0_1, .int .i64 a0_2, .string a0_3, .slice A0_4 l0_4.length c0_4, .slice A0_5 l0_5.length c0_5], .bool a1] (by rfl) rfl rfl (by (try simp only [List.map_toArray, List.map_cons, List.map_nil]); first | done | rfl | (simp only [List.length_drop, List.length_take]; rfl)) ?_
          with_reducible refine (value_Check.calls a0_0 a0_1 a0_2 a0_3 _ _ l0_4 _ _ l0_5 a1 t125 _ ?side1 ?side2 ?side3 ?side4 A5.out).mono ?_
          (case side1 => repeat (first | exact (Kd.C_below HR0_4.out HB.out) | (with_reducible refine Kd.C_alloc ?_ _) | (with_reducible refine Kd.C_drewN ?_ _) | (with_reducible refine Kd.C_drew ?_)))
          (case side2 => exact HC0_4.out)
          (case side3 => repeat (first | exact (Kd.C_below HR0_5.out HB.out) | (with_reducible refine Kd.C_alloc ?_ _) | (with_reducible refine Kd.C_drewN ?_ _) | (with_reducible refine Kd.C_drew ?_)))
          (case side4 => exact HC0_5.out)
          rintro e w19 ⟨rfl, hb⟩
          refine ⟨_, rfl, ?_⟩
          have n0_ := Aside0.mk (blk_below (g := gb122) (o := .cells #[.int .i64 a0_0, .int .i64 a0_1, .int .i64 a0_2, .string a0_3, .slice A0_4 l0_4.length c0_4, .slice A0_5 l0_5.length c0_5] 35 (0, 0)) (by (with_reducible repeat (first | refine blk_drewN ?_ _ | refine blk_drew ?_ | refine blk_alloc ?_ _)); exact BK122.out) hb)
          have n1_ := Aside0.mk (below_step (by repeat (first | (with_reducible first | exact HB.out | apply below_alloc | apply pw_below_drewN | apply below_drew1 | refine below_set ?_ GE122.out) | exact HB.out)) hb)
          clear BK122
          clear HB
          have BK122 := n0_
          have HB := n1_
          clear n0_ n1_
          (try clear hb)
          (try clear hb2)
          (try clear hk)
          (try clear hi)
          refine hK.out _ _ ⟨(blk_cell BK122.out 0).trans rfl, (blk_cell BK122.out 1).trans rfl, (blk_cell BK122.out 2).trans rfl, (blk_cell BK122.out 3).trans rfl, (blk_cell BK122.out 4).trans rfl, (blk_cell BK122.out 5).trans rfl⟩ (fun hHeld => ?_)
          clear hK K
          refine norm_ (a' := ?_) ?_ ?_
          rotate_left
          · show Act.put _ (some 11) _ = _
            simp only [Act.put, List.setIfInBounds_toArray, List.set_cons_zero, List.set_cons_succ, i64_w, i32_w]
            rfl
          refine one_ (i := 5) (N := some 14) #[true, true, true, true, true, true, false, false, false, false, false, false, false, false, false, false, false, false, false, false, false, false, false, false, false] rfl rfl (one_of HT_.out (by kernel_rfl)) (by decide) (fun K hK => ?_)
          refine goes_ Try.func53 (by kernel_rfl) rfl #[.agg #[.int .i64 a0_0, .int .i64 a0_1, .int .i64 a0_2, .string a0_3, .slice A0_4 l0_4.length c0_4, .slice A0_5 l0_5.length c0_5], .bool a1] (by rfl) rfl rfl (by (try simp only [List.map_toArray, List.map_cons, List.map_nil]); first | done | rfl | (simp only [List.length_drop, List.length_take]; rfl)) ?_
          with_reducible refine (binderyref16_Check.calls a0_0 a0_1 a0_2 a0_3 _ _ l0_4 _ _ l0_5 a1 t126 _ ?side1 ?side2 ?side3 ?side4 A6.out).mono ?_
          (case side1 => repeat (first | exact (Kd.C_below HR0_4.out HB.out) | (with_reducible refine Kd.C_alloc ?_ _) | (with_reducible refine Kd.C_drewN ?_ _) | (with_reducible refine Kd.C_drew ?_)))
          (case side2 => exact HC0_4.out)
          (case side3 => repeat (first | exact (Kd.C_below HR0_5.out HB.out) | (with_reducible refine Kd.C_alloc ?_ _) | (with_reducible refine Kd.C_drewN ?_ _) | (with_reducible refine Kd.C_drew ?_)))
          (case side4 => exact HC0_5.out)
          rintro e w20 ⟨rfl, hb⟩
          refine ⟨_, rfl, ?_⟩
          have n0_ := Aside0.mk (blk_below (g := gb122) (o := .cells #[.int .i64 a0_0, .int .i64 a0_1, .int .i64 a0_2, .string a0_3, .slice A0_4 l0_4.length c0_4, .slice A0_5 l0_5.length c0_5] 35 (0, 0)) (by (with_reducible repeat (first | refine blk_drewN ?_ _ | refine blk_drew ?_ | refine blk_alloc ?_ _)); exact BK122.out) hb)
          have n1_ := Aside0.mk (below_step (by repeat (first | (with_reducible first | exact HB.out | apply below_alloc | apply pw_below_drewN | apply below_drew1 | refine below_set ?_ GE122.out) | exact HB.out)) hb)
          clear BK122
          clear HB
          have BK122 := n0_
          have HB := n1_
          clear n0_ n1_
          (try clear hb)
          (try clear hb2)
          (try clear hk)
          (try clear hi)
          refine hK.out _ _ ⟨(blk_cell BK122.out 0).trans rfl, (blk_cell BK122.out 1).trans rfl, (blk_cell BK122.out 2).trans rfl, (blk_cell BK122.out 3).trans rfl, (blk_cell BK122.out 4).trans rfl, (blk_cell BK122.out 5).trans rfl⟩ (fun hHeld => ?_)
          clear hK K
          refine norm_ (a' := ?_) ?_ ?_
          rotate_left
          · show Act.put _ (some 14) _ = _
            simp only [Act.put, List.setIfInBounds_toArray, List.set_cons_zero, List.set_cons_succ, i64_w, i32_w]
            rfl
          refine pure_ (i := 6) (N := some 15) (v := ?_) (a' := ?_) #[true, true, true, true, true, true, true, false, false, false, false, false, false, false, false, false, false, false, false, false, false, false, false, false, false] rfl rfl (any_of HT_.out (by kernel_rfl)) (fun _ _ _ h => h) (Or.inl ⟨by rfl, ?_⟩) ?_ ?_
          rotate_left
          · intro w'
            go_simp
            with_reducible rfl
          rotate_left
          · simp only [Act.put, List.setIfInBounds_toArray, List.set_cons_zero, List.set_cons_succ, i64_w, i32_w]
            rfl
          refine pure_ (i := 7) (N := some 16) (v := ?_) (a' := ?_) #[true, true, true, true, true, true, true, true, false, false, false, false, false, false, false, false, false, false, false, false, false, false, false, false, false] rfl rfl (any_of HT_.out (by kernel_rfl)) (fun _ _ _ h => h) (Or.inl ⟨by rfl, ?_⟩) ?_ ?_
          rotate_left
          · intro w'
            go_simp
            with_reducible rfl
          rotate_left
          · simp only [Act.put, List.setIfInBounds_toArray, List.set_cons_zero, List.set_cons_succ, i64_w, i32_w]
            rfl
          refine take_ (i := 8) (N := some 17) (v := ?_) (a' := ?_) #[true, true, true, true, true, true, true, true, true, false, false, false, false, false, false, false, false, false, false, false, false, false, false, false, false] rfl rfl (take_ofW HT_.out HW_.out (by kernel_rfl)) (fun _ _ _ h => h) (Or.inl ⟨by rfl, ?_⟩) hHeld ?_ ?_
          rotate_left
          · rintro w' ⟨s0, s1, s2, s3, s4, s5⟩
            go_simp
            with_reducible rfl
          rotate_left
          · simp only [Act.put, List.setIfInBounds_toArray, List.set_cons_zero, List.set_cons_succ, i64_w, i32_w]
            rfl
          refine take_ (i := 10) (N := some 19) (v := ?_) (a' := ?_) #[true, true, true, true, true, true, true, true, true, false, true, false, false, false, false, false, false, false, false, false, false, false, false, false, false] rfl rfl (take_ofW HT_.out HW_.out (by kernel_rfl)) (fun _ _ _ h => h) (Or.inl ⟨by rfl, ?_⟩) hHeld ?_ ?_
          rotate_left
          · rintro w' ⟨s0, s1, s2, s3, s4, s5⟩
            go_simp
            with_reducible rfl
          rotate_left
          · simp only [Act.put, List.setIfInBounds_toArray, List.set_cons_zero, List.set_cons_succ, i64_w, i32_w]
            rfl
          refine one_ (i := 9) (N := some 18) #[true, true, true, true, true, true, true, true, true, true, true, false, false, false, false, false, false, false, false, false, false, false, false, false, false] rfl rfl (one_of HT_.out (by kernel_rfl)) (by decide) (fun K hK => ?_)
          refine goes_ Try.func54 (by kernel_rfl) rfl #[.agg #[.int .i64 a0_0, .int .i64 a0_1, .int .i64 a0_2, .string a0_3, .slice A0_4 l0_4.length c0_4, .slice A0_5 l0_5.length c0_5]] (by rfl) rfl rfl (by (try simp only [List.map_toArray, List.map_cons, List.map_nil]); first | done | rfl | (simp only [List.length_drop, List.length_take]; rfl)) ?_
          with_reducible refine (value_Depth.calls k a0_0 a0_1 a0_2 a0_3 _ _ l0_4 _ _ l0_5 t127 _ ?side1 ?side2 ?side3 ?side4 A8.out).mono ?_
          (case side1 => repeat (first | exact (Kd.C_below HR0_4.out HB.out) | (with_reducible refine Kd.C_alloc ?_ _) | (with_reducible refine Kd.C_drewN ?_ _) | (with_reducible refine Kd.C_drew ?_)))
          (case side2 => exact HC0_4.out)
          (case side3 => repeat (first | exact (Kd.C_below HR0_5.out HB.out) | (with_reducible refine Kd.C_alloc ?_ _) | (with_reducible refine Kd.C_drewN ?_ _) | (with_reducible refine Kd.C_drew ?_)))
          (case side4 => exact HC0_5.out)
          rintro e w21 ⟨rfl, hb⟩
          refine ⟨_, rfl, ?_⟩
          have n0_ := Aside0.mk (blk_below (g := gb122) (o := .cells #[.int .i64 a0_0, .int .i64 a0_1, .int .i64 a0_2, .string a0_3, .slice A0_4 l0_4.length c0_4, .slice A0_5 l0_5.length c0_5] 35 (0, 0)) (by (with_reducible repeat (first | refine blk_drewN ?_ _ | refine blk_drew ?_ | refine blk_alloc ?_ _)); exact BK122.out) hb)
          have n1_ := Aside0.mk (below_step (by repeat (first | (with_reducible first | exact HB.out | apply below_alloc | apply pw_below_drewN | apply below_drew1 | refine below_set ?_ GE122.out) | exact HB.out)) hb)
          clear BK122
          clear HB
          have BK122 := n0_
          have HB := n1_
          clear n0_ n1_
          (try clear hb)
          (try clear hb2)
          (try clear hk)
          (try clear hi)
          refine hK.out _ _ ⟨(blk_cell BK122.out 0).trans rfl, (blk_cell BK122.out 1).trans rfl, (blk_cell BK122.out 2).trans rfl, (blk_cell BK122.out 3).trans rfl, (blk_cell BK122.out 4).trans rfl, (blk_cell BK122.out 5).trans rfl⟩ (fun hHeld => ?_)
          clear hK K
          refine norm_ (a' := ?_) ?_ ?_
          rotate_left
          · show Act.put _ (some 18) _ = _
            simp only [Act.put, List.setIfInBounds_toArray, List.set_cons_zero, List.set_cons_succ, i64_w, i32_w]
            rfl
          refine one_ (i := 11) (N := some 20) #[true, true, true, true, true, true, true, true, true, true, true, true, false, false, false, false, false, false, false, false, false, false, false, false, false] rfl rfl (one_of HT_.out (by kernel_rfl)) (by decide) (fun K hK => ?_)
          refine goes_ Try.func55 (by kernel_rfl) rfl #[.agg #[.int .i64 a0_0, .int .i64 a0_1, .int .i64 a0_2, .string a0_3, .slice A0_4 l0_4.length c0_4, .slice A0_5 l0_5.length c0_5]] (by rfl) rfl rfl (by (try simp only [List.map_toArray, List.map_cons, List.map_nil]); first | done | rfl | (simp only [List.length_drop, List.length_take]; rfl)) ?_
          with_reducible refine (binderyref16_Depth.calls k a0_0 a0_1 a0_2 a0_3 _ _ l0_4 _ _ l0_5 t128 _ ?side1 ?side2 ?side3 ?side4 A9.out).mono ?_
          (case side1 => repeat (first | exact (Kd.C_below HR0_4.out HB.out) | (with_reducible refine Kd.C_alloc ?_ _) | (with_reducible refine Kd.C_drewN ?_ _) | (with_reducible refine Kd.C_drew ?_)))
          (case side2 => exact HC0_4.out)
          (case side3 => repeat (first | exact (Kd.C_below HR0_5.out HB.out) | (with_reducible refine Kd.C_alloc ?_ _) | (with_reducible refine Kd.C_drewN ?_ _) | (with_reducible refine Kd.C_drew ?_)))
          (case side4 => exact HC0_5.out)
          rintro e w22 ⟨rfl, hb⟩
          refine ⟨_, rfl, ?_⟩
          have n0_ := Aside0.mk (blk_below (g := gb122) (o := .cells #[.int .i64 a0_0, .int .i64 a0_1, .int .i64 a0_2, .string a0_3, .slice A0_4 l0_4.length c0_4, .slice A0_5 l0_5.length c0_5] 35 (0, 0)) (by (with_reducible repeat (first | refine blk_drewN ?_ _ | refine blk_drew ?_ | refine blk_alloc ?_ _)); exact BK122.out) hb)
          have n1_ := Aside0.mk (below_step (by repeat (first | (with_reducible first | exact HB.out | apply below_alloc | apply pw_below_drewN | apply below_drew1 | refine below_set ?_ GE122.out) | exact HB.out)) hb)
          clear BK122
          clear HB
          have BK122 := n0_
          have HB := n1_
          clear n0_ n1_
          (try clear hb)
          (try clear hb2)
          (try clear hk)
          (try clear hi)
          refine hK.out _ _ ⟨(blk_cell BK122.out 0).trans rfl, (blk_cell BK122.out 1).trans rfl, (blk_cell BK122.out 2).trans rfl, (blk_cell BK122.out 3).trans rfl, (blk_cell BK122.out 4).trans rfl, (blk_cell BK122.out 5).trans rfl⟩ (fun hHeld => ?_)
          clear hK K
          refine norm_ (a' := ?_) ?_ ?_
          rotate_left
          · show Act.put _ (some 20) _ = _
            simp only [Act.put, List.setIfInBounds_toArray, List.set_cons_zero, List.set_cons_succ, i64_w, i32_w]
            rfl
          refine pure_ (i := 12) (N := some 21) (v := ?_) (a' := ?_) #[true, true, true, true, true, true, true, true, true, true, true, true, true, false, false, false, false, false, false, false, false, false, false, false, false] rfl rfl (any_of HT_.out (by kernel_rfl)) (fun _ _ _ h => h) (Or.inl ⟨by rfl, ?_⟩) ?_ ?_
          rotate_left
          · intro w'
            go_simp
            with_reducible rfl
          rotate_left
          · simp only [Act.put, List.setIfInBounds_toArray, List.set_cons_zero, List.set_cons_succ, i64_w, i32_w]
            rfl
          refine pure_ (i := 13) (N := some 22) (v := ?_) (a' := ?_) #[true, true, true, true, true, true, true, true, true, true, true, true, true, true, false, false, false, false, false, false, false, false, false, false, false] rfl rfl (any_of HT_.out (by kernel_rfl)) (fun _ _ _ h => h) (Or.inl ⟨by rfl, ?_⟩) ?_ ?_
          rotate_left
          · intro w'
            go_simp
            with_reducible rfl
          rotate_left
          · simp only [Act.put, List.setIfInBounds_toArray, List.set_cons_zero, List.set_cons_succ, i64_w, i32_w]
            rfl
          refine pure_ (i := 14) (N := some 23) (v := ?_) (a' := ?_) #[true, true, true, true, true, true, true, true, true, true, true, true, true, true, true, false, false, false, false, false, false, false, false, false, false] rfl rfl (any_of HT_.out (by kernel_rfl)) (fun _ _ _ h => h) (Or.inl ⟨by rfl, ?_⟩) ?_ ?_
          rotate_left
          · intro w'
            go_simp
            with_reducible rfl
          rotate_left
          · simp only [Act.put, List.setIfInBounds_toArray, List.set_cons_zero, List.set_cons_succ, i64_w, i32_w]
            rfl
          refine take_ (i := 15) (N := some 24) (v := ?_) (a' := ?_) #[true, true, true, true, true, true, true, true, true, true, true, true, true, true, true, true, false, false, false, false, false, false, false, false, false] rfl rfl (take_ofW HT_.out HW_.out (by kernel_rfl)) (fun _ _ _ h => h) (Or.inl ⟨by rfl, ?_⟩) hHeld ?_ ?_
          rotate_left
          · rintro w' ⟨s0, s1, s2, s3, s4, s5⟩
            go_simp
            with_reducible rfl
          rotate_left
          · simp only [Act.put, List.setIfInBounds_toArray, List.set_cons_zero, List.set_cons_succ, i64_w, i32_w]
            rfl
          refine take_ (i := 17) (N := some 26) (v := ?_) (a' := ?_) #[true, true, true, true, true, true, true, true, true, true, true, true, true, true, true, true, false, true, false, false, false, false, false, false, false] rfl rfl (take_ofW HT_.out HW_.out (by kernel_rfl)) (fun _ _ _ h => h) (Or.inl ⟨by rfl, ?_⟩) hHeld ?_ ?_
          rotate_left
          · rintro w' ⟨s0, s1, s2, s3, s4, s5⟩
            go_simp
            with_reducible rfl
          rotate_left
          · simp only [Act.put, List.setIfInBounds_toArray, List.set_cons_zero, List.set_cons_succ, i64_w, i32_w]
            rfl
          refine one_ (i := 16) (N := some 25) #[true, true, true, true, true, true, true, true, true, true, true, true, true, true, true, true, true, true, false, false, false, false, false, false, false] rfl rfl (one_of HT_.out (by kernel_rfl)) (by decide) (fun K hK => ?_)
          refine goes_ Try.func56 (by kernel_rfl) rfl #[.agg #[.int .i64 a0_0, .int .i64 a0_1, .int .i64 a0_2, .string a0_3, .slice A0_4 l0_4.length c0_4, .slice A0_5 l0_5.length c0_5]] (by rfl) rfl rfl (by (try simp only [List.map_toArray, List.map_cons, List.map_nil]); first | done | rfl | (simp only [List.length_drop, List.length_take]; rfl)) ?_
          with_reducible refine (value_Size.calls k a0_0 a0_1 a0_2 a0_3 _ _ l0_4 _ _ l0_5 t129 _ ?side1 ?side2 ?side3 ?side4 A11.out).mono ?_
          (case side1 => repeat (first | exact (Kd.C_below HR0_4.out HB.out) | (with_reducible refine Kd.C_alloc ?_ _) | (with_reducible refine Kd.C_drewN ?_ _) | (with_reducible refine Kd.C_drew ?_)))
          (case side2 => exact HC0_4.out)
          (case side3 => repeat (first | exact (Kd.C_below HR0_5.out HB.out) | (with_reducible refine Kd.C_alloc ?_ _) | (with_reducible refine Kd.C_drewN ?_ _) | (with_reducible refine Kd.C_drew ?_)))
          (case side4 => exact HC0_5.out)
          rintro e w23 ⟨rfl, hb⟩
          refine ⟨_, rfl, ?_⟩
          have n0_ := Aside0.mk (blk_below (g := gb122) (o := .cells #[.int .i64 a0_0, .int .i64 a0_1, .int .i64 a0_2, .string a0_3, .slice A0_4 l0_4.length c0_4, .slice A0_5 l0_5.length c0_5] 35 (0, 0)) (by (with_reducible repeat (first | refine blk_drewN ?_ _ | refine blk_drew ?_ | refine blk_alloc ?_ _)); exact BK122.out) hb)
          have n1_ := Aside0.mk (below_step (by repeat (first | (with_reducible first | exact HB.out | apply below_alloc | apply pw_below_drewN | apply below_drew1 | refine below_set ?_ GE122.out) | exact HB.out)) hb)
          clear BK122
          clear HB
          have BK122 := n0_
          have HB := n1_
          clear n0_ n1_
          (try clear hb)
          (try clear hb2)
          (try clear hk)
          (try clear hi)
          refine hK.out _ _ ⟨(blk_cell BK122.out 0).trans rfl, (blk_cell BK122.out 1).trans rfl, (blk_cell BK122.out 2).trans rfl, (blk_cell BK122.out 3).trans rfl, (blk_cell BK122.out 4).trans rfl, (blk_cell BK122.out 5).trans rfl⟩ (fun hHeld => ?_)
          clear hK K
          refine norm_ (a' := ?_) ?_ ?_
          rotate_left
          · show Act.put _ (some 25) _ = _
            simp only [Act.put, List.setIfInBounds_toArray, List.set_cons_zero, List.set_cons_succ, i64_w, i32_w]
            rfl
          refine one_ (i := 18) (N := some 27) #[true, true, true, true, true, true, true, true, true, true, true, true, true, true, true, true, true, true, true, false, false, false, false, false, false] rfl rfl (one_of HT_.out (by kernel_rfl)) (by decide) (fun K hK => ?_)
          refine goes_ Try.func57 (by kernel_rfl) rfl #[.agg #[.int .i64 a0_0, .int .i64 a0_1, .int .i64 a0_2, .string a0_3, .slice A0_4 l0_4.length c0_4, .slice A0_5 l0_5.length c0_5]] (by rfl) rfl rfl (by (try simp only [List.map_toArray, List.map_cons, List.map_nil]); first | done | rfl | (simp only [List.length_drop, List.length_take]; rfl)) ?_
          with_reducible refine (binderyref16_Size.calls k a0_0 a0_1 a0_2 a0_3 _ _ l0_4 _ _ l0_5 t130 _ ?side1 ?side2 ?side3 ?side4 A12.out).mono ?_
          (case side1 => repeat (first | exact (Kd.C_below HR0_4.out HB.out) | (with_reducible refine Kd.C_alloc ?_ _) | (with_reducible refine Kd.C_drewN ?_ _) | (with_reducible refine Kd.C_drew ?_)))
          (case side2 => exact HC0_4.out)
          (case side3 => repeat (first | exact (Kd.C_below HR0_5.out HB.out) | (with_reducible refine Kd.C_alloc ?_ _) | (with_reducible refine Kd.C_drewN ?_ _) | (with_reducible refine Kd.C_drew ?_)))
          (case side4 => exact HC0_5.out)
          rintro e w24 ⟨rfl, hb⟩
          refine ⟨_, rfl, ?_⟩
          have n0_ := Aside0.mk (blk_below (g := gb122) (o := .cells #[.int .i64 a0_0, .int .i64 a0_1, .int .i64 a0_2, .string a0_3, .slice A0_4 l0_4.length c0_4, .slice A0_5 l0_5.length c0_5] 35 (0, 0)) (by (with_reducible repeat (first | refine blk_drewN ?_ _ | refine blk_drew ?_ | refine blk_alloc ?_ _)); exact BK122.out) hb)
          have n1_ := Aside0.mk (below_step (by repeat (first | (with_reducible first | exact HB.out | apply below_alloc | apply pw_below_drewN | apply below_drew1 | refine below_set ?_ GE122.out) | exact HB.out)) hb)
          clear BK122
          clear HB
          have BK122 := n0_
          have HB := n1_
          clear n0_ n1_
          (try clear hb)
          (try clear hb2)
          (try clear hk)
          (try clear hi)
          refine hK.out _ _ ⟨(blk_cell BK122.out 0).trans rfl, (blk_cell BK122.out 1).trans rfl, (blk_cell BK122.out 2).trans rfl, (blk_cell BK122.out 3).trans rfl, (blk_cell BK122.out 4).trans rfl, (blk_cell BK122.out 5).trans rfl⟩ (fun hHeld => ?_)
          clear hK K
          refine norm_ (a' := ?_) ?_ ?_
          rotate_left
          · show Act.put _ (some 27) _ = _
            simp only [Act.put, List.setIfInBounds_toArray, List.set_cons_zero, List.set_cons_succ, i64_w, i32_w]
            rfl
          refine pure_ (i := 19) (N := some 28) (v := ?_) (a' := ?_) #[true, true, true, true, true, true, true, true, true, true, true, true, true, true, true, true, true, true, true, true, false, false, false, false, false] rfl rfl (any_of HT_.out (by kernel_rfl)) (fun _ _ _ h => h) (Or.inl ⟨by rfl, ?_⟩) ?_ ?_
          rotate_left
          · intro w'
            go_simp
            with_reducible rfl
          rotate_left
          · simp only [Act.put, List.setIfInBounds_toArray, List.set_cons_zero, List.set_cons_succ, i64_w, i32_w]
            rfl
          refine pure_ (i := 20) (N := some 29) (v := ?_) (a' := ?_) #[true, true, true, true, true, true, true, true, true, true, true, true, true, true, true, true, true, true, true, true, true, false, false, false, false] rfl rfl (any_of HT_.out (by kernel_rfl)) (fun _ _ _ h => h) (Or.inl ⟨by rfl, ?_⟩) ?_ ?_
          rotate_left
          · intro w'
            go_simp
            with_reducible rfl
          rotate_left
          · simp only [Act.put, List.setIfInBounds_toArray, List.set_cons_zero, List.set_cons_succ, i64_w, i32_w]
            rfl
          refine pure_ (i := 21) (N := some 30) (v := ?_) (a' := ?_) #[true, true, true, true, true, true, true, true, true, true, true, true, true, true, true, true, true, true, true, true, true, true, false, false, false] rfl rfl (any_of HT_.out (by kernel_rfl)) (fun _ _ _ h => h) (Or.inl ⟨by rfl, ?_⟩) ?_ ?_
          rotate_left
          · intro w'
            go_simp
            with_reducible rfl
          rotate_left
          · simp only [Act.put, List.setIfInBounds_toArray, List.set_cons_zero, List.set_cons_succ, i64_w, i32_w]
            rfl
          refine one_ (i := 22) (N := some 31) #[true, true, true, true, true, true, true, true, true, true, true, true, true, true, true, true, true, true, true, true, true, true, true, false, false] rfl rfl (one_of HT_.out (by kernel_rfl)) (by decide) (fun K hK => ?_)
          refine goes_ Try.func51 (by kernel_rfl) rfl #[] (by rfl) rfl rfl (by (try simp only [List.map_toArray, List.map_cons, List.map_nil]); first | done | rfl | (simp only [List.length_drop, List.length_take]; rfl)) ?_
          with_reducible refine (binderylaw16_values.calls  t131 _ A14.out).mono ?_
          rintro e w25 ⟨rfl, hb⟩
          refine ⟨_, rfl, ?_⟩
          have n0_ := Aside0.mk (blk_below (g := gb122) (o := .cells #[.int .i64 a0_0, .int .i64 a0_1, .int .i64 a0_2, .string a0_3, .slice A0_4 l0_4.length c0_4, .slice A0_5 l0_5.length c0_5] 35 (0, 0)) (by (with_reducible repeat (first | refine blk_drewN ?_ _ | refine blk_drew ?_ | refine blk_alloc ?_ _)); exact BK122.out) hb)
          have n1_ := Aside0.mk (below_step (by repeat (first | (with_reducible first | exact HB.out | apply below_alloc | apply pw_below_drewN | apply below_drew1 | refine below_set ?_ GE122.out) | exact HB.out)) hb)
          clear BK122
          clear HB
          have BK122 := n0_
          have HB := n1_
          clear n0_ n1_
          (try clear hb)
          (try clear hb2)
          (try clear hk)
          (try clear hi)
          refine hK.out _ _ ⟨(blk_cell BK122.out 0).trans rfl, (blk_cell BK122.out 1).trans rfl, (blk_cell BK122.out 2).trans rfl, (blk_cell BK122.out 3).trans rfl, (blk_cell BK122.out 4).trans rfl, (blk_cell BK122.out 5).trans rfl⟩ (fun hHeld => ?_)
          clear hK K
          refine norm_ (a' := ?_) ?_ ?_
          rotate_left
          · show Act.put _ (some 31) _ = _
            simp only [Act.put, List.setIfInBounds_toArray, List.set_cons_zero, List.set_cons_succ, i64_w, i32_w]
            rfl
          refine pure_ (i := 23) (N := some 32) (v := ?_) (a' := ?_) #[true, true, true, true, true, true, true, true, true, true, true, true, true, true, true, true, true, true, true, true, true, true, true, true, false] rfl rfl (any_of HT_.out (by kernel_rfl)) (fun _ _ _ h => h) (Or.inl ⟨by rfl, ?_⟩) ?_ ?_
          rotate_left
          · intro w'
            go_simp
            with_reducible rfl
          rotate_left
          · simp only [Act.put, List.setIfInBounds_toArray, List.set_cons_zero, List.set_cons_succ, i64_w, i32_w]
            rfl
          refine pure_ (i := 24) (N := some 4) (v := ?_) (a' := ?_) #[true, true, true, true, true, true, true, true, true, true, true, true, true, true, true, true, true, true, true, true, true, true, true, true, true] rfl rfl (any_of HT_.out (by kernel_rfl)) (fun _ _ _ h => h) (Or.inl ⟨by rfl, ?_⟩) ?_ ?_
          rotate_left
          · intro w'
            go_simp
            with_reducible rfl
          rotate_left
          · simp only [Act.put, List.setIfInBounds_toArray, List.set_cons_zero, List.set_cons_succ, i64_w, i32_w]
            rfl
          refine done_ (done_of HT_.out (by kernel_rfl)) ?_
          try go_wp2
          go_ret
          exact ⟨by first | rfl | (simp [errW_none, errW_some] <;> rfl) | (simp [*, errW_none, errW_some] <;> rfl), by repeat (first | (with_reducible first | exact HB.out | apply below_alloc | apply pw_below_drewN | apply below_drew1 | refine below_set ?_ GE122.out) | exact HB.out)⟩
        · rw [if_neg c13] at H
          exact absurd H (by simp)
      · rw [if_neg c10] at H
        exact absurd H (by simp)
    · rw [if_neg c7] at H
      exact absurd H (by simp)
  · replace c4 := Bool.eq_false_iff.mpr c4
    subst c4
    have H1 : ((binderylaw16_values.f).bind fun t124 => (some t124)) = some r := by rw [if_neg (show ¬ (false = true) by decide)] at H; exact H
    clear H
    have H := H1
    clear H1
    replace H := Option.bind_eq_some_iff.mp H
    obtain ⟨t124, A260, H⟩ := H
    replace H : (some t124) = some r := H
    have A26 := Aside0.mk A260
    clear A260
    obtain rfl := Option.some.inj H
    go_enter Try.func9, Try.ntmps9
    go_wp2_with (first | ((with_reducible refine gate_dst (N := 2) rfl ?_); refine box_event ?hg (N := 2) ?hd (cs := #[.int .i64 a0_0, .int .i64 a0_1, .int .i64 a0_2, .string a0_3, .slice A0_4 l0_4.length c0_4, .slice A0_5 l0_5.length c0_5]) (t := 35) ?hr ?_; (case hd => rfl); (case hg => rfl); (case hr => first | (go_simp; done) | (go_simp; rfl)); intro gb122 hg w27 hbox hb; have n0_ := Aside0.mk (below_step (by repeat (first | (with_reducible first | exact HB.out | apply below_alloc | apply pw_below_drewN | apply below_drew1) | exact HB.out)) hb); have n1_ := Aside0.mk (hbox); have n2_ := Aside0.mk ((by rw [hg]; exact (below_size (by repeat (first | (with_reducible first | exact HB.out | apply below_alloc | apply pw_below_drewN | apply below_drew1) | exact HB.out))) : w.heap.size ≤ gb122)); have n3_ := Aside0.mk ((by rw [hg]; exact (below_size (by repeat (first | (with_reducible first | exact HB.out | apply below_alloc | apply pw_below_drewN | apply below_drew1) | exact HB.out))) : w.heap.size ≤ gb122)); clear HB; have HB := n0_; have BK122 := n1_; have GW122 := n2_; have GE122 := n3_; clear n0_ n1_ n2_ n3_; clear hb hbox hg; have hcz28_0 : w27.cell? ⟨gb122, 0, none⟩ = some (.int .i64 a0_0) := (blk_cell BK122.out 0).trans rfl; have hcz28_1 : w27.cell? ⟨gb122, 1, none⟩ = some (.int .i64 a0_1) := (blk_cell BK122.out 1).trans rfl; have hcz28_2 : w27.cell? ⟨gb122, 2, none⟩ = some (.int .i64 a0_2) := (blk_cell BK122.out 2).trans rfl; have hcz28_3 : w27.cell? ⟨gb122, 3, none⟩ = some (.string a0_3) := (blk_cell BK122.out 3).trans rfl; have hcz28_4 : w27.cell? ⟨gb122, 4, none⟩ = some (.slice A0_4 l0_4.length c0_4) := (blk_cell BK122.out 4).trans rfl; have hcz28_5 : w27.cell? ⟨gb122, 5, none⟩ = some (.slice A0_5 l0_5.length c0_5) := (blk_cell BK122.out 5).trans rfl; have hfz28_0 := blk_frozen BK122.out 0; have hfz28_1 := blk_frozen BK122.out 1; have hfz28_2 := blk_frozen BK122.out 2; have hfz28_3 := blk_frozen BK122.out 3; have hfz28_4 := blk_frozen BK122.out 4; have hfz28_5 := blk_frozen BK122.out 5) | ((with_reducible refine gate_callee (f := 50) rfl ?_); refine goesL_ (some 6) rfl rfl Try.func50 (by kernel_rfl) rfl #[.agg #[.int .i64 a0_0, .int .i64 a0_1, .int .i64 a0_2, .string a0_3, .slice A0_4 l0_4.length c0_4, .slice A0_5 l0_5.length c0_5], .int .i64 2000] rfl (by (try simp only [List.map_toArray, List.map_cons, List.map_nil]); first | done | rfl | (simp only [List.length_drop, List.length_take]; rfl)) ?_; (with_reducible refine (binderyref16_Few.calls k a0_0 a0_1 a0_2 a0_3 _ _ l0_4 _ _ l0_5 2000 false _ ?side1 ?side2 ?side3 ?side4 A3.out).mono ?_); (case side1 => repeat (first | exact (Kd.C_below HR0_4.out HB.out) | (with_reducible refine Kd.C_alloc ?_ _) | (with_reducible refine Kd.C_drewN ?_ _) | (with_reducible refine Kd.C_drew ?_))); (case side2 => exact HC0_4.out); (case side3 => repeat (first | exact (Kd.C_below HR0_5.out HB.out) | (with_reducible refine Kd.C_alloc ?_ _) | (with_reducible refine Kd.C_drewN ?_ _) | (with_reducible refine Kd.C_drew ?_))); (case side4 => exact HC0_5.out); rintro e w29 ⟨rfl, hb⟩; refine ⟨_, rfl, ?_⟩; have n0_ := Aside0.mk (blk_below (g := gb122) (o := .cells #[.int .i64 a0_0, .int .i64 a0_1, .int .i64 a0_2, .string a0_3, .slice A0_4 l0_4.length c0_4, .slice A0_5 l0_5.length c0_5] 35 (0, 0)) (by (with_reducible repeat (first | refine blk_drewN ?_ _ | refine blk_drew ?_ | refine blk_alloc ?_ _)); exact BK122.out) hb); have n1_ := Aside0.mk (below_step (by repeat (first | (with_reducible first | exact HB.out | apply below_alloc | apply pw_below_drewN | apply below_drew1 | refine below_set ?_ GE122.out) | exact HB.out)) hb); clear BK122; clear HB; have BK122 := n0_; have HB := n1_; clear n0_ n1_; (try clear hb); (try clear hb2); (try clear hk); (try clear hi)) | ((with_reducible refine gate_callee (f := 51) rfl ?_); refine goesL_ (some 8) rfl rfl Try.func51 (by kernel_rfl) rfl #[] rfl (by (try simp only [List.map_toArray, List.map_cons, List.map_nil]); first | done | rfl | (simp only [List.length_drop, List.length_take]; rfl)) ?_; (with_reducible refine (binderylaw16_values.calls  t124 _ A26.out).mono ?_); rintro e w30 ⟨rfl, hb⟩; refine ⟨_, rfl, ?_⟩; have n0_ := Aside0.mk (blk_below (g := gb122) (o := .cells #[.int .i64 a0_0, .int .i64 a0_1, .int .i64 a0_2, .string a0_3, .slice A0_4 l0_4.length c0_4, .slice A0_5 l0_5.length c0_5] 35 (0, 0)) (by (with_reducible repeat (first | refine blk_drewN ?_ _ | refine blk_drew ?_ | refine blk_alloc ?_ _)); exact BK122.out) hb); have n1_ := Aside0.mk (below_step (by repeat (first | (with_reducible first | exact HB.out | apply below_alloc | apply pw_below_drewN | apply below_drew1 | refine below_set ?_ GE122.out) | exact HB.out)) hb); clear BK122; clear HB; have BK122 := n0_; have HB := n1_; clear n0_ n1_; (try clear hb); (try clear hb2); (try clear hk); (try clear hi)))
    go_ret
    exact ⟨by first | rfl | (simp [errW_none, errW_some] <;> rfl) | (simp [*, errW_none, errW_some] <;> rfl), by repeat (first | (with_reducible first | exact HB.out | apply below_alloc | apply pw_below_drewN | apply below_drew1 | refine below_set ?_ GE122.out) | exact HB.out)⟩
end Go.Proofs.Ytogpnkkoablmiaa.X
end
