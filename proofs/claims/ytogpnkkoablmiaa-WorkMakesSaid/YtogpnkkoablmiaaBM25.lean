/- Parts of the proof: what the theorem reaches, put together by a program of this session. -/
import Derived.ArgAppend
import Derived.Below
import Derived.BigGuardPart
import Derived.BigQuiet
import Derived.BigRegion
import Derived.Deep.AppendLies
import Derived.Deep.CutBlock
import Derived.Deep.DeepCutAuto
import Derived.Deep.Draws
import Derived.Deep.LoopGhost
import Derived.Deep.OwnRows
import Derived.Deep.QuietTactic
import Derived.Deep.RegionHeld3
import Derived.Deep.RegionLaw
import Derived.KernelRfl
import Derived.Laws.BitsLemmas
import Derived.Laws.BytesArg
import Derived.Laws.EntriesVeiled
import Derived.Laws.IdiomCopy
import Derived.Laws.MakeOwn
import Derived.Laws.OwnMore
import Derived.Laws.Rows
import Derived.Laws.Slices
import Derived.Laws.StructEq
import Derived.Lib.AppendIntMem
import Derived.Lib.AppendStr
import Derived.Lib.Bytealg
import Derived.Lib.ConvBytes
import Derived.Lib.Hide
import Derived.Lib.OwnBridge
import Derived.Lib.SliceRun
import Derived.LoopIn
import Derived.LoopNIn
import Derived.Maps.AppendAt
import Derived.Maps.OwnOps
import Derived.Maps.Views
import Derived.OrdersHeld
import Derived.Outline
import Derived.OwnWalk
import Derived.OwnWalkIn
import Derived.RangeFuncBound
import Derived.RangeFuncBox
import Derived.RangeFuncCalls
import Derived.RangeFuncFrom
import Derived.RangeFuncKeeps
import Derived.RangeFuncLeaves
import Derived.RangeFuncNested
import Derived.RowKit
import Derived.RowKit3
import Derived.Shelf.Abstract
import Derived.Shelf.RegionOpen
import Derived.Shelf.SlSortCmp.KitK
import Derived.Shelf.Spec.SlicesInsertGrow
import Derived.Sort.LotA
import Derived.Sort.WalkB12
import Derived.Sort.WalkB2
import Derived.Tactics
import Derived.TacticsInMore
import Derived.Test.YtogpnkkoablmiaaProg
import Derived.WalkKit
import Derived.WalkLawsBesides
import Derived.WideLaws
import Derived.Test.YtogpnkkoablmiaaBM1
import Derived.Test.YtogpnkkoablmiaaBM2
import Derived.Test.YtogpnkkoablmiaaBM3
import Derived.Test.YtogpnkkoablmiaaBM4
import Derived.Test.YtogpnkkoablmiaaBM5
import Derived.Test.YtogpnkkoablmiaaBM6
import Derived.Test.YtogpnkkoablmiaaBM7
import Derived.Test.YtogpnkkoablmiaaBM9
import Derived.Test.YtogpnkkoablmiaaBM10
import Derived.Test.YtogpnkkoablmiaaBM11
import Derived.Test.YtogpnkkoablmiaaBM12
import Derived.Test.YtogpnkkoablmiaaBM13
import Derived.Test.YtogpnkkoablmiaaBM14
import Derived.Test.YtogpnkkoablmiaaBM15
import Derived.Test.YtogpnkkoablmiaaBM16
import Derived.Test.YtogpnkkoablmiaaBM17
import Derived.Test.YtogpnkkoablmiaaBM18
import Derived.Test.YtogpnkkoablmiaaBM19
import Derived.Test.YtogpnkkoablmiaaBM20
import Derived.Test.YtogpnkkoablmiaaBM21
import Derived.Test.YtogpnkkoablmiaaBM22
import Derived.Test.YtogpnkkoablmiaaBM23
import Derived.Test.YtogpnkkoablmiaaBM24
section
namespace Go.Proofs.Ytogpnkkoablmiaa.V
open Go.Proofs.Ytogpnkkoablmiaa.P Go.Shelf Go.RowKit Go.Lib Go.Sort Go.Proofs.Ytogpnkkoablmiaa.Q Go.Proofs.YtogpnkkoablmiaaW.PrintWords Go.Proofs.YtogpnkkoablmiaaW.PrintLast Go.Proofs.YtogpnkkoablmiaaW.PrintMore
set_option linter.unusedVariables false
set_option linter.unusedSimpArgs false
attribute [local go_sem high] eqA28
attribute [local go_sem] nzv_ne nzv_beq nzv_bne
attribute [local go_sem] Oper.semAt_some
theorem few33_f (k : Nat) (l : List S37) : binderylaw33_Few.f k l = if (l.length : Int) > 60 then some false else binderylaw33_Few.l0 k l 0 := rfl
theorem few33_l0 (d : List S37) (hd : d.length ≤ 60) : ∀ (r i : Nat), d.length - i = r → i ≤ d.length → ∃ b k0, (b = true → ∀ p ∈ d.drop i, fewV p.f2) ∧ ∀ k, k0 ≤ k → binderylaw33_Few.l0 k d i = some b := by
  intro r
  induction r with
  | zero =>
    intro i hr hi
    refine ⟨true, 1, fun _ p hp => by rw [List.drop_eq_nil_of_le (by omega)] at hp; simp at hp, fun k hk => ?_⟩
    obtain ⟨k, rfl⟩ : ∃ j, k = j + 1 := ⟨k - 1, by omega⟩
    unfold binderylaw33_Few.l0
    rw [if_neg (by omega)]
  | succ r ihr =>
    intro i hr hi
    obtain ⟨b1, k1, g1, h1⟩ := few_all (d.getD i z37).f2 60 (by omega) (by omega)
    obtain ⟨b2, k2, g2, h2⟩ := ihr (i + 1) (by omega) (by omega)
    have e : rd_T37 d (i : Int) = d.getD i z37 := rfl
    have hw : wrap64 ((i : Int) + 1) = ((i + 1 : Nat) : Int) := by unfold wrap64; omega
    have hlt : i < d.length := by omega
    refine ⟨if b1 = true then b2 else false, max k1 k2 + 1, fun h p hp => ?_, fun k hk => ?_⟩
    · cases b1 with
      | false => simp at h
      | true =>
        have h' : b2 = true := by simpa using h
        rw [List.drop_eq_getElem_cons hlt] at hp
        rcases List.mem_cons.1 hp with rfl | hp
        · have := (g1 rfl).2.1
          rw [List.getD_eq_getElem?_getD, List.getElem?_eq_getElem hlt] at this
          exact this
        · exact g2 h' p hp
    · obtain ⟨k, rfl⟩ : ∃ j, k = j + 1 := ⟨k - 1, by omega⟩
      unfold binderylaw33_Few.l0
      rw [if_pos (by omega), if_pos (by omega), e, h1 k (by omega), Option.bind_some, hw, h2 k (by omega)]
      cases b1 <;> rfl
theorem few33_all (d : List S37) : ∃ b k, (b = true → d.length ≤ 60 ∧ ∀ p ∈ d, fewV p.f2) ∧ binderylaw33_Few.f k d = some b := by
  by_cases hd : (d.length : Int) > 60
  · exact ⟨false, 0, (fun h => by cases h), by rw [few33_f, if_pos hd]⟩
  · obtain ⟨b, k0, g, h⟩ := few33_l0 d (by omega) d.length 0 (by omega) (by omega)
    exact ⟨b, k0, fun hb => ⟨by omega, by simpa using g hb⟩, by rw [few33_f, if_neg hd]; exact h k0 (Nat.le_refl _)⟩
theorem findE_iff (s : WS) (n g : Int) : findE s n g = 0 ↔ ∃ i : Nat, n = i ∧ 1 ≤ i ∧ i < s.now.length ∧ (s.now.getD i z69).f1 = true ∧ (s.now.getD i z69).f0 = g := by
  constructor
  · exact findE_zero
  · rintro ⟨i, rfl, h1, h2, h3, h4⟩
    unfold findE
    rw [if_neg (by omega), Int.toNat_natCast, if_neg (by rw [h3]; simp), if_neg (by rw [h4]; simp)]
structure Fresh (s : WS) (told gone : List (Int × Int)) : Prop where
  ok : OkS s
  most : s.most = 20
  len : s.now.length ≤ 21
  dead : ∀ i : Nat, (s.now.getD i z69).f1 = false → (s.now.getD i z69).f2 = z35
  pos : ∀ i : Nat, (s.now.getD i z69).f1 = true → 1 ≤ i ∧ i < s.now.length
  live : ∀ i : Nat, (s.now.getD i z69).f1 = true → ((i : Int), (s.now.getD i z69).f0) ∈ told
  names : ∀ t ∈ told, ∃ i : Nat, t.1 = i ∧ 1 ≤ i ∧ i < s.now.length ∧ t.2 ≤ (s.now.getD i z69).f0 ∧ (t.2 = (s.now.getD i z69).f0 → (s.now.getD i z69).f1 = true ∨ (s.now.getD i z69).f0 = 65535)
  find : ∀ t ∈ told, findE s t.1 t.2 = 0 ↔ t ∉ gone
  sub : ∀ t ∈ gone, t ∈ told
theorem Fresh.same {s s' : WS} {told gone : List (Int × Int)} (h : Fresh s told gone) (ho : OkS s') (hm : s'.most = s.most) (hl : s'.now.length = s.now.length)
    (he : ∀ i : Nat, (s'.now.getD i z69).f0 = (s.now.getD i z69).f0 ∧ (s'.now.getD i z69).f1 = (s.now.getD i z69).f1 ∧ ((s.now.getD i z69).f1 = false → (s'.now.getD i z69).f2 = (s.now.getD i z69).f2)) : Fresh s' told gone := by
  refine ⟨ho, hm.trans h.most, by rw [hl]; exact h.len, fun i hi => ?_, fun i hi => ?_, fun i hi => ?_, fun t ht => ?_, fun t ht => ?_, h.sub⟩
  · rw [(he i).2.1] at hi
    rw [(he i).2.2 hi]
    exact h.dead i hi
  · rw [(he i).2.1] at hi
    rw [hl]
    exact h.pos i hi
  · rw [(he i).2.1] at hi
    rw [(he i).1]
    exact h.live i hi
  · obtain ⟨i, h1, h2, h3, h4, h5⟩ := h.names t ht
    exact ⟨i, h1, h2, by rw [hl]; exact h3, by rw [(he i).1]; exact h4, by rw [(he i).1, (he i).2.1]; exact h5⟩
  · rw [← h.find t ht, findE_iff, findE_iff]
    constructor
    · rintro ⟨i, h1, h2, h3, h4, h5⟩
      exact ⟨i, h1, h2, by rw [← hl]; exact h3, by rw [← (he i).2.1]; exact h4, by rw [← (he i).1]; exact h5⟩
    · rintro ⟨i, h1, h2, h3, h4, h5⟩
      exact ⟨i, h1, h2, by rw [hl]; exact h3, by rw [(he i).2.1]; exact h4, by rw [(he i).1]; exact h5⟩
end Go.Proofs.Ytogpnkkoablmiaa.V
end
section
namespace Go.Proofs.Ytogpnkkoablmiaa.V
open Go.Proofs.Ytogpnkkoablmiaa.P Go.Shelf Go.RowKit Go.Lib Go.Sort Go.Proofs.Ytogpnkkoablmiaa.Q Go.Proofs.YtogpnkkoablmiaaW.PrintWords Go.Proofs.YtogpnkkoablmiaaW.PrintLast Go.Proofs.YtogpnkkoablmiaaW.PrintMore
set_option linter.unusedVariables false
set_option linter.unusedSimpArgs false
attribute [local go_sem high] eqA28
attribute [local go_sem] nzv_ne nzv_beq nzv_bne
attribute [local go_sem] Oper.semAt_some
theorem own_slice {W : World} {base e size n : Nat} {v : Value} {xs : List Value} (h : W.ownsRow base e size v n xs) : ∃ A c, v = .slice A n c ∧ n ≤ c := by
  rcases h.2 with ⟨h1, h2⟩ | ⟨g, cap, cur, h1, _, _, h2, _⟩
  · have h0 : n = 0 := by simpa using h2
    subst h0
    exact ⟨none, 0, h1, Nat.le_refl _⟩
  · exact ⟨_, cap, h1, by omega⟩
end Go.Proofs.Ytogpnkkoablmiaa.V
end
section
namespace Go.Proofs.Ytogpnkkoablmiaa.V
open Go.Proofs.Ytogpnkkoablmiaa.P Go.Shelf Go.RowKit Go.Lib Go.Sort Go.Proofs.Ytogpnkkoablmiaa.Q Go.Proofs.YtogpnkkoablmiaaW.PrintWords Go.Proofs.YtogpnkkoablmiaaW.PrintLast Go.Proofs.YtogpnkkoablmiaaW.PrintMore
set_option linter.unusedVariables false
set_option linter.unusedSimpArgs false
attribute [local go_sem high] eqA28
attribute [local go_sem] nzv_ne nzv_beq nzv_bne
attribute [local go_sem] Oper.semAt_some
theorem Wk.lt {b0 wb : Nat} {X : Nat → Prop} {s : WS} {W : World} (h : Wk b0 wb X s W) {k : Nat} (hk : X k) : k < W.heap.size := by
  obtain ⟨L, _, hw, hX⟩ := h
  exact (hw.2.2.2.2.2.2.2.2.2 k (hX k hk)).1
def stepM (s : WS) (m x1 x2 : Int) (xv : S35) : WS := if m = 0 then allocS s else if m = 1 then putW s x1 x2 xv else if m = 2 then delW s x1 x2 else if m = 3 then s else if m = 4 then rootW s x1 x2 else s
set_option maxHeartbeats 8000000 in
set_option maxRecDepth 100000 in
theorem step_calls {b0 wb : Nat} {X : Nat → Prop} {s : WS} {W : World} (x0 x1 x2 : Int) (xv : S35) (P4 : Option Addr) (p4 : Nat) (P5 : Option Addr) (p5 : Nat) (h : Wk b0 wb X s W) (h0 : b0 ≤ W.heap.size) (ho : OkS s) (hl : s.now.length ≤ 90000) (hv : HasV xv P4 p4 P5 p5 W) (hf : fewV xv) :
    Calls Try.prog 37 #[.pointer (some ⟨wb, 0, none⟩), .agg #[.int .u8 x0, .int .i64 x1, .int .i64 x2, .int .i64 xv.f0, .int .i64 xv.f1, .int .i64 xv.f2, .string xv.f3, .slice P4 xv.f4.length p4, .slice P5 xv.f5.length p5]] W fun e w' => e = .returned (.tuple #[]) ∧ Wk b0 wb X (stepM s (x0.tmod 7) x1 x2 xv) w' ∧ Mv b0 X W w' := by
  have hu28 := Try.underlying28
  have hu35 := Try.underlying35
  have hu37 := Try.underlying37
  have hb1 := below_alloc (RowKit.Below.refl _ W) (.cells #[.int .u8 x0, .int .i64 x1, .int .i64 x2, .int .i64 xv.f0, .int .i64 xv.f1, .int .i64 xv.f2, .string xv.f3, .slice P4 xv.f4.length p4, .slice P5 xv.f5.length p5] 37)
  have HV := Aside0.mk (hv.below hb1)
  have HK := Aside0.mk (h.below hb1)
  have HM := Aside0.mk (Mv.of_below h0 (fun k hk => h.lt hk) hb1)
  have h0' : b0 ≤ (W.alloc (.cells #[.int .u8 x0, .int .i64 x1, .int .i64 x2, .int .i64 xv.f0, .int .i64 xv.f1, .int .i64 xv.f2, .string xv.f3, .slice P4 xv.f4.length p4, .slice P5 xv.f5.length p5] 37)).heap.size := Nat.le_trans h0 hb1.size
  obtain ⟨v0, v1, v2, v3, v4, v5, v6, v7, v8⟩ := box9 (blk_new W (.cells #[.int .u8 x0, .int .i64 x1, .int .i64 x2, .int .i64 xv.f0, .int .i64 xv.f1, .int .i64 xv.f2, .string xv.f3, .slice P4 xv.f4.length p4, .slice P5 xv.f5.length p5] 37))
  have hsz : W.heap.size < (W.alloc (.cells #[.int .u8 x0, .int .i64 x1, .int .i64 x2, .int .i64 xv.f0, .int .i64 xv.f1, .int .i64 xv.f2, .string xv.f3, .slice P4 xv.f4.length p4, .slice P5 xv.f5.length p5] 37)).heap.size := by simp
  obtain ⟨s', hs'⟩ : ∃ s', s' = stepM s (x0.tmod 7) x1 x2 xv := ⟨_, rfl⟩
  rw [← hs']
  have HS := Aside0.mk hs'
  clear hs' hv h hb1
  go_enter Try.func37, Try.ntmps37
  go_upto_block 0 with fail
  generalize x0.tmod 7 = m at *
  by_cases h0 : m = 0
  · subst h0
    have hss : s' = allocS s := HS.out.trans rfl
    subst hss
    have KA := Aside0.mk (L_alloc HK.out h0' hl)
    go_wp2_with fail
    refine Calls.mono KA.out ?_
    rintro e w3 ⟨rfl, hk, hm⟩
    have HK3 := Aside0.mk hk
    have HM3 := Aside0.mk (HM.out.trans hm)
    clear hk hm KA v0 v1 v2 v3 v4 v5 v6 v7 v8
    go_wp2
    go_end0
    exact ⟨rfl, HK3.out, HM3.out⟩
  · have h0' : (m == 0) = false := by simpa using h0
    by_cases h1 : m = 1
    · subst h1
      have hss : s' = putW s x1 x2 xv := HS.out.trans rfl
      subst hss
      clear HS
      clear h0 h0'
      have KA := Aside0.mk (L_put (n := x1) (g := x2) HK.out h0' HV.out hf)
      go_wp2_with fail
      refine Calls.mono KA.out ?_
      rintro e w3 ⟨rfl, hk, hm⟩
      have HK3 := Aside0.mk hk
      have HM3 := Aside0.mk (HM.out.trans hm)
      clear hk hm KA v0 v1 v2 v3 v4 v5 v6 v7 v8
      go_wp2
      go_end0
      exact ⟨rfl, HK3.out, HM3.out⟩
    · have h1' : (m == 1) = false := by simpa using h1
      by_cases h2 : m = 2
      · subst h2
        have hss : s' = delW s x1 x2 := HS.out.trans rfl
        subst hss
        clear HS
        clear h0 h0' h1 h1'
        have KA := Aside0.mk (L_delete (n := x1) (g := x2) HK.out h0' ho)
        go_wp2_with fail
        refine Calls.mono KA.out ?_
        rintro e w3 ⟨rfl, hk, hm⟩
        have HK3 := Aside0.mk hk
        have HM3 := Aside0.mk (HM.out.trans hm)
        clear hk hm KA v0 v1 v2 v3 v4 v5 v6 v7 v8
        go_wp2
        go_end0
        exact ⟨rfl, HK3.out, HM3.out⟩
      · have h2' : (m == 2) = false := by simpa using h2
        by_cases h3 : m = 3
        · subst h3
          have hss : s' = s := HS.out.trans rfl
          subst hss
          clear HS
          clear h0 h0' h1 h1' h2 h2'
          have KA := Aside0.mk (L_get (n := x1) (g := x2) HK.out ho)
          go_wp2_with fail
          refine Calls.mono KA.out ?_
          rintro e w3 ⟨q4, n4, q5, n5, rfl, -, hb⟩
          have HK3 := Aside0.mk (HK.out.below hb)
          have HM3 := Aside0.mk (HM.out.trans (Mv.of_below (by have := HM.out.1.size; omega) (fun k hk => HK.out.lt hk) hb))
          clear hb KA v0 v1 v2 v3 v4 v5 v6 v7 v8
          go_wp2
          go_end0
          exact ⟨rfl, HK3.out, HM3.out⟩
        · have h3' : (m == 3) = false := by simpa using h3
          by_cases h4 : m = 4
          · subst h4
            have hss : s' = rootW s x1 x2 := HS.out.trans rfl
            subst hss
            clear HS
            clear h0 h0' h1 h1' h2 h2' h3 h3'
            have KA := Aside0.mk (L_setroot (n := x1) (g := x2) HK.out h0')
            go_wp2_with fail
            refine Calls.mono KA.out ?_
            rintro e w3 ⟨rfl, hk, hm⟩
            have HK3 := Aside0.mk hk
            have HM3 := Aside0.mk (HM.out.trans hm)
            clear hk hm KA v0 v1 v2 v3 v4 v5 v6 v7 v8
            go_wp2
            go_end0
            exact ⟨rfl, HK3.out, HM3.out⟩
          · have h4' : (m == 4) = false := by simpa using h4
            have hss : s' = s := HS.out.trans (by unfold stepM; rw [if_neg h0, if_neg h1, if_neg h2, if_neg h3, if_neg h4])
            subst hss
            clear HS
            clear h0 h1 h2 h3 h4
            go_wp2
            go_end0
            exact ⟨rfl, HK.out, HM.out⟩
noncomputable def alikeR (a b : S69) : Bool := decide (a.f0 = b.f0) && (a.f1 == b.f1) && eqB a.f2 b.f2
set_option maxHeartbeats 8000000 in
set_option maxRecDepth 100000 in
theorem alike_calls97 (a b : S69) (A4 : Option Addr) (c4 : Nat) (A5 : Option Addr) (c5 : Nat) (B4 : Option Addr) (d4 : Nat) (B5 : Option Addr) (d5 : Nat) (w : World) (ha : HasV a.f2 A4 c4 A5 c5 w) (hb : HasV b.f2 B4 d4 B5 d5 w) :
    Calls Try.prog 97 #[.agg #[.int .i64 a.f0, .bool a.f1, .int .i64 a.f2.f0, .int .i64 a.f2.f1, .int .i64 a.f2.f2, .string a.f2.f3, .slice A4 a.f2.f4.length c4, .slice A5 a.f2.f5.length c5], .agg #[.int .i64 b.f0, .bool b.f1, .int .i64 b.f2.f0, .int .i64 b.f2.f1, .int .i64 b.f2.f2, .string b.f2.f3, .slice B4 b.f2.f4.length d4, .slice B5 b.f2.f5.length d5]] w fun e w' => e = .returned (.bool (alikeR a b)) ∧ RowKit.Below w.heap.size w w' := by
  have hu69 := Try.underlying69
  have hu35 := Try.underlying35
  have HB := Aside0.mk (below_alloc (below_alloc (RowKit.Below.refl w.heap.size w) (.cells #[.int .i64 a.f0, .bool a.f1, .int .i64 a.f2.f0, .int .i64 a.f2.f1, .int .i64 a.f2.f2, .string a.f2.f3, .slice A4 a.f2.f4.length c4, .slice A5 a.f2.f5.length c5] 69)) (.cells #[.int .i64 b.f0, .bool b.f1, .int .i64 b.f2.f0, .int .i64 b.f2.f1, .int .i64 b.f2.f2, .string b.f2.f3, .slice B4 b.f2.f4.length d4, .slice B5 b.f2.f5.length d5] 69))
  have KS := Aside0.mk (fun (W : World) (h : RowKit.Below w.heap.size w W) => K_equal a.f2 A4 c4 A5 c5 b.f2 B4 d4 B5 d5 W (ha.below h) (hb.below h))
  obtain ⟨u0, u1, u2, u3, u4, u5, u6, u7⟩ := box8 (blk_alloc (blk_new w (.cells #[.int .i64 a.f0, .bool a.f1, .int .i64 a.f2.f0, .int .i64 a.f2.f1, .int .i64 a.f2.f2, .string a.f2.f3, .slice A4 a.f2.f4.length c4, .slice A5 a.f2.f5.length c5] 69)) (.cells #[.int .i64 b.f0, .bool b.f1, .int .i64 b.f2.f0, .int .i64 b.f2.f1, .int .i64 b.f2.f2, .string b.f2.f3, .slice B4 b.f2.f4.length d4, .slice B5 b.f2.f5.length d5] 69))
  obtain ⟨v0, v1, v2, v3, v4, v5, v6, v7⟩ := box8 (blk_new (w.alloc (.cells #[.int .i64 a.f0, .bool a.f1, .int .i64 a.f2.f0, .int .i64 a.f2.f1, .int .i64 a.f2.f2, .string a.f2.f3, .slice A4 a.f2.f4.length c4, .slice A5 a.f2.f5.length c5] 69)) (.cells #[.int .i64 b.f0, .bool b.f1, .int .i64 b.f2.f0, .int .i64 b.f2.f1, .int .i64 b.f2.f2, .string b.f2.f3, .slice B4 b.f2.f4.length d4, .slice B5 b.f2.f5.length d5] 69))
  simp only [World.size_alloc] at v0 v1 v2 v3 v4 v5 v6 v7
  obtain ⟨r, hr⟩ : ∃ r, r = alikeR a b := ⟨_, rfl⟩
  rw [← hr]
  have HR := Aside0.mk (hr.trans (show alikeR a b = (decide (a.f0 = b.f0) && (a.f1 == b.f1) && eqB a.f2 b.f2) from rfl))
  generalize eqB a.f2 b.f2 = q at *
  clear hr ha hb
  by_cases h0 : a.f0 = b.f0
  · by_cases h1 : a.f1 = b.f1
    · have hrq : r = q := by rw [HR.out, decide_eq_true h0, h1]; simp
      subst hrq
      have h1' : (a.f1 == b.f1) = true := by rw [h1]; simp
      clear HR
      obtain ⟨x0, hx0⟩ : ∃ x0, x0 = b.f0 := ⟨_, rfl⟩
      go_enter Try.func97, Try.ntmps97
      go_wp2_with fail
      refine Calls.mono (KS.out _ (below_alloc (below_alloc (RowKit.Below.refl w.heap.size w) _) _)) ?_
      rintro e w1 ⟨rfl, hb⟩
      have HB1 := Aside0.mk (below_step (below_alloc (below_alloc (RowKit.Below.refl w.heap.size w) _) _) hb)
      clear hb
      go_wp2
      go_ret
      exact ⟨rfl, HB1.out⟩
    · have hrq : r = false := by
        rw [HR.out]
        have : (a.f1 == b.f1) = false := by simpa using h1
        rw [this]
        simp
      subst hrq
      have h1' : (a.f1 == b.f1) = false := by simpa using h1
      clear HR
      go_enter Try.func97, Try.ntmps97
      go_wp2
      go_ret
      exact ⟨rfl, below_alloc (below_alloc (RowKit.Below.refl w.heap.size w) _) _⟩
  · have hrq : r = false := by
      rw [HR.out, decide_eq_false h0]
      simp
    subst hrq
    clear HR
    go_enter Try.func97, Try.ntmps97
    go_wp2
    go_ret
    exact ⟨rfl, below_alloc (below_alloc (RowKit.Below.refl w.heap.size w) _) _⟩
theorem alikeR_iff (a b : S69) : alikeR a b = true ↔ a = b := by
  unfold alikeR
  simp only [Bool.and_eq_true, decide_eq_true_eq, beq_iff_eq, eqB_iff]
  constructor
  · rintro ⟨⟨h1, h2⟩, h3⟩
    cases a; cases b
    simp only [] at h1 h2 h3
    rw [h1, h2, h3]
  · rintro rfl
    exact ⟨⟨rfl, rfl⟩, rfl⟩
set_option maxHeartbeats 8000000 in
set_option maxRecDepth 100000 in
theorem same29 (l0 l1 : List S69) (A0 : Option Addr) (c0 : Nat) (A1 : Option Addr) (c1 : Nat) (w : World) (hr0 : k69.C w A0 l0.length l0) (hr1 : k69.C w A1 l1.length l1) (hl9 : l0.length ≤ 90000) :
    Calls Try.prog 29 #[.slice A0 l0.length c0, .slice A1 l1.length c1] w fun e w' => e = .returned (.bool (eqB l0 l1)) ∧ RowKit.Below w.heap.size w w' := by
  have hu69 := Try.underlying69
  have hu46 := Try.underlying46
  have H0 := Aside0.mk hr0
  have H1 := Aside0.mk hr1
  obtain ⟨N, hN⟩ : ∃ N, N = l0.length := ⟨_, rfl⟩
  obtain ⟨M, hM⟩ : ∃ M, M = l1.length := ⟨_, rfl⟩
  obtain ⟨r, hr⟩ : ∃ r, r = eqB l0 l1 := ⟨_, rfl⟩
  rw [← hN, ← hM, ← hr]
  have HN := Aside0.mk hN
  have HM := Aside0.mk hM
  have HR := Aside0.mk hr
  have HL := Aside0.mk (show N ≤ 90000 by omega)
  clear hr0 hr1 hN hM hr hl9
  by_cases hnm : N = M
  · subst hnm
    go_enter Try.func29, Try.ntmps29
    go_wp2
    go_loopw [5] (fun i wr => ∃ k : Nat, k ≤ N ∧ i = .int .i64 k ∧ Aside0 (RowKit.Below w.heap.size w wr) ∧ Aside0 (∀ j, j < k → l0.getD j z69 = l1.getD j z69)) (fun i _ => N - (intOf i).toNat)
    case atStart => exact ⟨0, Nat.zero_le _, rfl, ⟨RowKit.Below.refl _ _⟩, ⟨fun j hj => by omega⟩⟩
    case round =>
      obtain ⟨k, hk, rfl, HB, HT⟩ := hrel
      by_cases hlt : k < N
      · obtain ⟨ad0, P4, p4, P5, p5, hA0, x0, x1, x2, x3, x4, x5, x6, x7, lp4, gp4, lp5, gp5⟩ := at_T69 (Kd.C_below H0.out HB.out) (k : Int) (by omega) (by have := HN.out; omega)
        obtain ⟨ad1, Q4, q4, Q5, q5, hA1, z0, z1, z2, z3, z4, z5, z6, z7, lq4, gq4, lq5, gq5⟩ := at_T69 (Kd.C_below H1.out HB.out) (k : Int) (by omega) (by have := HM.out; omega)
        subst hA0
        subst hA1
        simp only [rd_T69, Int.toNat_natCast] at x0 x1 x2 x3 x4 x5 x6 x7 lp4 gp4 lp5 gp5 z0 z1 z2 z3 z4 z5 z6 z7 lq4 gq4 lq5 gq5
        have hwk : wrap64 ((k : Int) + 1) = (k : Int) + 1 := by have := HL.out; unfold wrap64; omega
        have HWK := Aside0.mk hwk
        have hNm : N ≤ 9223372036854775807 := by have := HL.out; omega
        obtain ⟨x, hx⟩ : ∃ x, x = l0.getD k z69 := ⟨_, rfl⟩
        obtain ⟨z, hz⟩ : ∃ z, z = l1.getD k z69 := ⟨_, rfl⟩
        rw [← hx] at x0 x1 x2 x3 x4 x5 x6 x7 lp4 gp4 lp5 gp5
        rw [← hz] at z0 z1 z2 z3 z4 z5 z6 z7 lq4 gq4 lq5 gq5
        have KA := Aside0.mk (alike_calls97 x z P4 p4 P5 p5 Q4 q4 Q5 q5 wr.drew (HasV.below ⟨lp4, gp4, lp5, gp5⟩ (RowKit.Below.refl _ wr).drew) (HasV.below ⟨lq4, gq4, lq5, gq5⟩ (RowKit.Below.refl _ wr).drew))
        obtain ⟨q, hq⟩ : ∃ q, q = alikeR x z := ⟨_, rfl⟩
        rw [← hq] at KA
        have HQ := Aside0.mk (And.intro hx (And.intro hz hq))
        clear hwk hx hz hq lp4 gp4 lp5 gp5 lq4 gq4 lq5 gq5
        go_upto_region 6 with fail
        refine start_ (n := 10) (S := (fun w' => w'.cell? (ad0.add (k * 8)) = some (.int .i64 x.f0) ∧ w'.cell? ⟨(ad0.add (k * 8)).block, (ad0.add (k * 8)).off + 1, none⟩ = some (.bool x.f1) ∧ w'.cell? ⟨(ad0.add (k * 8)).block, (ad0.add (k * 8)).off + 2, none⟩ = some (.int .i64 x.f2.f0) ∧ w'.cell? ⟨(ad0.add (k * 8)).block, (ad0.add (k * 8)).off + 3, none⟩ = some (.int .i64 x.f2.f1) ∧ w'.cell? ⟨(ad0.add (k * 8)).block, (ad0.add (k * 8)).off + 4, none⟩ = some (.int .i64 x.f2.f2) ∧ w'.cell? ⟨(ad0.add (k * 8)).block, (ad0.add (k * 8)).off + 5, none⟩ = some (.string x.f2.f3) ∧ w'.cell? ⟨(ad0.add (k * 8)).block, (ad0.add (k * 8)).off + 6, none⟩ = some (.slice P4 x.f2.f4.length p4) ∧ w'.cell? ⟨(ad0.add (k * 8)).block, (ad0.add (k * 8)).off + 7, none⟩ = some (.slice P5 x.f2.f5.length p5) ∧ w'.cell? (ad1.add (k * 8)) = some (.int .i64 z.f0) ∧ w'.cell? ⟨(ad1.add (k * 8)).block, (ad1.add (k * 8)).off + 1, none⟩ = some (.bool z.f1) ∧ w'.cell? ⟨(ad1.add (k * 8)).block, (ad1.add (k * 8)).off + 2, none⟩ = some (.int .i64 z.f2.f0) ∧ w'.cell? ⟨(ad1.add (k * 8)).block, (ad1.add (k * 8)).off + 3, none⟩ = some (.int .i64 z.f2.f1) ∧ w'.cell? ⟨(ad1.add (k * 8)).block, (ad1.add (k * 8)).off + 4, none⟩ = some (.int .i64 z.f2.f2) ∧ w'.cell? ⟨(ad1.add (k * 8)).block, (ad1.add (k * 8)).off + 5, none⟩ = some (.string z.f2.f3) ∧ w'.cell? ⟨(ad1.add (k * 8)).block, (ad1.add (k * 8)).off + 6, none⟩ = some (.slice Q4 z.f2.f4.length q4) ∧ w'.cell? ⟨(ad1.add (k * 8)).block, (ad1.add (k * 8)).off + 7, none⟩ = some (.slice Q5 z.f2.f5.length q5))) (ds := [8, 9]) #[false, false, false, false, false, false, false, false, false, false] (by kernel_rfl) rfl rfl (by refine ⟨?_, ?_, ?_, ?_, ?_, ?_, ?_, ?_, ?_, ?_, ?_, ?_, ?_, ?_, ?_, ?_⟩ <;> go_simp) (fun hHeld => ?_)
        have HH := Aside0.mk hHeld
        clear hHeld
        refine pure_ (i := 0) (N := some 17) (v := ?_) (a' := ?_) #[true, false, false, false, false, false, false, false, false, false] rfl rfl (by kernel_rfl) (fun _ _ _ h => h) (Or.inl ⟨by rfl, ?_⟩) ?_ ?_
        rotate_left
        · intro w'
          go_simp
          with_reducible rfl
        rotate_left
        · simp only [Act.put, List.setIfInBounds_toArray, List.set_cons_zero, List.set_cons_succ]
          rfl
        refine pure_ (i := 1) (N := some 18) (v := ?_) (a' := ?_) #[true, true, false, false, false, false, false, false, false, false] rfl rfl (by kernel_rfl) (fun _ _ _ h => h) (Or.inl ⟨by rfl, ?_⟩) ?_ ?_
        rotate_left
        · intro w'
          go_simp
          with_reducible rfl
        rotate_left
        · simp only [Act.put, List.setIfInBounds_toArray, List.set_cons_zero, List.set_cons_succ]
          rfl
        refine pure_ (i := 2) (N := some 19) (v := ?_) (a' := ?_) #[true, true, true, false, false, false, false, false, false, false] rfl rfl (by kernel_rfl) (fun _ _ _ h => h) (Or.inl ⟨by rfl, ?_⟩) ?_ ?_
        rotate_left
        · intro w'
          go_simp
          with_reducible rfl
        rotate_left
        · simp only [Act.put, List.setIfInBounds_toArray, List.set_cons_zero, List.set_cons_succ]
          rfl
        refine take_ (i := 3) (N := some 20) (v := ?_) (a' := ?_) #[true, true, true, true, false, false, false, false, false, false] rfl rfl (by kernel_rfl) (fun _ _ _ h => h) (Or.inl ⟨by rfl, ?_⟩) HH.out ?_ ?_
        rotate_left
        · intro w' hSw
          (try dsimp only at hSw)
          go_split_ands
          go_simp
          with_reducible rfl
        rotate_left
        · simp only [Act.put, List.setIfInBounds_toArray, List.set_cons_zero, List.set_cons_succ]
          rfl
        refine pure_ (i := 4) (N := some 21) (v := ?_) (a' := ?_) #[true, true, true, true, true, false, false, false, false, false] rfl rfl (by kernel_rfl) (fun _ _ _ h => h) (Or.inl ⟨by rfl, ?_⟩) ?_ ?_
        rotate_left
        · intro w'
          go_simp
          with_reducible rfl
        rotate_left
        · simp only [Act.put, List.setIfInBounds_toArray, List.set_cons_zero, List.set_cons_succ]
          rfl
        refine pure_ (i := 5) (N := some 22) (v := ?_) (a' := ?_) #[true, true, true, true, true, true, false, false, false, false] rfl rfl (by kernel_rfl) (fun _ _ _ h => h) (Or.inl ⟨by rfl, ?_⟩) ?_ ?_
        rotate_left
        · intro w'
          go_simp
          with_reducible rfl
        rotate_left
        · simp only [Act.put, List.setIfInBounds_toArray, List.set_cons_zero, List.set_cons_succ]
          rfl
        refine pure_ (i := 6) (N := some 23) (v := ?_) (a' := ?_) #[true, true, true, true, true, true, true, false, false, false] rfl rfl (by kernel_rfl) (fun _ _ _ h => h) (Or.inl ⟨by rfl, ?_⟩) ?_ ?_
        rotate_left
        · intro w'
          go_simp
          with_reducible rfl
        rotate_left
        · simp only [Act.put, List.setIfInBounds_toArray, List.set_cons_zero, List.set_cons_succ]
          rfl
        refine take_ (i := 7) (N := some 24) (v := ?_) (a' := ?_) #[true, true, true, true, true, true, true, true, false, false] rfl rfl (by kernel_rfl) (fun _ _ _ h => h) (Or.inl ⟨by rfl, ?_⟩) HH.out ?_ ?_
        rotate_left
        · intro w' hSw
          (try dsimp only at hSw)
          go_split_ands
          go_simp
          with_reducible rfl
        rotate_left
        · simp only [Act.put, List.setIfInBounds_toArray, List.set_cons_zero, List.set_cons_succ]
          rfl
        refine chain_ [8, 9] _ _ _ _ (⟨_, _, rfl, rfl, ⟨_, _, rfl, rfl, rfl⟩⟩) (by kernel_rfl) (by decide) ?_
        clear hNm x0 x1 x2 x3 x4 x5 x6 x7 z0 z1 z2 z3 z4 z5 z6 z7
        cases q
        · have hrf : r = false := HR.out.trans (eqB_false (fun e => by
            have h1 := HQ.out.2.2
            rw [(alikeR_iff x z).2 (by rw [HQ.out.1, HQ.out.2.1, e])] at h1
            cases h1))
          subst hrf
          go_wp2_with fail
          refine Calls.mono KA.out ?_
          rintro e w3 ⟨rfl, hb⟩
          have HB3 := Aside0.mk (HB.out.trans (((RowKit.Below.refl _ wr).drew.trans hb).mono HB.out.size))
          clear hb KA
          go_wp2
          go_ret
          exact ⟨rfl, HB3.out⟩
        · have hxz : x = z := (alikeR_iff x z).1 HQ.out.2.2.symm
          have HT2 := Aside0.mk (show ∀ j, j < k + 1 → l0.getD j z69 = l1.getD j z69 from fun j hj => by
            by_cases hjk : j < k
            · exact HT.out j hjk
            · obtain rfl : j = k := by omega
              rw [← HQ.out.1, ← HQ.out.2.1, hxz])
          clear hxz
          go_wp2_with fail
          refine Calls.mono KA.out ?_
          rintro e w3 ⟨rfl, hb⟩
          have HB3 := Aside0.mk (HB.out.trans (((RowKit.Below.refl _ wr).drew.trans hb).mono HB.out.size))
          clear hb KA
          go_wp2
          exact ⟨⟨k + 1, by omega, by first | (rw [HWK.out]; simp; done) | (simp; done), HB3, HT2⟩, by first | (rw [HWK.out]; simp [intOf]; omega) | (simp [intOf]; omega)⟩
      · obtain rfl : N = k := by omega
        have hrt : r = true := HR.out.trans (eqB_true (List.ext_getElem (by have := HN.out; have := HM.out; omega) (fun i h1 h2 => by
          have h := HT.out i (by have := HN.out; omega)
          rw [List.getD_eq_getElem?_getD, List.getElem?_eq_getElem h1, List.getD_eq_getElem?_getD, List.getElem?_eq_getElem h2] at h
          exact h)))
        subst hrt
        go_wp2
        go_ret
        exact ⟨rfl, HB.out⟩
  · have hrf : r = false := HR.out.trans (eqB_false (fun e => hnm (by rw [HN.out, HM.out, e])))
    subst hrf
    have hnm' : ((N : Int) == (M : Int)) = false := by rw [beq_eq_false_iff_ne]; omega
    clear hnm
    go_enter Try.func29, Try.ntmps29
    go_wp2
    go_ret
    exact ⟨rfl, RowKit.Below.refl _ _⟩
end Go.Proofs.Ytogpnkkoablmiaa.V
end
section
namespace Go.Proofs.Ytogpnkkoablmiaa.V
open Go.Proofs.Ytogpnkkoablmiaa.P Go.Shelf Go.RowKit Go.Lib Go.Sort Go.Proofs.Ytogpnkkoablmiaa.Q Go.Proofs.YtogpnkkoablmiaaW.PrintWords Go.Proofs.YtogpnkkoablmiaaW.PrintLast Go.Proofs.YtogpnkkoablmiaaW.PrintMore
set_option linter.unusedVariables false
set_option linter.unusedSimpArgs false
attribute [local go_sem high] eqA28
attribute [local go_sem] nzv_ne nzv_beq nzv_bne
attribute [local go_sem] Oper.semAt_some
theorem rowB_ne {W : World} {k b g c n : Nat} {xs : List Value} (h : RowB W k) (ho : W.ownsRow b 69 8 (.slice (some ⟨g, 0, none⟩) n c) n xs) : k ≠ g := by
  rintro rfl
  obtain ⟨cells, hc⟩ := own_typed ho k rfl
  obtain ⟨q, cs, hq, hh⟩ := h
  rw [hc] at hh
  injection hh with hh; injection hh with _ h2 _
  rcases hq with rfl | rfl
  · exact absurd h2 (by decide)
  · exact absurd h2 (by decide)
theorem keepU_cells {W : World} {b g c n : Nat} {xs : List Value} (ho : W.ownsRow b 69 8 (.slice (some ⟨g, 0, none⟩) n c) n xs) (o : Nat) (vs : List Value) : KeepU 0 W (W.setCells g o vs) := by
  have hm : Moves 0 (fun k => k = g) W (W.setCells g o vs) := moves_cells (S := fun k => k = g) rfl (Nat.zero_le _) vs _ W (Moves.refl _ _ _)
  exact ⟨hm.1, fun k hk => hm.2.2 k hk.lt (rowB_ne hk ho)⟩
set_option maxHeartbeats 8000000 in
set_option maxRecDepth 100000 in
theorem wslots_typed (b0 : Nat) (L : WL) (s : WS) (w : World) (h : WorkIs b0 L s w) (hn : 0 < L.rs.length) (hl : L.rs.length ≤ 90000) (hf : ∀ x ∈ s.now, fewV x.f2) : Calls Try.prog 30 #[.pointer (some ⟨L.wb, 0, none⟩)] w fun e w' => ∃ g' c' rs', e = .returned (.slice (some ⟨g', 0, none⟩) rs'.length c') ∧ OwnS w.heap.size g' c' rs' w' ∧ rs'.map (fun y => y.x) = s.now.map plainS ∧ (∀ y ∈ rs', FT y w') ∧ RowKit.Below w.heap.size w w' := by
  have hu46 := Try.underlying46
  have hu69 := Try.underlying69
  have hu35 := Try.underlying35
  have hu120 := Try.underlying120
  have hu123 := Try.underlying123
  obtain ⟨k0, -⟩ := h.box
  have KC := Aside0.mk (clone98 L.rs ⟨L.g, 0, none⟩ L.c w hn hl (h.2.2.2.2.1.cells rfl))
  have HFW := Aside0.mk hf
  have HNX := Aside0.mk (And.intro h.2.2.2.2.2.1 h.len)
  have HFS := Aside0.mk (fun y hy => FV.bound (h.2.2.2.2.2.2.1 y hy))
  have hmx := hl
  obtain ⟨N, hN⟩ : ∃ N, N = L.rs.length := ⟨_, rfl⟩
  rw [← hN] at k0 KC hn hmx
  have HN := Aside0.mk hN
  have HMX := Aside0.mk hmx
  have hlw := h.lt.1
  clear h hf hl hN hmx
  go_enter Try.func30, Try.ntmps30
  go_wp2_with fail
  refine Calls.mono KC.out ?_
  rintro e w1 ⟨g, c, rfl, ho, hb⟩
  have hgl := ho.lt g rfl
  have O1 := Aside0.mk (show OwnS w.heap.size g c L.rs w1 from ⟨by rw [← HN.out]; exact ho, fun y hy => FV.mono ((HFS.out y hy).below hb) (fun k hk => by have := hk.2; omega)⟩)
  have HB := Aside0.mk hb
  have hg0 : w.heap.size ≤ g := hgl.1
  clear k0 KC ho hb HFS hgl
  go_wp2
  go_loopw [15] (fun i wr => ∃ (k : Nat) (rs : List RS), k ≤ N ∧ i = .int .i64 k ∧ Aside0 (rs.length = N) ∧ Aside0 (OwnS w.heap.size g c rs wr) ∧ Aside0 (rs.map (fun y => y.x) = (s.now.take k).map plainS ++ s.now.drop k) ∧ Aside0 (RowKit.Below w.heap.size w wr) ∧ Aside0 (∀ j, j < k → FT (rs.getD j default) wr)) (fun i _ => N - (intOf i).toNat)
  case atStart => exact ⟨0, L.rs, Nat.zero_le _, rfl, ⟨HN.out.symm⟩, O1, ⟨by simpa using HNX.out.1⟩, HB, ⟨fun j hj => by omega⟩⟩
  case round =>
    obtain ⟨k, rs, hk, rfl, HRL, HO, HX, HB2, HFT⟩ := hrel
    clear O1 HB
    by_cases hlt : k < N
    · have hsl : s.now.length = N := by rw [HNX.out.2, HN.out]
      obtain ⟨y, hy, hym, s0, s1, s2, s3, s4, s5, s6, s7⟩ := HO.out.at k (by have := HRL.out; omega)
      have hyx : y.x = s.now.getD k z69 := by
        have h1 : (rs.map (fun y => y.x)).getD k z69 = y.x := by
          rw [hy, List.getD_eq_getElem?_getD, List.getD_eq_getElem?_getD, List.getElem?_map, List.getElem?_eq_getElem (by have := HRL.out; omega)]
          rfl
        rw [← h1, HX.out]
        exact mixed_at _ _ _ (by omega)
      have HFV := Aside0.mk (HFW.out _ (getD_mem s.now k (by omega) z69))
      have HTK := Aside0.mk (show (s.now.take (k + 1)).map plainS ++ s.now.drop (k + 1) = ((s.now.take k).map plainS ++ s.now.drop k).set k (plainS (s.now.getD k z69)) from (mixed_set _ _ _ (by omega)).symm)
      rw [← hyx] at HFV HTK
      have hwk : wrap64 ((k : Int) + 1) = (k : Int) + 1 := by have := HMX.out; unfold wrap64; omega
      have HWK := Aside0.mk hwk
      have hNm : N ≤ 90000 := HMX.out
      have KP := Aside0.mk (plain_typed y.x.f2 y.a4 y.c4 y.a5 y.c5 wr HFV.out (FV.has (HO.out.2 y hym)))
      obtain ⟨p, hp⟩ : ∃ p, p = plain y.x.f2 := ⟨_, rfl⟩
      rw [← hp] at KP
      have HPP := Aside0.mk hp
      have hgr : g < wr.heap.size := HO.out.lt.2
      have HY := Aside0.mk hy
      clear hwk hyx hp hy hym hsl
      go_wp2_with fail
      refine Calls.mono KP.out ?_
      rintro e w2 ⟨a4, n4, a5, n5, rfl, hpv, hb⟩
      have HO2 := Aside0.mk (HO.out.below hb)
      have HB3 := Aside0.mk (HB2.out.trans (hb.mono HB2.out.size))
      obtain ⟨y2, hy2, -, v0, v1, v2, v3, v4, v5, v6, v7⟩ := HO2.out.at k (by have := HRL.out; omega)
      have hfz := HO2.out.1.frozenAt
      have fz2 := hfz (k * 8 + 2)
      have fz3 := hfz (k * 8 + 3)
      have fz4 := hfz (k * 8 + 4)
      have fz5 := hfz (k * 8 + 5)
      have fz6 := hfz (k * 8 + 6)
      have fz7 := hfz (k * 8 + 7)
      have ST := Aside0.mk (HO2.out.store k (by have := HRL.out; omega) ⟨⟨y.x.f0, y.x.f1, p⟩, a4, n4, a5, n5⟩ 2 [.int .i64 p.f0, .int .i64 p.f1, .int .i64 p.f2, .string p.f3, .slice a4 p.f4.length n4, .slice a5 p.f5.length n5] (by simp) (by rw [← HY.out]; simp [encS]) (FV.mono hpv (fun k hk => rowB_ne hk HO2.out.1)))
      have hku : KeepU 0 w2 (w2.setCells g (k * 8 + 2) [.int .i64 p.f0, .int .i64 p.f1, .int .i64 p.f2, .string p.f3, .slice a4 p.f4.length n4, .slice a5 p.f5.length n5]) := keepU_cells HO2.out.1 _ _
      have FT2 := Aside0.mk (show ∀ j, j < k + 1 → FT ((rs.set k ⟨⟨y.x.f0, y.x.f1, p⟩, a4, n4, a5, n5⟩).getD j default) (w2.setCells g (k * 8 + 2) [.int .i64 p.f0, .int .i64 p.f1, .int .i64 p.f2, .string p.f3, .slice a4 p.f4.length n4, .slice a5 p.f5.length n5]) from fun j hj => by
        rw [List.getD_eq_getElem?_getD, List.getElem?_set]
        by_cases hjk : k = j
        · subst hjk
          rw [if_pos rfl, if_pos (by have := HRL.out; omega)]
          exact FT.keep (B := 0) (y := ⟨⟨y.x.f0, y.x.f1, p⟩, a4, n4, a5, n5⟩) hpv hku
        · rw [if_neg hjk, ← List.getD_eq_getElem?_getD]
          exact FT.keep (B := 0) (FT.keep (HFT.out j (by omega)) (KeepU.of_below (Nat.le_refl _) hb)) hku)
      have LB := Aside0.mk (RowKit.Below.setCell (RowKit.Below.setCell (RowKit.Below.setCell (RowKit.Below.setCell (RowKit.Below.setCell (RowKit.Below.setCell (HB3.out) (p := ⟨g, k * 8 + 2, none⟩) (hg0) (.int .i64 p.f0)) (p := ⟨g, k * 8 + 3, none⟩) (hg0) (.int .i64 p.f1)) (p := ⟨g, k * 8 + 4, none⟩) (hg0) (.int .i64 p.f2)) (p := ⟨g, k * 8 + 5, none⟩) (hg0) (.string p.f3)) (p := ⟨g, k * 8 + 6, none⟩) (hg0) (.slice a4 p.f4.length n4)) (p := ⟨g, k * 8 + 7, none⟩) (hg0) (.slice a5 p.f5.length n5))
      have HX2 := Aside0.mk (show (rs.set k ⟨⟨y.x.f0, y.x.f1, p⟩, a4, n4, a5, n5⟩).map (fun y => y.x) = (s.now.take (k + 1)).map plainS ++ s.now.drop (k + 1) by
        rw [List.map_set, HX.out, HTK.out, HPP.out]
        rfl)
      clear hb hpv hku hfz s0 s1 s2 s3 s4 s5 s6 s7 hy2
      go_wp2
      exact ⟨⟨k + 1, rs.set k ⟨⟨y.x.f0, y.x.f1, p⟩, a4, n4, a5, n5⟩, by omega, by first | (rw [HWK.out]; simp; done) | (simp; done), ⟨by rw [List.length_set]; exact HRL.out⟩, ST, HX2, LB, FT2⟩, by first | (rw [HWK.out]; simp [intOf]; omega) | (simp [intOf]; omega)⟩
    · obtain rfl : N = k := by omega
      have hsl : s.now.length = N := by rw [HNX.out.2, HN.out]
      have hx : rs.map (fun y => y.x) = s.now.map plainS := by rw [HX.out, List.take_of_length_le (by omega), List.drop_of_length_le (by omega), List.append_nil]
      have HXX := Aside0.mk hx
      obtain ⟨rn, hrn⟩ : ∃ rn, rn = rs.length := ⟨_, rfl⟩
      have hrN : rn = N := by rw [hrn]; exact HRL.out
      subst hrN
      have HR2 := Aside0.mk hrn
      clear hx hsl hrn
      go_wp2
      go_ret
      exact ⟨g, c, rs, by rw [← HR2.out]; rfl, HO.out, HXX.out, fun y hy => by
        obtain ⟨j, hj⟩ := List.getElem?_of_mem hy
        have hjl := (List.getElem?_eq_some_iff.1 hj).1
        have h := HFT.out j (by have := HR2.out; omega)
        rw [List.getD_eq_getElem?_getD, hj] at h
        exact h, HB2.out⟩
theorem L_slotsT {b0 wb : Nat} {X : Nat → Prop} {s : WS} {W : World} (h : Wk b0 wb X s W) (ho : OkS s) (hl : s.now.length ≤ 90000) : Calls Try.prog 30 #[.pointer (some ⟨wb, 0, none⟩)] W fun e w' => ∃ g' c' rs', e = .returned (.slice (some ⟨g', 0, none⟩) rs'.length c') ∧ OwnS W.heap.size g' c' rs' w' ∧ rs'.map (fun y => y.x) = s.now.map plainS ∧ (∀ y ∈ rs', FT y w') ∧ RowKit.Below W.heap.size W w' := by
  obtain ⟨L, rfl, hw, hX⟩ := h
  exact wslots_typed b0 L s W hw (by rw [← hw.len]; exact ho.2.2.1) (by rw [← hw.len]; exact hl) (fun x hx => (ho.1 x hx).1)
def chS (was : List S69) (x : Nat × S69) : List S69 := if x.1 = was.length then was ++ [x.2] else was.set x.1 x.2
def mkC (was : List S69) (c : List (Nat × S69)) : List S69 := c.foldl chS was
noncomputable def partW (b n : List S69) (m : Nat) : List S69 := (List.range (max b.length m)).map fun i => if i < m then plainS (n.getD i z69) else plainS (b.getD i z69)
theorem partW_len (b n : List S69) (m : Nat) : (partW b n m).length = max b.length m := by simp [partW]
theorem partW_get (b n : List S69) (m i : Nat) : (partW b n m)[i]? = if i < max b.length m then some (if i < m then plainS (n.getD i z69) else plainS (b.getD i z69)) else none := by
  unfold partW
  rw [List.getElem?_map]
  by_cases h : i < max b.length m
  · rw [if_pos h, List.getElem?_range h]; rfl
  · rw [if_neg h, List.getElem?_eq_none (by simpa using h)]; rfl
theorem alikeS_plain {a b : S69} (h : alikeS a b = true) : plainS a = plainS b := by
  unfold alikeS at h
  simp only [Bool.and_eq_true, decide_eq_true_eq, beq_iff_eq, eqB_iff] at h
  unfold plainS
  rw [h.1.1, h.1.2, h.2]
theorem alikeS_self (a : S69) : alikeS a a = true := by
  unfold alikeS
  simp only [Bool.and_eq_true, decide_eq_true_eq, beq_iff_eq, eqB_iff]
  exact ⟨⟨trivial, trivial⟩, trivial⟩
theorem mk_part (s : WS) (h0 : s.now.getD 0 z69 = s.base.getD 0 z69) (hb : 0 < s.base.length) : ∀ m, mkC (s.base.map plainS) (chgs s m) = partW s.base s.now m := by
  intro m
  induction m with
  | zero =>
    refine List.ext_getElem? fun i => ?_
    rw [partW_get]
    show (s.base.map plainS)[i]? = _
    rw [List.getElem?_map]
    by_cases h : i < s.base.length
    · rw [if_pos (by omega), if_neg (by omega), List.getElem?_eq_getElem h, List.getD_eq_getElem?_getD, List.getElem?_eq_getElem h]; rfl
    · rw [if_neg (by omega), List.getElem?_eq_none (by omega)]; rfl
  | succ m ih =>
    rw [chgs_succ]
    unfold mkC at ih ⊢
    rw [List.foldl_append, ih]
    by_cases hc : chgAt s m = true
    · rw [if_pos hc]
      simp only [List.foldl_cons, List.foldl_nil]
      unfold chS
      rw [partW_len]
      by_cases hm : m = max s.base.length m
      · rw [if_pos hm]
        refine List.ext_getElem? fun i => ?_
        simp only [partW_get, List.getElem?_append, partW_len, List.getElem?_singleton]
        repeat' split
        all_goals first | rfl | omega | (exfalso; omega) | (have e : i = m := by omega
                                                            subst e; rfl)
      · rw [if_neg hm]
        refine List.ext_getElem? fun i => ?_
        simp only [partW_get, List.getElem?_set, partW_len]
        repeat' split
        all_goals first | rfl | omega | (exfalso; omega) | (have e : i = m := by omega
                                                            subst e; rfl)
    · rw [if_neg hc]
      show partW s.base s.now m = _
      have hcf : chgAt s m = false := by simpa using hc
      have hmB : m < s.base.length ∧ plainS (s.now.getD m z69) = plainS (s.base.getD m z69) := by
        unfold chgAt at hcf
        by_cases hz : m = 0
        · subst hz; exact ⟨hb, by rw [h0]⟩
        · simp [hz] at hcf
          exact ⟨hcf.1, by simpa using alikeS_plain (by simpa using hcf.2)⟩
      refine List.ext_getElem? fun i => ?_
      simp only [partW_get]
      have hm2 := hmB.1
      repeat' split
      all_goals first | rfl | omega | (exfalso; omega) | (have e : i = m := by omega
                                                          subst e; rw [hmB.2])
theorem at_chg (s : WS) : ∀ m j, j < (chgs s m).length → ∃ n, 1 ≤ n ∧ n < m ∧ chgAt s n = true ∧ (chgs s m)[j]? = some (n, plainS (s.now.getD n z69)) ∧ (chgs s m).take j = chgs s n := by
  intro m
  induction m with
  | zero => intro j hj; simp [chgs] at hj
  | succ m ih =>
    intro j hj
    rw [chgs_succ] at hj ⊢
    by_cases hl : j < (chgs s m).length
    · obtain ⟨n, h1, h2, h3, h4, h5⟩ := ih j hl
      exact ⟨n, h1, by omega, h3, by rw [List.getElem?_append_left hl]; exact h4, by rw [List.take_append_of_le_length (by omega)]; exact h5⟩
    · by_cases hc : chgAt s m = true
      · rw [if_pos hc] at hj ⊢
        have hje : j = (chgs s m).length := by simp at hj; omega
        subst hje
        refine ⟨m, ?_, by omega, hc, by simp, by simp⟩
        unfold chgAt at hc
        simp at hc
        omega
      · rw [if_neg hc] at hj
        simp at hj
        omega
theorem partW_full (b n : List S69) (h : b.length ≤ n.length) : partW b n n.length = n.map plainS := by
  refine List.ext_getElem? fun i => ?_
  rw [partW_get, List.getElem?_map]
  by_cases hi : i < n.length
  · rw [if_pos (by omega), if_pos hi, List.getElem?_eq_getElem hi, List.getD_eq_getElem?_getD, List.getElem?_eq_getElem hi]; rfl
  · rw [if_neg (by omega), List.getElem?_eq_none (by omega)]; rfl
theorem chgs_like (s : WS) (h : s.base = s.now) (m : Nat) : m ≤ s.now.length → chgs s m = [] := by
  intro hm
  unfold chgs
  rw [List.map_eq_nil_iff, List.filter_eq_nil_iff]
  intro n hn
  have hn' := List.mem_range.1 hn
  unfold chgAt
  rw [h, alikeS_self]
  simp
  omega
theorem dirty_like (s : WS) (h : s.base = s.now) (hn : s.bn = s.rn) (hg : s.bg = s.rg) : dirtyB s = false := by
  unfold dirtyB
  rw [chgs_like s h _ (Nat.le_refl _), hn, hg]
  simp
structure StepOk (s0 s : WS) (k : Nat) : Prop where
  ok : OkS s
  base : s.base = s0.base
  bn : s.bn = s0.bn
  bg : s.bg = s0.bg
  lo : s0.now.length ≤ s.now.length
  hi : s.now.length ≤ s0.now.length + k
  zero : s.now.getD 0 z69 = s0.now.getD 0 z69
theorem getD_set_pos (l : List S69) (i : Nat) (y : S69) (hi : 1 ≤ i) : (l.set i y).getD 0 z69 = l.getD 0 z69 := by
  rw [List.getD_eq_getElem?_getD, List.getElem?_set, if_neg (by omega), List.getD_eq_getElem?_getD]
theorem StepOk.step {s0 s : WS} {k : Nat} (h : StepOk s0 s k) (m x1 x2 : Int) (xv : S35) (hf : fewV xv) : StepOk s0 (stepM s m x1 x2 xv) (k + 1) := by
  have hlo := h.lo
  have hhi := h.hi
  have hS : StepOk s0 s (k + 1) := ⟨h.ok, h.base, h.bn, h.bg, h.lo, by omega, h.zero⟩
  unfold stepM
  split
  · have ha := alloc_len s
    refine ⟨ok_alloc h.ok, ?_, ?_, ?_, ?_, by omega, ?_⟩ <;> unfold allocS <;> (try (split <;> (try split) <;> first | exact h.base | exact h.bn | exact h.bg | (simp; omega) | exact h.lo))
    · split
      · rename_i hn
        rw [getD_set_pos _ _ _ (by omega)]; exact h.zero
      split
      · exact h.zero
      · have hp := h.ok.2.2.1
        show (s.now ++ [_]).getD 0 z69 = _
        rw [List.getD_eq_getElem?_getD, List.getElem?_append_left hp, ← List.getD_eq_getElem?_getD]
        exact h.zero
  split
  · have ha := put_len s x1 x2 xv
    refine ⟨ok_put h.ok _ _ _ hf, ?_, ?_, ?_, by omega, by omega, ?_⟩ <;> unfold putW <;> split <;> first | exact h.base | exact h.bn | exact h.bg | exact h.zero | skip
    rename_i he
    have hz : findE s x1 x2 = 0 := by unfold putE at he; split at he <;> simp_all
    obtain ⟨i, rfl, hi1, _⟩ := findE_zero hz
    show (s.now.set _ _).getD 0 z69 = _
    rw [getD_set_pos _ _ _ (by simpa using hi1)]
    exact h.zero
  split
  · have ha := del_len s x1 x2
    refine ⟨ok_del h.ok _ _, ?_, ?_, ?_, by omega, by omega, ?_⟩ <;> unfold delW <;> split <;> first | exact h.base | exact h.bn | exact h.bg | exact h.zero | skip
    rename_i hz
    obtain ⟨i, rfl, hi1, _⟩ := findE_zero hz
    show (s.now.set _ _).getD 0 z69 = _
    rw [getD_set_pos _ _ _ (by simpa using hi1)]
    exact h.zero
  split
  · exact hS
  split
  · refine ⟨ok_root h.ok _ _, ?_, ?_, ?_, ?_, ?_, ?_⟩ <;> unfold rootW <;> split <;> first | exact h.base | exact h.bn | exact h.bg | exact h.lo | exact hS.hi | exact h.zero
  · exact hS
theorem made_same {s0 s : WS} {k : Nat} (h : StepOk s0 s k) (hb : s0.base = s0.now) (h0 : 0 < s0.now.length) : mkC (s0.now.map plainS) (chgs s s.now.length) = s.now.map plainS := by
  have hl := h.lo
  have h1 := mk_part s (by rw [h.zero, h.base, hb]) (by rw [h.base, hb]; exact h0) s.now.length
  rw [partW_full _ _ (by rw [h.base, hb]; exact hl), h.base, hb] at h1
  exact h1
theorem made_len {s0 s : WS} {k : Nat} (h : StepOk s0 s k) (hb : s0.base = s0.now) (h0 : 0 < s0.now.length) (n : Nat) : n ≤ (mkC (s0.now.map plainS) (chgs s n)).length := by
  have h1 := mk_part s (by rw [h.zero, h.base, hb]) (by rw [h.base, hb]; exact h0) n
  rw [h.base, hb] at h1
  rw [h1, partW_len]
  omega
theorem small33_f (k : Nat) (l : List S69) : binderylaw33_Small.f k l = if (l.length : Int) > 60 then some false else binderylaw33_Small.l0 k l 0 := rfl
theorem small33_l0 (d : List S69) (hd : d.length ≤ 60) : ∀ (r i : Nat), d.length - i = r → i ≤ d.length → ∃ b k0, (b = true → ∀ p ∈ d.drop i, fewV p.f2) ∧ ∀ k, k0 ≤ k → binderylaw33_Small.l0 k d i = some b := by
  intro r
  induction r with
  | zero =>
    intro i hr hi
    refine ⟨true, 1, fun _ p hp => by rw [List.drop_eq_nil_of_le (by omega)] at hp; simp at hp, fun k hk => ?_⟩
    obtain ⟨k, rfl⟩ : ∃ j, k = j + 1 := ⟨k - 1, by omega⟩
    unfold binderylaw33_Small.l0
    rw [if_neg (by omega)]
  | succ r ihr =>
    intro i hr hi
    obtain ⟨b1, k1, g1, h1⟩ := few_all (d.getD i z69).f2 60 (by omega) (by omega)
    obtain ⟨b2, k2, g2, h2⟩ := ihr (i + 1) (by omega) (by omega)
    have e : rd_T69 d (i : Int) = d.getD i z69 := rfl
    have hw : wrap64 ((i : Int) + 1) = ((i + 1 : Nat) : Int) := by unfold wrap64; omega
    have hlt : i < d.length := by omega
    refine ⟨if b1 = true then b2 else false, max k1 k2 + 1, fun h p hp => ?_, fun k hk => ?_⟩
    · cases b1 with
      | false => simp at h
      | true =>
        have h' : b2 = true := by simpa using h
        rw [List.drop_eq_getElem_cons hlt] at hp
        rcases List.mem_cons.1 hp with rfl | hp
        · have := (g1 rfl).2.1
          rw [List.getD_eq_getElem?_getD, List.getElem?_eq_getElem hlt] at this
          exact this
        · exact g2 h' p hp
    · obtain ⟨k, rfl⟩ : ∃ j, k = j + 1 := ⟨k - 1, by omega⟩
      unfold binderylaw33_Small.l0
      rw [if_pos (by omega), if_pos (by omega), e, h1 k (by omega), Option.bind_some, hw, h2 k (by omega)]
      cases b1 <;> rfl
theorem small33_all (d : List S69) : ∃ b k, (b = true → d.length ≤ 60 ∧ ∀ p ∈ d, fewV p.f2) ∧ binderylaw33_Small.f k d = some b := by
  by_cases hd : (d.length : Int) > 60
  · exact ⟨false, 0, (fun h => by cases h), by rw [small33_f, if_pos hd]⟩
  · obtain ⟨b, k0, g, h⟩ := small33_l0 d (by omega) d.length 0 (by omega) (by omega)
    exact ⟨b, k0, fun hb => ⟨by omega, by simpa using g hb⟩, by rw [small33_f, if_neg hd]; exact h k0 (Nat.le_refl _)⟩
theorem Mv.keepU {b0 : Nat} {X : Nat → Prop} {W W' : World} (h : Mv b0 X W W') : KeepU b0 W W' := ⟨h.1, fun k hk => by
  obtain ⟨q, cs, hq, hc⟩ := hk
  rw [hc]
  exact h.2.1 k cs q (by rcases hq with rfl | rfl <;> decide) (by rcases hq with rfl | rfl <;> decide) hc⟩
def OwnT (b g c : Nat) (rs : List RS) (W : World) : Prop := W.ownsRow b 69 8 (.slice (some ⟨g, 0, none⟩) rs.length c) rs.length (flatS rs) ∧ ∀ y ∈ rs, FT y W
theorem OwnT.lt {b g c : Nat} {rs : List RS} {W : World} (h : OwnT b g c rs W) : b ≤ g ∧ g < W.heap.size := h.1.lt g rfl
theorem OwnT.below {b g c : Nat} {rs : List RS} {W W' : World} (h : OwnT b g c rs W) (hb : RowKit.Below W.heap.size W W') : OwnT b g c rs W' := ⟨own_move h.1 (fun k hk => hb.block k (h.1.lt k hk).2), fun y hy => (h.2 y hy).keep (KeepU.of_below (Nat.le_refl _) hb)⟩
theorem OwnT.mv {b b0 g c : Nat} {X : Nat → Prop} {rs : List RS} {W W' : World} (h : OwnT b g c rs W) (hm : Mv b0 X W W') (hX : X g) : OwnT b g c rs W' := ⟨own_move h.1 (fun k hk => by
  have e : k = g := by simpa [Value.ownBlock] using hk.symm
  subst e
  exact hm.2.2 k hX), fun y hy => (h.2 y hy).keep hm.keepU⟩
theorem OwnT.read {b g c : Nat} {rs : List RS} {W : World} (h : OwnT b g c rs W) : Kd.C k69 W (some ⟨g, 0, none⟩) rs.length (rs.map (fun y => y.x)) := Kd.F_now (close_rs (M := fun _ => True) h.1 h.2 trivial (fun _ _ => trivial))
theorem OwnT.lower {b b' g c : Nat} {rs : List RS} {W : World} (h : OwnT b g c rs W) (hb : b' ≤ b) : OwnT b' g c rs W := ⟨own_weaken h.1 hb, h.2⟩
theorem CRow.below {b : Nat} {v : Value} {xs : List (Nat × RS)} {W W' : World} (h : CRow b v xs W) (hb : RowKit.Below W.heap.size W W') : CRow b v xs W' := ⟨own_move h.1 (fun k hk => hb.block k (h.1.lt k hk).2), fun y hy => (h.2 y hy).keep (KeepU.of_below (Nat.le_refl _) hb)⟩
theorem flatC_get : ∀ (xs : List (Nat × RS)) (j t : Nat), j < xs.length → t < 9 → (flatC xs)[j * 9 + t]? = (cellsC (xs.getD j default))[t]?
  | [], j, t, h, _ => by simp at h
  | x :: r, 0, t, _, ht => by
    show (cellsC x ++ flatC r)[0 * 9 + t]? = _
    rw [Nat.zero_mul, Nat.zero_add, List.getElem?_append_left (by simpa [cellsC] using ht)]
    rfl
  | x :: r, j + 1, t, h, ht => by
    have ih := flatC_get r j t (by simpa using h) ht
    show (cellsC x ++ flatC r)[(j + 1) * 9 + t]? = _
    have hl : (cellsC x).length = 9 := rfl
    rw [List.getElem?_append_right (by omega), show (j + 1) * 9 + t - (cellsC x).length = j * 9 + t by omega, ih]
    rfl
theorem CRow.at {b g c n : Nat} {xs : List (Nat × RS)} {W : World} (h : CRow b (.slice (some ⟨g, 0, none⟩) n c) xs W) (j : Nat) (hj : j < xs.length) : ∃ y, y = xs.getD j default ∧ y ∈ xs ∧
    W.cell? ⟨g, j * 9, none⟩ = some (.int .i64 y.1) ∧ W.cell? ⟨g, j * 9 + 1, none⟩ = some (.int .i64 y.2.x.f0) ∧ W.cell? ⟨g, j * 9 + 2, none⟩ = some (.bool (!y.2.x.f1)) ∧ W.cell? ⟨g, j * 9 + 3, none⟩ = some (.int .i64 y.2.x.f2.f0) ∧ W.cell? ⟨g, j * 9 + 4, none⟩ = some (.int .i64 y.2.x.f2.f1) ∧
    W.cell? ⟨g, j * 9 + 5, none⟩ = some (.int .i64 y.2.x.f2.f2) ∧ W.cell? ⟨g, j * 9 + 6, none⟩ = some (.string y.2.x.f2.f3) ∧ W.cell? ⟨g, j * 9 + 7, none⟩ = some (.slice y.2.a4 y.2.x.f2.f4.length y.2.c4) ∧ W.cell? ⟨g, j * 9 + 8, none⟩ = some (.slice y.2.a5 y.2.x.f2.f5.length y.2.c5) := by
  obtain ⟨A, c2, he, _⟩ := own_slice h.1
  injection he with e1 e2 e3
  have h1 := h.1
  rw [e2] at h1
  have hc : ∀ t, t < 9 → W.cell? ⟨g, j * 9 + t, none⟩ = (cellsC (xs.getD j default))[t]? := fun t ht => by
    rw [h1.cellAt (j * 9 + t) (by omega), flatC_get _ _ _ hj ht]
  exact ⟨_, rfl, getD_mem _ _ hj _, hc 0 (by omega), hc 1 (by omega), hc 2 (by omega), hc 3 (by omega), hc 4 (by omega), hc 5 (by omega), hc 6 (by omega), hc 7 (by omega), hc 8 (by omega)⟩
def L2 (b wb gn cn : Nat) (rsn : List RS) (v : Value) (xs : List (Nat × RS)) (s : WS) (g c : Nat) (rs : List RS) (W : World) : Prop :=
  Wk b wb (fun k => k = g ∨ k = gn) s W ∧ OwnT b g c rs W ∧ OwnT b gn cn rsn W ∧ CRow b v xs W ∧ g ≠ gn
theorem L2.below {b wb gn cn : Nat} {rsn : List RS} {v : Value} {xs : List (Nat × RS)} {s : WS} {g c : Nat} {rs : List RS} {W W' : World} (h : L2 b wb gn cn rsn v xs s g c rs W) (hb : RowKit.Below W.heap.size W W') : L2 b wb gn cn rsn v xs s g c rs W' :=
  ⟨h.1.below hb, h.2.1.below hb, h.2.2.1.below hb, h.2.2.2.1.below hb, h.2.2.2.2⟩
theorem L2.more {b wb gn cn : Nat} {rsn : List RS} {v : Value} {xs : List (Nat × RS)} {s : WS} {g c g' c' : Nat} {rs rs' : List RS} {W W' : World} (h : L2 b wb gn cn rsn v xs s g c rs W) (hb0 : b ≤ W.heap.size) (hg : W.grownBy W' (some g))
    (ho : W'.ownsRow b 69 8 (.slice (some ⟨g', 0, none⟩) rs'.length c') rs'.length (flatS rs')) (hat : g' = g ∨ g' = W.heap.size) (hrs : ∀ y ∈ rs', FT y W) : L2 b wb gn cn rsn v xs s g' c' rs' W' := by
  obtain ⟨h1, h2, h3, h4, h5⟩ := h
  have hku : KeepU b W W' := KeepU.grown (v := .slice (some ⟨g, 0, none⟩) rs.length c) hg h2.1 (Nat.le_refl _) hb0 (by decide)
  have hgl := h2.lt
  have hnl := h3.lt
  have hgl' := (ho.lt g' rfl).2
  refine ⟨(h1.grown hg (fun r e => by cases e; exact .inl rfl)).frees (fun k hk => ?_), ⟨ho, fun y hy => (hrs y hy).keep hku⟩, ⟨own_move h3.1 (fun k hk => ?_), fun y hy => (h3.2 y hy).keep hku⟩, ⟨own_move h4.1 (fun k hk => ?_), fun y hy => (h4.2 y hy).keep hku⟩, ?_⟩
  · rcases hk with rfl | rfl
    · rcases hat with rfl | e
      · exact .inl (.inl rfl)
      · exact .inr ⟨by omega, hgl'⟩
    · exact .inl (.inr rfl)
  · have e : k = gn := by simpa [Value.ownBlock] using hk.symm
    subst e
    exact hg.block k hnl.2 (fun e => h5 (by cases e; rfl))
  · refine hg.block k (h4.1.lt k hk).2 (fun e => ?_)
    cases e
    obtain ⟨c1, e1⟩ := own_typed h4.1 _ hk
    obtain ⟨c2, e2⟩ := own_typed h2.1 g rfl
    rw [e1] at e2
    injection e2 with e2; injection e2 with _ e2 _
    exact absurd e2 (by decide)
  · rcases hat with rfl | e
    · exact h5
    · omega
theorem grown_cells (W : World) (g o : Nat) (vs : List Value) : W.grownBy (W.setCells g o vs) (some g) := by
  have hm : Moves 0 (fun k => k = g) W (W.setCells g o vs) := moves_cells (S := fun k => k = g) rfl (Nat.zero_le _) vs _ W (Moves.refl _ _ _)
  exact ⟨hm.1.os, hm.1.tape, hm.1.output, hm.1.size, fun k hk hne => hm.2.2 k hk (fun e => hne (by rw [e]))⟩
theorem row_set {W : World} {b g c : Nat} {rs : List RS} (h : W.ownsRow b 69 8 (.slice (some ⟨g, 0, none⟩) rs.length c) rs.length (flatS rs)) (i : Nat) (hi : i < rs.length) (y : RS) :
    (W.setCells g (i * 8) (encS y)).ownsRow b 69 8 (.slice (some ⟨g, 0, none⟩) (rs.set i y).length c) (rs.set i y).length (flatS (rs.set i y)) := by
  have h1 := own_store (encS y) W (rs.map encS) i 0 (encS (rs.getD i default)) h (flatS_all _) (by rw [List.getElem?_map, List.getD_eq_getElem?_getD, List.getElem?_eq_getElem hi]; rfl) (by simp [encS])
  have e : (encS (rs.getD i default)).take 0 ++ encS y ++ (encS (rs.getD i default)).drop (0 + (encS y).length) = encS y := by simp [encS]
  rw [e, ← List.map_set] at h1
  rw [List.length_set]
  exact h1
theorem OwnT.own {b g c : Nat} {rs : List RS} {W : World} (h : OwnT b g c rs W) : OwnS b g c rs W := ⟨h.1, fun y hy => FV.mono (h.2 y hy) (fun k hk => rowB_ne hk h.1)⟩
end Go.Proofs.Ytogpnkkoablmiaa.V
end
section
namespace Go.Proofs.Ytogpnkkoablmiaa.V
open Go.Proofs.Ytogpnkkoablmiaa.P Go.Shelf Go.RowKit Go.Lib Go.Sort Go.Proofs.Ytogpnkkoablmiaa.Q Go.Proofs.YtogpnkkoablmiaaW.PrintWords Go.Proofs.YtogpnkkoablmiaaW.PrintLast Go.Proofs.YtogpnkkoablmiaaW.PrintMore
set_option linter.unusedVariables false
set_option linter.unusedSimpArgs false
attribute [local go_sem high] eqA28
attribute [local go_sem] nzv_ne nzv_beq nzv_bne
attribute [local go_sem] Oper.semAt_some
set_option maxHeartbeats 40000000 in
set_option maxRecDepth 100000 in
theorem makes_calls (b0 : List S69) (l more : List S37) (A0 : Option Addr) (c0 : Nat) (A1 : Option Addr) (c1 : Nat) (A2 : Option Addr) (c2 : Nat) (w : World) (hc0 : b0.length ≤ c0) (hr0 : Kd.C k69 w A0 b0.length b0) (hc1 : l.length ≤ c1) (hr1 : Kd.C k37 w A1 l.length l) (hc2 : more.length ≤ c2) (hr2 : Kd.C k37 w A2 more.length more) :
    Calls Try.prog 5 #[.slice A0 b0.length c0, .slice A1 l.length c1, .slice A2 more.length c2] w fun e w' => e = .returned (.bool true) ∧ RowKit.Below w.heap.size w w' := by
  have hu28 := Try.underlying28
  have hu23 := Try.underlying23
  have hu35 := Try.underlying35
  have hu37 := Try.underlying37
  have hu22 := Try.underlying22
  have hu46 := Try.underlying46
  have hu60 := Try.underlying60
  have hu67 := Try.underlying67
  have hu69 := Try.underlying69
  obtain ⟨i0, hi, hz0, hz1, hz2⟩ := info_parts info69
  have HI := Aside0.mk (And.intro hi (And.intro hz0 (And.intro hz1 hz2)))
  clear hi hz0 hz1 hz2
  obtain ⟨q0, kf0, hbf0, hkf0⟩ := small33_all b0
  obtain ⟨q1, kf1, hbf1, hkf1⟩ := few33_all l
  obtain ⟨q2, kf2, hbf2, hkf2⟩ := few33_all more
  have HR0 := Aside0.mk hr0
  have HR1 := Aside0.mk hr1
  have HR2 := Aside0.mk hr2
  have HQ0 := Aside0.mk hbf0
  have HQ1 := Aside0.mk hbf1
  have HQ2 := Aside0.mk hbf2
  have K0 := Aside0.mk (fun (W : World) (hb : RowKit.Below w.heap.size w W) => binderylaw33_Small.calls kf0 A0 c0 b0 q0 W (Kd.C_below hr0 hb) hc0 hkf0)
  have K1 := Aside0.mk (fun (W : World) (hb : RowKit.Below w.heap.size w W) => binderylaw33_Few.calls kf1 A1 c1 l q1 W (Kd.C_below hr1 hb) hc1 hkf1)
  have K2 := Aside0.mk (fun (W : World) (hb : RowKit.Below w.heap.size w W) => binderylaw33_Few.calls kf2 A2 c2 more q2 W (Kd.C_below hr2 hb) hc2 hkf2)
  have HB := Aside0.mk (RowKit.Below.refl w.heap.size w)
  clear hr0 hr1 hr2 hbf0 hbf1 hbf2 hkf0 hkf1 hkf2 hc0 hc1 hc2
  go_enter Try.func5, Try.ntmps5
  go_wp2_with fail
  refine Calls.mono (K0.out w HB.out) ?_
  rintro e w1 ⟨rfl, hb⟩
  replace HB := Aside0.mk (HB.out.trans (hb.mono HB.out.size))
  clear hb K0
  cases q0
  case false =>
    go_wp2_with fail
    refine Calls.mono (works_calls _) ?_
    rintro e we ⟨rfl, hbe⟩
    have HE := Aside0.mk (HB.out.trans (hbe.mono HB.out.size))
    clear hbe
    go_wp2
    go_ret
    exact ⟨rfl, HE.out⟩
  go_wp2_with fail
  refine Calls.mono (K1.out w1 HB.out) ?_
  rintro e w2 ⟨rfl, hb⟩
  replace HB := Aside0.mk (HB.out.trans (hb.mono HB.out.size))
  clear hb K1
  cases q1
  case false =>
    go_wp2_with fail
    refine Calls.mono (works_calls _) ?_
    rintro e we ⟨rfl, hbe⟩
    have HE := Aside0.mk (HB.out.trans (hbe.mono HB.out.size))
    clear hbe
    go_wp2
    go_ret
    exact ⟨rfl, HE.out⟩
  go_wp2_with fail
  refine Calls.mono (K2.out w2 HB.out) ?_
  rintro e w3 ⟨rfl, hb⟩
  replace HB := Aside0.mk (HB.out.trans (hb.mono HB.out.size))
  clear hb K2
  cases q2
  case false =>
    go_wp2_with fail
    refine Calls.mono (works_calls _) ?_
    rintro e we ⟨rfl, hbe⟩
    have HE := Aside0.mk (HB.out.trans (hbe.mono HB.out.size))
    clear hbe
    go_wp2
    go_ret
    exact ⟨rfl, HE.out⟩
  have HF := Aside0.mk (And.intro (HQ0.out (by first | exact rfl | trivial)) (And.intro (HQ1.out (by first | exact rfl | trivial)) (HQ2.out (by first | exact rfl | trivial))))
  have HNW := Aside0.mk (fun (he : newE b0 0 0 100 = 0) => L_new (c := c0) (rn := 0) (rg := 0) (most := 100) (w := w3) (Kd.C_below HR0.out HB.out) (by have := HF.out.1.1; omega) HF.out.1.2 he)
  have HNB := Aside0.mk (fun (he : newE b0 0 0 100 ≠ 0) => L_new_bad (c := c0) (rn := 0) (rg := 0) (most := 100) (w := w3) (Kd.C_below HR0.out HB.out) (by have := HF.out.1.1; omega) HF.out.1.2 he)
  have HE0 := Aside0.mk (show newE b0 0 0 100 = 0 → OkS (newW b0 0 0 100) from fun he => ok_new HF.out.1.2 he)
  have HW0 := Aside0.mk (show (newW b0 0 0 100).now.length = max 1 b0.length ∧ (newW b0 0 0 100).base = (newW b0 0 0 100).now ∧ (newW b0 0 0 100).bn = 0 ∧ (newW b0 0 0 100).bg = 0 from ⟨new_len b0, rfl, rfl, rfl⟩)
  obtain ⟨s0, hs0⟩ : ∃ s0, s0 = newW b0 0 0 100 := ⟨_, rfl⟩
  rw [← hs0] at HNW HE0 HW0
  obtain ⟨ne, hne⟩ : ∃ ne, ne = newE b0 0 0 100 := ⟨_, rfl⟩
  rw [← hne] at HNW HNB HE0
  have HL60 := Aside0.mk (show b0.length ≤ 60 ∧ l.length ≤ 60 ∧ more.length ≤ 60 ∧ s0.now.length ≤ 61 ∧ 0 < s0.now.length from ⟨HF.out.1.1, HF.out.2.1.1, HF.out.2.2.1, by rw [HW0.out.1]; have := HF.out.1.1; omega, by rw [HW0.out.1]; omega⟩)
  obtain ⟨NB, hNB⟩ : ∃ n, n = b0.length := ⟨_, rfl⟩
  obtain ⟨N1, hN1⟩ : ∃ n, n = l.length := ⟨_, rfl⟩
  obtain ⟨N2, hN2⟩ : ∃ n, n = more.length := ⟨_, rfl⟩
  rw [← hNB, ← hN1, ← hN2] at HL60
  rw [← hNB] at HNW HNB
  rw [← hNB, ← hN1, ← hN2]
  have HN1 := Aside0.mk hN1
  have HN2 := Aside0.mk hN2
  clear HQ0 HQ1 HQ2 hs0 hne hNB hN1 hN2
  by_cases hz : ne = 0
  case neg =>
    have KN := Aside0.mk (HNB.out hz)
    have hnb : (ne != 0) = true := by simpa using hz
    clear HNW HNB HE0 hz
    go_wp2_with fail
    refine Calls.mono KN.out ?_
    rintro e w4 ⟨rfl, hb⟩
    replace HB := Aside0.mk (HB.out.trans (hb.mono HB.out.size))
    clear hb KN
    go_wp2_with fail
    refine Calls.mono (works_calls _) ?_
    rintro e we ⟨rfl, hbe⟩
    have HE := Aside0.mk (HB.out.trans (hbe.mono HB.out.size))
    clear hbe
    go_wp2
    go_ret
    exact ⟨rfl, HE.out⟩
  case pos =>
    have KN := Aside0.mk (HNW.out hz)
    have HOK := Aside0.mk (HE0.out hz)
    clear HNW HNB HE0 hz
    go_wp2_with fail
    refine Calls.mono KN.out ?_
    rintro e w4 ⟨wb, rfl, hk, hb⟩
    have HB3 := Aside0.mk HB.out.size
    have hb34 := hb.size
    replace HB := Aside0.mk (HB.out.trans (hb.mono HB.out.size))
    obtain ⟨b3, hb3⟩ : ∃ b3, b3 = w3.heap.size := ⟨_, rfl⟩
    rw [← hb3] at HB3 hk hb34
    clear hb3
    have KSL := Aside0.mk (L_slotsT hk HOK.out (by have := HL60.out; omega))
    have HK := Aside0.mk hk
    clear hk hb KN
    go_wp2_with fail
    refine Calls.mono KSL.out ?_
    rintro e w5 ⟨gw, cw, rsw, rfl, ho, hx, hft, hb⟩
    have HO := Aside0.mk (show OwnT b3 gw cw rsw w5 from ⟨own_weaken ho.1 hb34, hft⟩)
    replace HK := Aside0.mk ((HK.out.fresh hb).frees (Y := fun j => j = gw) (fun j hj => by subst hj; exact .inr (ho.1.lt j rfl)))
    replace HB := Aside0.mk (HB.out.trans (hb.mono HB.out.size))
    have HS0 := Aside0.mk (show StepOk s0 s0 0 from ⟨HOK.out, rfl, rfl, rfl, Nat.le_refl _, Nat.le_refl _, rfl⟩)
    have HX0 := Aside0.mk hx
    obtain ⟨nr, hnr⟩ : ∃ nr, nr = rsw.length := ⟨_, rfl⟩
    have HNR := Aside0.mk hnr
    rw [← hnr]
    clear hnr ho hx hft hb KSL hb34
    go_wp2
    go_loopw [10] (fun i wr => ∃ (k : Nat) (s : WS), k ≤ N1 ∧ i = .int .i64 k ∧ Aside0 (StepOk s0 s k) ∧ Aside0 (Wk b3 wb (fun j => j = gw) s wr) ∧ Aside0 (OwnT b3 gw cw rsw wr) ∧ Aside0 (RowKit.Below w.heap.size w wr)) (fun i _ => N1 - (intOf i).toNat)
    case atStart => exact ⟨0, s0, Nat.zero_le _, rfl, HS0, HK, HO, HB⟩
    case round =>
      clear HK HO HB HS0
      obtain ⟨k, s, hk, rfl, HS, HK, HO, HB⟩ := hrel
      by_cases hlt : k < N1
      · obtain ⟨ad, P4, p4, P5, p5, hA, y0, y1, y2, y3, y4, y5, y6, y7, y8, lp4, gp4, lp5, gp5⟩ := at_T37 (Kd.C_below HR1.out HB.out) (k : Int) (by omega) (by have := HN1.out; omega)
        subst hA
        simp only [rd_T37, Int.toNat_natCast] at y0 y1 y2 y3 y4 y5 y6 y7 y8 lp4 gp4 lp5 gp5
        have hxf := HF.out.2.1.2 _ (getD_mem l k (by have := HN1.out; omega) z37)
        generalize l.getD k z37 = x at *
        obtain ⟨x0, ⟨x1, x2⟩, xv⟩ := x
        simp only [] at y0 y1 y2 y3 y4 y5 y6 y7 y8 lp4 gp4 lp5 gp5 hxf
        have hwk : wrap64 ((k : Int) + 1) = (k : Int) + 1 := by have := HL60.out; unfold wrap64; omega
        have HWK := Aside0.mk hwk
        have hNm : N1 ≤ 9223372036854775807 := by have := HL60.out; omega
        have KS := Aside0.mk (step_calls x0 x1 x2 xv P4 p4 P5 p5 HK.out (by have := HO.out.lt; omega) HS.out.ok (by have := HS.out.hi; have := HL60.out; omega) ⟨lp4, gp4, lp5, gp5⟩ hxf)
        have HS2 := Aside0.mk (HS.out.step (x0.tmod 7) x1 x2 xv hxf)
        clear hwk hxf lp4 gp4 lp5 gp5
        go_wp2_with fail
        refine Calls.mono KS.out ?_
        rintro e w3 ⟨rfl, hk3, hm⟩
        have HK3 := Aside0.mk hk3
        have HO3 := Aside0.mk (HO.out.mv hm rfl)
        have HB4 := Aside0.mk (HB.out.trans (hm.1.mono HB3.out))
        clear hk3 hm KS y0 y1 y2 y3 y4 y5 y6 y7 y8 hNm
        go_wp2
        exact ⟨⟨k + 1, _, by omega, by first | (rw [HWK.out]; simp; done) | (simp; done), HS2, HK3, HO3, HB4⟩, by first | (rw [HWK.out]; simp [intOf]; omega) | (simp [intOf]; omega)⟩
      · obtain rfl : N1 = k := by omega
        have KSL := Aside0.mk (L_slotsT HK.out HS.out.ok (by have := HS.out.hi; have := HL60.out; omega))
        go_wp2_with fail
        refine Calls.mono KSL.out ?_
        rintro e w6 ⟨gn, cn, rsn, rfl, ho, hx, hft, hb⟩
        have HON := Aside0.mk (show OwnT b3 gn cn rsn w6 from ⟨own_weaken ho.1 (by have := HO.out.lt; omega), hft⟩)
        have HNE := Aside0.mk (show gw ≠ gn from by have h1 := HO.out.lt.2; have h2 := (ho.1.lt gn rfl).1; omega)
        replace HK := Aside0.mk ((HK.out.fresh hb).frees (Y := fun j => j = gw ∨ j = gn) (fun j hj => by
          rcases hj with hj | hj
          · exact .inl hj
          · subst hj; exact .inr (ho.1.lt j rfl)))
        replace HO := Aside0.mk (HO.out.below hb)
        replace HB := Aside0.mk (HB.out.trans (hb.mono HB.out.size))
        have HXN := Aside0.mk hx
        obtain ⟨nn, hnn⟩ : ∃ nn, nn = rsn.length := ⟨_, rfl⟩
        have HNN := Aside0.mk hnn
        rw [← hnn]
        have KC := Aside0.mk (L_changes HK.out HS.out.ok (by have := HS.out.hi; have := HL60.out; omega))
        clear hnn ho hx hft hb KSL
        go_wp2_with fail
        refine Calls.mono KC.out ?_
        rintro e w7 ⟨v0, xs, rfl, hxs, hrow, hb⟩
        obtain ⟨AC, cc, hv0, hcc⟩ := own_slice hrow.1
        obtain ⟨NC, hNC⟩ : ∃ NC, NC = xs.length := ⟨_, rfl⟩
        rw [← hNC] at hv0 hcc
        subst hv0
        have HNC := Aside0.mk hNC
        have HXS := Aside0.mk hxs
        have HL2 := Aside0.mk (show L2 b3 wb gn cn rsn (.slice AC NC cc) xs s gw cw rsw w7 from ⟨HK.out.below hb, HO.out.below hb, HON.out.below hb, hrow.lower (by have := HO.out.lt; omega), HNE.out⟩)
        replace HB := Aside0.mk (HB.out.trans (hb.mono HB.out.size))
        have HCL := Aside0.mk (chgs_len s s.now.length)
        have HNCM := Aside0.mk (show NC ≤ 200 from by
          have h1 := congrArg List.length hxs
          rw [List.length_map] at h1
          have := HCL.out; have := HS.out.hi; have := HL60.out; omega)
        clear hNC hxs hrow hb KC HK HO HON HNE
        go_wp2
        go_loopw [9, 13] (fun v9 i wr => ∃ (j g c nr : Nat) (rs : List RS), j ≤ NC ∧ i = .int .i64 j ∧ v9 = .slice (some ⟨g, 0, none⟩) nr c ∧ Aside0 (nr = rs.length) ∧ Aside0 (rs.map (fun y => y.x) = mkC (s0.now.map plainS) ((chgs s s.now.length).take j)) ∧ Aside0 (L2 b3 wb gn cn rsn (.slice AC NC cc) xs s g c rs wr) ∧ Aside0 (RowKit.Below w.heap.size w wr)) (fun _ i _ => NC - (intOf i).toNat)
        case atStart => exact ⟨0, gw, cw, nr, rsw, Nat.zero_le _, rfl, rfl, HNR, ⟨by rw [HX0.out]; rfl⟩, HL2, HB⟩
        case round =>
          clear HB HL2 HNR HX0
          obtain ⟨j, g, c, nr, rs, hj, rfl, rfl, HNR, HMK, HL2, HB⟩ := hrel
          by_cases hlt : j < NC
          · have hcl : (chgs s s.now.length).length = NC := by rw [← HXS.out, List.length_map, HNC.out]
            obtain ⟨n, hn1, hn2, hn3, hn4, hn5⟩ := at_chg s s.now.length j (by omega)
            have hln := made_len HS.out HW0.out.2.1 HL60.out.2.2.2.2 n
            rw [← hn5, ← HMK.out, List.length_map, ← HNR.out] at hln
            have hnx : mkC (s0.now.map plainS) ((chgs s s.now.length).take (j + 1)) = chS (rs.map (fun y => y.x)) (n, plainS (s.now.getD n z69)) := by
              rw [List.take_add_one, hn4]
              unfold mkC
              rw [List.foldl_append]
              have h := HMK.out
              unfold mkC at h
              rw [← h]
              rfl
            obtain ⟨gc, rfl⟩ : ∃ gc, AC = some ⟨gc, 0, none⟩ := by
              rcases HL2.out.2.2.2.1.1.2 with ⟨h1, h2⟩ | ⟨g1, cap, cur, h1, _⟩
              · have := HNC.out
                simp at h2
                rw [h2] at this
                simp at this
                omega
              · injection h1 with h1 _ _
                exact ⟨g1, h1⟩
            obtain ⟨y, hy, hym, y0, y1, y2, y3, y4, y5, y6, y7, y8⟩ := HL2.out.2.2.2.1.at j (by have := HNC.out; omega)
            have hyc : (y.1, y.2.x) = (n, plainS (s.now.getD n z69)) := by
              have h1 : (xs.map strC)[j]? = some (strC y) := by
                rw [List.getElem?_map, hy, List.getD_eq_getElem?_getD, List.getElem?_eq_getElem (by have := HNC.out; omega)]
                rfl
              rw [HXS.out, hn4] at h1
              exact (Option.some.inj h1).symm
            have HFT := Aside0.mk (HL2.out.2.2.2.1.2 y hym)
            obtain ⟨yn, yx, a4, c4, a5, c5⟩ := y
            simp only [Prod.mk.injEq] at hyc
            obtain ⟨hyn, hyx⟩ := hyc
            subst hyn
            rw [← hyx] at hnx
            simp only [] at y0 y1 y2 y3 y4 y5 y6 y7 y8
            have HNX := Aside0.mk hnx
            have hwk : wrap64 ((j : Int) + 1) = (j : Int) + 1 := by have := HNCM.out; unfold wrap64; omega
            have HWK := Aside0.mk hwk
            have hNm : NC ≤ 9223372036854775807 := by have := HNCM.out; omega
            have HN1 := Aside0.mk (And.intro hn1 hln)
            have HYN := Aside0.mk (show yn ≤ 200 from by have := HCL.out; have := HS.out.hi; have := HL60.out; omega)
            clear hcl hn1 hn2 hn3 hn4 hn5 hln hnx hy hym hyx hwk
            go_upto_region 16 with fail
            refine start_ (n := 19) (S := (fun w' => w'.cell? ⟨gc, j * 9, none⟩ = some (.int .i64 yn) ∧ w'.cell? ⟨gc, j * 9 + 1, none⟩ = some (.int .i64 yx.f0) ∧ w'.cell? ⟨gc, j * 9 + 2, none⟩ = some (.bool (!yx.f1)) ∧ w'.cell? ⟨gc, j * 9 + 3, none⟩ = some (.int .i64 yx.f2.f0) ∧ w'.cell? ⟨gc, j * 9 + 4, none⟩ = some (.int .i64 yx.f2.f1) ∧ w'.cell? ⟨gc, j * 9 + 5, none⟩ = some (.int .i64 yx.f2.f2) ∧ w'.cell? ⟨gc, j * 9 + 6, none⟩ = some (.string yx.f2.f3) ∧ w'.cell? ⟨gc, j * 9 + 7, none⟩ = some (.slice a4 yx.f2.f4.length c4) ∧ w'.cell? ⟨gc, j * 9 + 8, none⟩ = some (.slice a5 yx.f2.f5.length c5))) (ds := [18]) #[false, false, false, false, false, false, false, false, false, false, false, false, false, false, false, false, false, false, false] (by kernel_rfl) rfl rfl (by refine ⟨?_, ?_, ?_, ?_, ?_, ?_, ?_, ?_, ?_⟩ <;> go_simp) (fun hHeld => ?_)
            have HH := Aside0.mk hHeld
            clear hHeld
            refine pure_ (i := 0) (N := some 68) (v := ?_) (a' := ?_) #[true, false, false, false, false, false, false, false, false, false, false, false, false, false, false, false, false, false, false] rfl rfl (by kernel_rfl) (fun _ _ _ h => h) (Or.inl ⟨by rfl, ?_⟩) ?_ ?_
            rotate_left
            · intro w'
              go_simp
              with_reducible rfl
            rotate_left
            · simp only [Act.put, List.setIfInBounds_toArray, List.set_cons_zero, List.set_cons_succ]
              rfl
            refine pure_ (i := 1) (N := some 69) (v := ?_) (a' := ?_) #[true, true, false, false, false, false, false, false, false, false, false, false, false, false, false, false, false, false, false] rfl rfl (by kernel_rfl) (fun _ _ _ h => h) (Or.inl ⟨by rfl, ?_⟩) ?_ ?_
            rotate_left
            · intro w'
              go_simp
              with_reducible rfl
            rotate_left
            · simp only [Act.put, List.setIfInBounds_toArray, List.set_cons_zero, List.set_cons_succ]
              rfl
            refine pure_ (i := 2) (N := some 70) (v := ?_) (a' := ?_) #[true, true, true, false, false, false, false, false, false, false, false, false, false, false, false, false, false, false, false] rfl rfl (by kernel_rfl) (fun _ _ _ h => h) (Or.inl ⟨by rfl, ?_⟩) ?_ ?_
            rotate_left
            · intro w'
              go_simp
              with_reducible rfl
            rotate_left
            · simp only [Act.put, List.setIfInBounds_toArray, List.set_cons_zero, List.set_cons_succ]
              rfl
            refine pure_ (i := 3) (N := some 71) (v := ?_) (a' := ?_) #[true, true, true, true, false, false, false, false, false, false, false, false, false, false, false, false, false, false, false] rfl rfl (by kernel_rfl) (fun _ _ _ h => h) (Or.inl ⟨by rfl, ?_⟩) ?_ ?_
            rotate_left
            · intro w'
              go_simp
              with_reducible rfl
            rotate_left
            · simp only [Act.put, List.setIfInBounds_toArray, List.set_cons_zero, List.set_cons_succ]
              rfl
            refine take_ (i := 4) (N := some 72) (v := ?_) (a' := ?_) #[true, true, true, true, true, false, false, false, false, false, false, false, false, false, false, false, false, false, false] rfl rfl (by kernel_rfl) (fun _ _ _ h => h) (Or.inl ⟨by rfl, ?_⟩) HH.out ?_ ?_
            rotate_left
            · intro w' hSw
              (try dsimp only at hSw)
              go_split_ands
              go_simp
              with_reducible rfl
            rotate_left
            · simp only [Act.put, List.setIfInBounds_toArray, List.set_cons_zero, List.set_cons_succ]
              rfl
            refine pure_ (i := 5) (N := some 73) (v := ?_) (a' := ?_) #[true, true, true, true, true, true, false, false, false, false, false, false, false, false, false, false, false, false, false] rfl rfl (by kernel_rfl) (fun _ _ _ h => h) (Or.inl ⟨by rfl, ?_⟩) ?_ ?_
            rotate_left
            · intro w'
              go_simp
              with_reducible rfl
            rotate_left
            · simp only [Act.put, List.setIfInBounds_toArray, List.set_cons_zero, List.set_cons_succ]
              rfl
            refine pure_ (i := 6) (N := some 74) (v := ?_) (a' := ?_) #[true, true, true, true, true, true, true, false, false, false, false, false, false, false, false, false, false, false, false] rfl rfl (by kernel_rfl) (fun _ _ _ h => h) (Or.inl ⟨by rfl, ?_⟩) ?_ ?_
            rotate_left
            · intro w'
              go_simp
              with_reducible rfl
            rotate_left
            · simp only [Act.put, List.setIfInBounds_toArray, List.set_cons_zero, List.set_cons_succ]
              rfl
            refine pure_ (i := 7) (N := some 75) (v := ?_) (a' := ?_) #[true, true, true, true, true, true, true, true, false, false, false, false, false, false, false, false, false, false, false] rfl rfl (by kernel_rfl) (fun _ _ _ h => h) (Or.inl ⟨by rfl, ?_⟩) ?_ ?_
            rotate_left
            · intro w'
              go_simp
              with_reducible rfl
            rotate_left
            · simp only [Act.put, List.setIfInBounds_toArray, List.set_cons_zero, List.set_cons_succ]
              rfl
            refine pure_ (i := 8) (N := some 76) (v := ?_) (a' := ?_) #[true, true, true, true, true, true, true, true, true, false, false, false, false, false, false, false, false, false, false] rfl rfl (by kernel_rfl) (fun _ _ _ h => h) (Or.inl ⟨by rfl, ?_⟩) ?_ ?_
            rotate_left
            · intro w'
              go_simp
              with_reducible rfl
            rotate_left
            · simp only [Act.put, List.setIfInBounds_toArray, List.set_cons_zero, List.set_cons_succ]
              rfl
            refine take_ (i := 9) (N := some 77) (v := ?_) (a' := ?_) #[true, true, true, true, true, true, true, true, true, true, false, false, false, false, false, false, false, false, false] rfl rfl (by kernel_rfl) (fun _ _ _ h => h) (Or.inl ⟨by rfl, ?_⟩) HH.out ?_ ?_
            rotate_left
            · intro w' hSw
              (try dsimp only at hSw)
              go_split_ands
              go_simp
              with_reducible rfl
            rotate_left
            · simp only [Act.put, List.setIfInBounds_toArray, List.set_cons_zero, List.set_cons_succ]
              rfl
            refine pure_ (i := 10) (N := some 78) (v := ?_) (a' := ?_) #[true, true, true, true, true, true, true, true, true, true, true, false, false, false, false, false, false, false, false] rfl rfl (by kernel_rfl) (fun _ _ _ h => h) (Or.inl ⟨by rfl, ?_⟩) ?_ ?_
            rotate_left
            · intro w'
              go_simp
              with_reducible rfl
            rotate_left
            · simp only [Act.put, List.setIfInBounds_toArray, List.set_cons_zero, List.set_cons_succ]
              rfl
            refine pure_ (i := 11) (N := some 79) (v := ?_) (a' := ?_) #[true, true, true, true, true, true, true, true, true, true, true, true, false, false, false, false, false, false, false] rfl rfl (by kernel_rfl) (fun _ _ _ h => h) (Or.inl ⟨by rfl, ?_⟩) ?_ ?_
            rotate_left
            · intro w'
              go_simp
              with_reducible rfl
            rotate_left
            · simp only [Act.put, List.setIfInBounds_toArray, List.set_cons_zero, List.set_cons_succ]
              rfl
            refine pure_ (i := 12) (N := some 80) (v := ?_) (a' := ?_) #[true, true, true, true, true, true, true, true, true, true, true, true, true, false, false, false, false, false, false] rfl rfl (by kernel_rfl) (fun _ _ _ h => h) (Or.inl ⟨by rfl, ?_⟩) ?_ ?_
            rotate_left
            · intro w'
              go_simp
              with_reducible rfl
            rotate_left
            · simp only [Act.put, List.setIfInBounds_toArray, List.set_cons_zero, List.set_cons_succ]
              rfl
            refine pure_ (i := 13) (N := some 81) (v := ?_) (a' := ?_) #[true, true, true, true, true, true, true, true, true, true, true, true, true, true, false, false, false, false, false] rfl rfl (by kernel_rfl) (fun _ _ _ h => h) (Or.inl ⟨by rfl, ?_⟩) ?_ ?_
            rotate_left
            · intro w'
              go_simp
              with_reducible rfl
            rotate_left
            · simp only [Act.put, List.setIfInBounds_toArray, List.set_cons_zero, List.set_cons_succ]
              rfl
            refine pure_ (i := 14) (N := some 82) (v := ?_) (a' := ?_) #[true, true, true, true, true, true, true, true, true, true, true, true, true, true, true, false, false, false, false] rfl rfl (by kernel_rfl) (fun _ _ _ h => h) (Or.inl ⟨by rfl, ?_⟩) ?_ ?_
            rotate_left
            · intro w'
              go_simp
              with_reducible rfl
            rotate_left
            · simp only [Act.put, List.setIfInBounds_toArray, List.set_cons_zero, List.set_cons_succ]
              rfl
            refine take_ (i := 15) (N := some 83) (v := ?_) (a' := ?_) #[true, true, true, true, true, true, true, true, true, true, true, true, true, true, true, true, false, false, false] rfl rfl (by kernel_rfl) (fun _ _ _ h => h) (Or.inl ⟨by rfl, ?_⟩) HH.out ?_ ?_
            rotate_left
            · intro w' hSw
              (try dsimp only at hSw)
              go_split_ands
              go_simp
              with_reducible rfl
            rotate_left
            · simp only [Act.put, List.setIfInBounds_toArray, List.set_cons_zero, List.set_cons_succ]
              rfl
            refine pure_ (i := 16) (N := some 84) (v := ?_) (a' := ?_) #[true, true, true, true, true, true, true, true, true, true, true, true, true, true, true, true, true, false, false] rfl rfl (by kernel_rfl) (fun _ _ _ h => h) (Or.inl ⟨by rfl, ?_⟩) ?_ ?_
            rotate_left
            · intro w'
              go_simp
              with_reducible rfl
            rotate_left
            · simp only [Act.put, List.setIfInBounds_toArray, List.set_cons_zero, List.set_cons_succ]
              rfl
            refine one_ (i := 17) (N := some 14) #[true, true, true, true, true, true, true, true, true, true, true, true, true, true, true, true, true, true, false] rfl rfl (by kernel_rfl) (by decide) (fun K hK => ?_)
            refine value_ (v := .pointer (some ⟨wr.heap.size, 0, none⟩)) (w1 := wr.drew.alloc (.cells #[.int .i64 0, .bool false, .int .i64 0, .int .i64 0, .int .i64 0, .string ⟨#[]⟩, .slice none 0 0, .slice none 0 0] 69)) (by rfl) rfl (by first | (go_simp; done) | (go_simp; rfl)) ?_
            have hb_ := below_alloc (RowKit.Below.refl _ wr.drew) (.cells #[.int .i64 0, .bool false, .int .i64 0, .int .i64 0, .int .i64 0, .string ⟨#[]⟩, .slice none 0 0, .slice none 0 0] 69)
            refine hK.out _ _ ⟨(hb_.cell (World.block_lt_of_cell? _ _ HH.out.1)).trans HH.out.1, (hb_.cell (World.block_lt_of_cell? _ _ HH.out.2.1)).trans HH.out.2.1, (hb_.cell (World.block_lt_of_cell? _ _ HH.out.2.2.1)).trans HH.out.2.2.1, (hb_.cell (World.block_lt_of_cell? _ _ HH.out.2.2.2.1)).trans HH.out.2.2.2.1, (hb_.cell (World.block_lt_of_cell? _ _ HH.out.2.2.2.2.1)).trans HH.out.2.2.2.2.1, (hb_.cell (World.block_lt_of_cell? _ _ HH.out.2.2.2.2.2.1)).trans HH.out.2.2.2.2.2.1, (hb_.cell (World.block_lt_of_cell? _ _ HH.out.2.2.2.2.2.2.1)).trans HH.out.2.2.2.2.2.2.1, (hb_.cell (World.block_lt_of_cell? _ _ HH.out.2.2.2.2.2.2.2.1)).trans HH.out.2.2.2.2.2.2.2.1, (hb_.cell (World.block_lt_of_cell? _ _ HH.out.2.2.2.2.2.2.2.2)).trans HH.out.2.2.2.2.2.2.2.2⟩ (fun hH2 => ?_)
            clear hK K hH2 hb_
            refine norm_ (a' := ?_) ?_ ?_
            rotate_left
            · show Act.put _ (some 14) _ = _
              simp only [Act.put, List.setIfInBounds_toArray, List.set_cons_zero, List.set_cons_succ]
              rfl
            refine chain_ [18] _ _ _ _ (⟨_, _, rfl, rfl, rfl⟩) (by kernel_rfl) (by decide) ?_
            have hb1 : RowKit.Below wr.heap.size wr ((wr.alloc (.cells #[.int .i64 yx.f0, .bool yx.f1, .int .i64 yx.f2.f0, .int .i64 yx.f2.f1, .int .i64 yx.f2.f2, .string yx.f2.f3, .slice a4 yx.f2.f4.length c4, .slice a5 yx.f2.f5.length c5] 69)).drew) := (below_alloc (RowKit.Below.refl _ wr) _).drew
            have BX := Aside0.mk (blk_drew (blk_new wr (.cells #[.int .i64 yx.f0, .bool yx.f1, .int .i64 yx.f2.f0, .int .i64 yx.f2.f1, .int .i64 yx.f2.f2, .string yx.f2.f3, .slice a4 yx.f2.f4.length c4, .slice a5 yx.f2.f5.length c5] 69)))
            have hgc := World.block_lt_of_cell? _ _ y0
            have hgc' : gc < ((wr.alloc (.cells #[.int .i64 yx.f0, .bool yx.f1, .int .i64 yx.f2.f0, .int .i64 yx.f2.f1, .int .i64 yx.f2.f2, .string yx.f2.f3, .slice a4 yx.f2.f4.length c4, .slice a5 yx.f2.f5.length c5] 69)).drew).heap.size := Nat.lt_of_lt_of_le hgc hb1.size
            have hwx : wr.heap.size < ((wr.alloc (.cells #[.int .i64 yx.f0, .bool yx.f1, .int .i64 yx.f2.f0, .int .i64 yx.f2.f1, .int .i64 yx.f2.f2, .string yx.f2.f3, .slice a4 yx.f2.f4.length c4, .slice a5 yx.f2.f5.length c5] 69)).drew).heap.size := by simp
            have Y0 := Aside0.mk ((hb1.cell hgc).trans y0)
            have HL3 := Aside0.mk (HL2.out.below hb1)
            have HFT3 := Aside0.mk (HFT.out.keep (KeepU.of_below (Nat.le_refl _) hb1))
            have HBX := Aside0.mk (HB.out.trans (hb1.mono HB.out.size))
            go_upto_region 17 with fail
            clear y0 y1 y2 y3 y4 y5 y6 y7 y8 hb1 hgc hNm HL2 HFT
            generalize hwn : (wr.alloc (.cells #[.int .i64 yx.f0, .bool yx.f1, .int .i64 yx.f2.f0, .int .i64 yx.f2.f1, .int .i64 yx.f2.f2, .string yx.f2.f3, .slice a4 yx.f2.f4.length c4, .slice a5 yx.f2.f5.length c5] 69)).drew = wn at *
            clear hwn
            have y0 := Y0.out
            have h1 := HN1.out.1
            have h2 := HN1.out.2
            have hc1 : decide ((yn : Int) < 1) = false := by simp; omega
            have hc2 : decide ((nr : Int) < (yn : Int)) = false := by simp; omega
            obtain ⟨v0, v1, v2, v3, v4, v5, v6, v7⟩ := box8 BX.out
            by_cases hyr : yn = nr
            · subst hyr
              clear h1 h2
              have HOA := Aside0.mk (show (wn.alloc (.cells #[.int .i64 yx.f0, .bool yx.f1, .int .i64 yx.f2.f0, .int .i64 yx.f2.f1, .int .i64 yx.f2.f2, .string yx.f2.f3, .slice a4 yx.f2.f4.length c4, .slice a5 yx.f2.f5.length c5] 69)).ownsRow b3 69 8 (.slice (some ⟨g, 0, none⟩) yn c) yn (flatS rs) from by rw [HNR.out]; exact World.ownsRow.alloc HL3.out.2.1.1 _)
              have HSA := Aside0.mk (show b3 ≤ (wn.alloc (.cells #[.int .i64 yx.f0, .bool yx.f1, .int .i64 yx.f2.f0, .int .i64 yx.f2.f1, .int .i64 yx.f2.f2, .string yx.f2.f3, .slice a4 yx.f2.f4.length c4, .slice a5 yx.f2.f5.length c5] 69)).heap.size by rw [World.size_alloc]; have := HL3.out.2.1.lt; omega)
              have HLA := Aside0.mk (HL3.out.below (below_alloc (RowKit.Below.refl _ wn) (.cells #[.int .i64 yx.f0, .bool yx.f1, .int .i64 yx.f2.f0, .int .i64 yx.f2.f1, .int .i64 yx.f2.f2, .string yx.f2.f3, .slice a4 yx.f2.f4.length c4, .slice a5 yx.f2.f5.length c5] 69)))
              have HBA := Aside0.mk (below_alloc HBX.out (.cells #[.int .i64 yx.f0, .bool yx.f1, .int .i64 yx.f2.f0, .int .i64 yx.f2.f1, .int .i64 yx.f2.f2, .string yx.f2.f3, .slice a4 yx.f2.f4.length c4, .slice a5 yx.f2.f5.length c5] 69))
              have HFA := Aside0.mk (HFT3.out.keep (KeepU.of_below (Nat.le_refl _) (below_alloc (RowKit.Below.refl _ wn) (.cells #[.int .i64 yx.f0, .bool yx.f1, .int .i64 yx.f2.f0, .int .i64 yx.f2.f1, .int .i64 yx.f2.f2, .string yx.f2.f3, .slice a4 yx.f2.f4.length c4, .slice a5 yx.f2.f5.length c5] 69))))
              have HNR2 := Aside0.mk (show yn ≤ 200 from by have := HYN.out; omega)
              go_wp2_with (first | ((with_reducible refine gate_dst (N := 112) rfl ?_); refine wpList_append_own_at (wn.alloc (.cells #[.int .i64 yx.f0, .bool yx.f1, .int .i64 yx.f2.f0, .int .i64 yx.f2.f1, .int .i64 yx.f2.f2, .string yx.f2.f3, .slice a4 yx.f2.f4.length c4, .slice a5 yx.f2.f5.length c5] 69)) rfl (.tmp 109) (.tmp 111) 46 rfl b3 69 i0 (.agg #[(.int .i64 0), (.bool false), (.int .i64 0), (.int .i64 0), (.int .i64 0), (.string ⟨#[]⟩), (.slice none 0 0), (.slice none 0 0)]) 8 104 Try.underlying46 HI.out.1 HI.out.2.1 HI.out.2.2.1 HI.out.2.2.2 rfl (by decide) (.slice (some ⟨g, 0, none⟩) yn c) yn (flatS rs) rfl HOA.out ⟨wn.heap.size, 0, none⟩ 1 1 [.int .i64 yx.f0, .bool yx.f1, .int .i64 yx.f2.f0, .int .i64 yx.f2.f1, .int .i64 yx.f2.f2, .string yx.f2.f3, .slice a4 yx.f2.f4.length c4, .slice a5 yx.f2.f5.length c5] rfl rfl (cells_new _ _ _) (by simp [Value.oneCell']) (by have := HNR2.out; simp only [maxLen]; omega) (by have := HNR2.out; omega) HSA.out ?_))
              intro v' w8 hown hgrow _ hbk
              obtain ⟨g', c', rfl⟩ := ownsRow_succ hown
              have hrl : (rs ++ [(⟨yx, a4, c4, a5, c5⟩ : RS)]).length = yn + 1 := by rw [List.length_append, ← HNR.out]; rfl
              have HNR3 := Aside0.mk hrl.symm
              have HL8 := Aside0.mk (L2.more (g' := g') (c' := c') (rs' := rs ++ [⟨yx, a4, c4, a5, c5⟩]) HLA.out HSA.out hgrow (by rw [hrl, flatS_app]; simpa [flatS, flat8, encS] using hown) (by simpa [Value.ownBlock] using hbk) (fun z hz => by
                rcases List.mem_append.1 hz with hz | hz
                · exact HLA.out.2.1.2 z hz
                · obtain rfl := List.mem_singleton.1 hz
                  exact HFA.out))
              have HB8 := Aside0.mk (HBA.out.trans ((RowKit.Below.refl w.heap.size (wn.alloc (.cells #[.int .i64 yx.f0, .bool yx.f1, .int .i64 yx.f2.f0, .int .i64 yx.f2.f1, .int .i64 yx.f2.f2, .string yx.f2.f3, .slice a4 yx.f2.f4.length c4, .slice a5 yx.f2.f5.length c5] 69))).grown hgrow HBA.out.size (fun k hk => by
                have e : g = k := by simpa [Value.ownBlock] using hk
                have h := HLA.out.2.1.lt.1
                have := HB3.out
                omega)))
              have HMK8 := Aside0.mk (show (rs ++ [(⟨yx, a4, c4, a5, c5⟩ : RS)]).map (fun y => y.x) = mkC (s0.now.map plainS) ((chgs s s.now.length).take (j + 1)) from by
                rw [HNX.out]
                unfold chS
                rw [if_pos (by rw [List.length_map]; exact HNR.out), List.map_append]
                rfl)
              clear hown hgrow hbk hrl v0 v1 v2 v3 v4 v5 v6 v7 y0 hgc' hwx hc1 hc2
              go_wp2
              exact ⟨⟨j + 1, g', c', yn + 1, _, by omega, by first | (rw [HWK.out]; simp; done) | (simp; done), rfl, HNR3, HMK8, HL8, HB8⟩, by first | (rw [HWK.out]; simp [intOf]; omega) | (simp [intOf]; omega)⟩
            · have hyb : ((yn : Int) == (nr : Int)) = false := by rw [beq_eq_false_iff_ne]; omega
              have hyl : yn < nr := by omega
              have hyl' : (yn : Int) < (nr : Int) := by omega
              have hnr9 : nr ≤ 9223372036854775807 := by rw [HNR.out]; exact own_max HL3.out.2.1.1
              obtain ⟨y2, -, -, z0, z1, z2, z3, z4, z5, z6, z7⟩ := HL3.out.2.1.own.at yn (by have := HNR.out; omega)
              have hfz := HL3.out.2.1.1.frozenAt
              have fz0 := hfz (yn * 8)
              have fz1 := hfz (yn * 8 + 1)
              have fz2 := hfz (yn * 8 + 2)
              have fz3 := hfz (yn * 8 + 3)
              have fz4 := hfz (yn * 8 + 4)
              have fz5 := hfz (yn * 8 + 5)
              have fz6 := hfz (yn * 8 + 6)
              have fz7 := hfz (yn * 8 + 7)
              have hgl := HL3.out.2.1.lt.2
              have HL8 := Aside0.mk (L2.below (L2.more (g' := g) (c' := c) (rs' := rs.set yn ⟨yx, a4, c4, a5, c5⟩) HL3.out (by have := HL3.out.2.1.lt; omega) (grown_cells wn g (yn * 8) (encS ⟨yx, a4, c4, a5, c5⟩)) (row_set HL3.out.2.1.1 yn (by have := HNR.out; omega) ⟨yx, a4, c4, a5, c5⟩) (.inl rfl) (fun z hz => by
                rcases List.mem_or_eq_of_mem_set hz with hz | rfl
                · exact HL3.out.2.1.2 z hz
                · exact HFT3.out)) (RowKit.Below.refl _ _).drew)
              have HB8 := Aside0.mk (HBX.out.trans (((RowKit.Below.refl w.heap.size wn).grown (grown_cells wn g (yn * 8) (encS ⟨yx, a4, c4, a5, c5⟩)) HBX.out.size (fun k hk => by cases hk; have h := HL3.out.2.1.lt.1; have := HB3.out; omega)).drew))
              have HMK8 := Aside0.mk (show (rs.set yn (⟨yx, a4, c4, a5, c5⟩ : RS)).map (fun y => y.x) = mkC (s0.now.map plainS) ((chgs s s.now.length).take (j + 1)) from by
                rw [HNX.out]
                unfold chS
                rw [if_neg (by rw [List.length_map, ← HNR.out]; exact hyr), List.map_set])
              have HNR3 := Aside0.mk (show nr = (rs.set yn (⟨yx, a4, c4, a5, c5⟩ : RS)).length from by rw [List.length_set]; exact HNR.out)
              clear hfz hyr h1 h2 hyl'
              go_upto_region 21 with fail
              refine start_ (n := 9) (S := (fun w' => w'.cell? ⟨gc, j * 9, none⟩ = some (.int .i64 yn) ∧ w'.cell? ⟨wr.heap.size, 0, none⟩ = some (.int .i64 yx.f0) ∧ w'.cell? ⟨wr.heap.size, 1, none⟩ = some (.bool yx.f1) ∧ w'.cell? ⟨wr.heap.size, 2, none⟩ = some (.int .i64 yx.f2.f0) ∧ w'.cell? ⟨wr.heap.size, 3, none⟩ = some (.int .i64 yx.f2.f1) ∧ w'.cell? ⟨wr.heap.size, 4, none⟩ = some (.int .i64 yx.f2.f2) ∧ w'.cell? ⟨wr.heap.size, 5, none⟩ = some (.string yx.f2.f3) ∧ w'.cell? ⟨wr.heap.size, 6, none⟩ = some (.slice a4 yx.f2.f4.length c4) ∧ w'.cell? ⟨wr.heap.size, 7, none⟩ = some (.slice a5 yx.f2.f5.length c5))) (ds := [8]) #[false, false, false, false, false, false, false, false, false] (by kernel_rfl) rfl rfl (by refine ⟨?_, ?_, ?_, ?_, ?_, ?_, ?_, ?_, ?_⟩ <;> go_simp) (fun hHeld => ?_)
              have HH := Aside0.mk hHeld
              clear hHeld
              refine pure_ (i := 0) (N := some 113) (v := ?_) (a' := ?_) #[true, false, false, false, false, false, false, false, false] rfl rfl (by kernel_rfl) (fun _ _ _ h => h) (Or.inl ⟨by rfl, ?_⟩) ?_ ?_
              rotate_left
              · intro w'
                go_simp
                with_reducible rfl
              rotate_left
              · simp only [Act.put, List.setIfInBounds_toArray, List.set_cons_zero, List.set_cons_succ]
                rfl
              refine pure_ (i := 1) (N := some 114) (v := ?_) (a' := ?_) #[true, true, false, false, false, false, false, false, false] rfl rfl (by kernel_rfl) (fun _ _ _ h => h) (Or.inl ⟨by rfl, ?_⟩) ?_ ?_
              rotate_left
              · intro w'
                go_simp
                with_reducible rfl
              rotate_left
              · simp only [Act.put, List.setIfInBounds_toArray, List.set_cons_zero, List.set_cons_succ]
                rfl
              refine pure_ (i := 2) (N := some 115) (v := ?_) (a' := ?_) #[true, true, true, false, false, false, false, false, false] rfl rfl (by kernel_rfl) (fun _ _ _ h => h) (Or.inl ⟨by rfl, ?_⟩) ?_ ?_
              rotate_left
              · intro w'
                go_simp
                with_reducible rfl
              rotate_left
              · simp only [Act.put, List.setIfInBounds_toArray, List.set_cons_zero, List.set_cons_succ]
                rfl
              refine pure_ (i := 3) (N := some 116) (v := ?_) (a' := ?_) #[true, true, true, true, false, false, false, false, false] rfl rfl (by kernel_rfl) (fun _ _ _ h => h) (Or.inl ⟨by rfl, ?_⟩) ?_ ?_
              rotate_left
              · intro w'
                go_simp
                with_reducible rfl
              rotate_left
              · simp only [Act.put, List.setIfInBounds_toArray, List.set_cons_zero, List.set_cons_succ]
                rfl
              refine pure_ (i := 4) (N := some 117) (v := ?_) (a' := ?_) #[true, true, true, true, true, false, false, false, false] rfl rfl (by kernel_rfl) (fun _ _ _ h => h) (Or.inl ⟨by rfl, ?_⟩) ?_ ?_
              rotate_left
              · intro w'
                go_simp
                with_reducible rfl
              rotate_left
              · simp only [Act.put, List.setIfInBounds_toArray, List.set_cons_zero, List.set_cons_succ]
                rfl
              refine take_ (i := 5) (N := some 118) (v := ?_) (a' := ?_) #[true, true, true, true, true, true, false, false, false] rfl rfl (by kernel_rfl) (fun _ _ _ h => h) (Or.inl ⟨by rfl, ?_⟩) HH.out ?_ ?_
              rotate_left
              · intro w' hSw
                (try dsimp only at hSw)
                go_split_ands
                go_simp
                with_reducible rfl
              rotate_left
              · simp only [Act.put, List.setIfInBounds_toArray, List.set_cons_zero, List.set_cons_succ]
                rfl
              refine take_ (i := 6) (N := some 119) (v := ?_) (a' := ?_) #[true, true, true, true, true, true, true, false, false] rfl rfl (by kernel_rfl) (fun _ _ _ h => h) (Or.inl ⟨by rfl, ?_⟩) HH.out ?_ ?_
              rotate_left
              · intro w' hSw
                (try dsimp only at hSw)
                go_split_ands
                go_simp
                with_reducible rfl
              rotate_left
              · simp only [Act.put, List.setIfInBounds_toArray, List.set_cons_zero, List.set_cons_succ]
                rfl
              refine pure_ (i := 7) (N := some 120) (v := ?_) (a' := ?_) #[true, true, true, true, true, true, true, true, false] rfl rfl (by kernel_rfl) (fun _ _ _ h => h) (Or.inl ⟨by rfl, ?_⟩) ?_ ?_
              rotate_left
              · intro w'
                go_simp
                with_reducible rfl
              rotate_left
              · simp only [Act.put, List.setIfInBounds_toArray, List.set_cons_zero, List.set_cons_succ]
                rfl
              refine chain_ [8] _ _ _ _ (⟨_, _, rfl, rfl, rfl⟩) (by kernel_rfl) (by decide) ?_
              go_wp2
              exact ⟨⟨j + 1, g, c, nr, _, by omega, by first | (rw [HWK.out]; simp; done) | (simp; done), rfl, HNR3, HMK8, HL8, HB8⟩, by first | (rw [HWK.out]; simp [intOf]; omega) | (simp [intOf]; omega)⟩
          · obtain rfl : NC = j := by omega
            have HSAME := Aside0.mk (show rs.map (fun y => y.x) = rsn.map (fun y => y.x) from by
              rw [HMK.out, HXN.out, List.take_of_length_le (by rw [← HXS.out, List.length_map, HNC.out]; exact Nat.le_refl _)]
              exact made_same HS.out HW0.out.2.1 HL60.out.2.2.2.2)
            have KR := Aside0.mk (L_root HL2.out.1)
            clear HMK
            go_wp2_with fail
            refine Calls.mono KR.out ?_
            rintro e w8 ⟨rfl, hb⟩
            have hb1 := below_step hb (below_alloc (RowKit.Below.refl _ w8) (.cells #[.int .i64 s.rn, .int .i64 s.rg] 28))
            have BR := Aside0.mk (blk_new w8 (.cells #[.int .i64 s.rn, .int .i64 s.rg] 28))
            replace HL2 := Aside0.mk (HL2.out.below hb1)
            replace HB := Aside0.mk (HB.out.trans (hb1.mono HB.out.size))
            have KSM := same29 (rs.map (fun y => y.x)) (rsn.map (fun y => y.x)) (some ⟨g, 0, none⟩) c (some ⟨gn, 0, none⟩) cn (w8.alloc (.cells #[.int .i64 s.rn, .int .i64 s.rg] 28)) (by rw [List.length_map]; exact HL2.out.2.1.read) (by rw [List.length_map]; exact HL2.out.2.2.1.read) (by rw [HSAME.out, HXN.out, List.length_map]; have := HS.out.hi; have := HL60.out; omega)
            rw [eqB_true HSAME.out, List.length_map, List.length_map, ← HNR.out, ← HNN.out] at KSM
            have KSM' := Aside0.mk KSM
            clear hb hb1 KR KSM
            go_wp2_with fail
            refine Calls.mono KSM'.out ?_
            rintro e w9 ⟨rfl, hb⟩
            replace BR := Aside0.mk (blk_below BR.out hb)
            replace HL2 := Aside0.mk (HL2.out.below hb)
            replace HB := Aside0.mk (HB.out.trans (hb.mono HB.out.size))
            have KST := Aside0.mk (L_settle (HL2.out.1.frees (Y := fun j => j = gn) (fun j hj => .inr hj)) (by have := HL2.out.2.1.lt; omega) HS.out.ok (by have := HS.out.hi; have := HL60.out; omega))
            clear hb KSM'
            go_wp2_with fail
            refine Calls.mono KST.out ?_
            rintro e w10 ⟨rfl, hk, hm⟩
            have HON := Aside0.mk (HL2.out.2.2.1.mv hm rfl)
            replace BR := Aside0.mk (hm.blk BR.out)
            replace HB := Aside0.mk (HB.out.trans (hm.1.mono HB3.out))
            have HSS := Aside0.mk (show OkS (settleW s) ∧ (settleW s).base = (settleW s).now ∧ (settleW s).bn = (settleW s).rn ∧ (settleW s).bg = (settleW s).rg ∧ (settleW s).now = s.now ∧ (settleW s).rn = s.rn ∧ (settleW s).rg = s.rg ∧ s.now.length ≤ 121 from ⟨ok_settle HS.out.ok, rfl, rfl, rfl, rfl, rfl, rfl, by have := HS.out.hi; have := HL60.out; omega⟩)
            generalize settleW s = s2 at *
            have KD := L_dirty hk HSS.out.1 (by rw [HSS.out.2.2.2.2.1]; have := HSS.out.2.2.2.2.2.2.2; omega)
            rw [dirty_like s2 HSS.out.2.1 HSS.out.2.2.1 HSS.out.2.2.2.1] at KD
            have KD' := Aside0.mk KD
            have HK := Aside0.mk hk
            clear hk hm KD KST HL2 HNR
            go_wp2_with fail
            refine Calls.mono KD'.out ?_
            rintro e w11 ⟨rfl, hb⟩
            replace BR := Aside0.mk (blk_below BR.out hb)
            replace HON := Aside0.mk (HON.out.below hb)
            replace HK := Aside0.mk (HK.out.below hb)
            replace HB := Aside0.mk (HB.out.trans (hb.mono HB.out.size))
            have KC := L_changes HK.out HSS.out.1 (by rw [HSS.out.2.2.2.2.1]; have := HSS.out.2.2.2.2.2.2.2; omega)
            rw [chgs_like s2 HSS.out.2.1 _ (Nat.le_refl _)] at KC
            have KC' := Aside0.mk KC
            clear hb KD' KC
            go_wp2_with fail
            refine Calls.mono KC'.out ?_
            rintro e w12 ⟨v1, xs2, rfl, hxs2, hrow2, hb⟩
            obtain ⟨A12, c12, hv1, -⟩ := own_slice hrow2.1
            have hx0 : xs2 = [] := by simpa using hxs2
            subst hx0
            have hv1' : v1 = .slice A12 0 c12 := hv1
            subst hv1'
            replace BR := Aside0.mk (blk_below BR.out hb)
            replace HON := Aside0.mk (HON.out.below hb)
            replace HK := Aside0.mk (HK.out.below hb)
            replace HB := Aside0.mk (HB.out.trans (hb.mono HB.out.size))
            have HS2 := Aside0.mk (show StepOk s2 s2 0 from ⟨HSS.out.1, rfl, rfl, rfl, Nat.le_refl _, Nat.le_refl _, rfl⟩)
            obtain ⟨br, hbr⟩ : ∃ br, br = w8.heap.size := ⟨_, rfl⟩
            rw [← hbr] at BR
            rw [← hbr]
            obtain ⟨rn, hrn⟩ : ∃ rn, rn = s.rn := ⟨_, rfl⟩
            obtain ⟨rg, hrg⟩ : ∃ rg, rg = s.rg := ⟨_, rfl⟩
            rw [← hrn, ← hrg] at BR HSS
            rw [← hrn, ← hrg]
            clear hb KC' hxs2 hrow2 hv1 hbr hrn hrg
            go_wp2
            go_loopw [16] (fun i wr => ∃ (k : Nat) (s : WS), k ≤ N2 ∧ i = .int .i64 k ∧ Aside0 (StepOk s2 s k) ∧ Aside0 (Wk b3 wb (fun j => j = gn) s wr) ∧ Aside0 (OwnT b3 gn cn rsn wr) ∧ Aside0 (RowKit.Below w.heap.size w wr) ∧ Aside0 (wr.heap[br]? = some (.cells #[.int .i64 rn, .int .i64 rg] 28 (0, 0)))) (fun i _ => N2 - (intOf i).toNat)
            case atStart => exact ⟨0, s2, Nat.zero_le _, rfl, HS2, HK, HON, HB, BR⟩
            case round =>
              clear HK HON HB HS2 BR HS
              obtain ⟨k, s, hk, rfl, HS, HK, HO, HB, BR⟩ := hrel
              by_cases hlt : k < N2
              · obtain ⟨ad, P4, p4, P5, p5, hA, y0, y1, y2, y3, y4, y5, y6, y7, y8, lp4, gp4, lp5, gp5⟩ := at_T37 (Kd.C_below HR2.out HB.out) (k : Int) (by omega) (by have := HN2.out; omega)
                subst hA
                simp only [rd_T37, Int.toNat_natCast] at y0 y1 y2 y3 y4 y5 y6 y7 y8 lp4 gp4 lp5 gp5
                have hxf := HF.out.2.2.2 _ (getD_mem more k (by have := HN2.out; omega) z37)
                generalize more.getD k z37 = x at *
                obtain ⟨x0, ⟨x1, x2⟩, xv⟩ := x
                simp only [] at y0 y1 y2 y3 y4 y5 y6 y7 y8 lp4 gp4 lp5 gp5 hxf
                have hwk : wrap64 ((k : Int) + 1) = (k : Int) + 1 := by have := HL60.out; unfold wrap64; omega
                have HWK := Aside0.mk hwk
                have hNm : N2 ≤ 9223372036854775807 := by have := HL60.out; omega
                have KS := Aside0.mk (step_calls x0 x1 x2 xv P4 p4 P5 p5 HK.out (by have := HO.out.lt; omega) HS.out.ok (by have := HS.out.hi; have := HSS.out.2.2.2.2.2.2.2; have e := congrArg List.length HSS.out.2.2.2.2.1; have := HL60.out; omega) ⟨lp4, gp4, lp5, gp5⟩ hxf)
                have HS2 := Aside0.mk (HS.out.step (x0.tmod 7) x1 x2 xv hxf)
                clear hwk hxf lp4 gp4 lp5 gp5
                go_wp2_with fail
                refine Calls.mono KS.out ?_
                rintro e w3 ⟨rfl, hk3, hm⟩
                have HK3 := Aside0.mk hk3
                have HO3 := Aside0.mk (HO.out.mv hm rfl)
                have HB4 := Aside0.mk (HB.out.trans (hm.1.mono HB3.out))
                have BR3 := Aside0.mk (hm.blk BR.out)
                clear hk3 hm KS y0 y1 y2 y3 y4 y5 y6 y7 y8 hNm
                go_wp2
                exact ⟨⟨k + 1, _, by omega, by first | (rw [HWK.out]; simp; done) | (simp; done), HS2, HK3, HO3, HB4, BR3⟩, by first | (rw [HWK.out]; simp [intOf]; omega) | (simp [intOf]; omega)⟩
              · obtain rfl : N2 = k := by omega
                have H4 := Aside0.mk (show OkS (resetW s) ∧ (resetW s).base = (resetW s).now ∧ (resetW s).bn = (resetW s).rn ∧ (resetW s).bg = (resetW s).rg ∧ (resetW s).now.map plainS = rsn.map (fun y => y.x) ∧ (resetW s).rn = rn ∧ (resetW s).rg = rg ∧ (resetW s).now.length ≤ 121 from by
                  have e1 : s.base = s2.now := HS.out.base.trans HSS.out.2.1
                  refine ⟨ok_reset HS.out.ok, rfl, rfl, rfl, ?_, ?_, ?_, ?_⟩
                  · show s.base.map plainS = _
                    rw [e1, HSS.out.2.2.2.2.1, HXN.out]
                  · exact (HS.out.bn.trans HSS.out.2.2.1).trans HSS.out.2.2.2.2.2.1
                  · exact (HS.out.bg.trans HSS.out.2.2.2.1).trans HSS.out.2.2.2.2.2.2.1
                  · show s.base.length ≤ 121
                    rw [e1, HSS.out.2.2.2.2.1]
                    exact HSS.out.2.2.2.2.2.2.2)
                have hb : RowKit.Below wr.heap.size wr wr.drew := (RowKit.Below.refl _ wr).drew
                have HON := Aside0.mk (HO.out.below hb)
                replace HK := Aside0.mk (HK.out.below hb)
                replace BR := Aside0.mk (blk_below BR.out hb)
                replace HB := Aside0.mk (HB.out.trans (hb.mono HB.out.size))
                have KRS := Aside0.mk (L_reset HK.out (by have := HON.out.lt; omega) HS.out.ok (by have h := H4.out.2.2.2.2.2.2.2; have e : (resetW s).now = s.base := rfl; rw [e] at h; omega))
                generalize resetW s = s4 at *
                clear hb HO
                go_upto_region 29 with fail
                refine (wpIn_wide (n := 1)).1 ?_
                refine wpIn_region_any (by kernel_rfl) (?_ : wpAnyIn _ _ _ _ _ _ 24 (Array.replicate 24 false) _ (World.drew _))
                generalize hwd : wr.drew = wd at *
                clear hwd
                refine wpAnyIn_take (i := 0) (v := ?_) rfl rfl (by kernel_rfl) (by kernel_rfl) (by kernel_rfl) (fun _ _ _ h => h) ⟨Or.inl ⟨by rfl, ?_⟩, fun _ => rfl⟩ ?_
                rotate_left
                · intro w'
                  go_simp
                  with_reducible rfl
                (try simp only [Act.put, List.setIfInBounds_toArray, List.set_cons_zero, List.set_cons_succ])
                refine wpAnyIn_ready (rs := [1]) (by kernel_rfl) (by simp) ?_
                refine AllReadyIn.cons rfl (fun K' hK => ?_) AllReadyIn.nil
                go_simp
                refine ⟨trivial, (callsIn_wide.2 KRS.out).mono ?_⟩
                rintro e w13 ⟨rfl, hk, hm⟩
                replace BR := Aside0.mk (hm.blk BR.out)
                replace HON := Aside0.mk (HON.out.mv hm rfl)
                replace HB := Aside0.mk (HB.out.trans (hm.1.mono HB3.out))
                replace HK := Aside0.mk hk
                clear hk hm KRS
                go_simp
                refine hK _ _ ?_
                clear hK K'
                (try simp only [Act.put, List.setIfInBounds_toArray, List.set_cons_zero, List.set_cons_succ])
                refine wpAnyIn_take (i := 2) (v := ?_) rfl rfl (by kernel_rfl) (by kernel_rfl) (by kernel_rfl) (fun _ _ _ h => h) ⟨Or.inl ⟨by rfl, ?_⟩, fun _ => rfl⟩ ?_
                rotate_left
                · intro w'
                  go_simp
                  with_reducible rfl
                (try simp only [Act.put, List.setIfInBounds_toArray, List.set_cons_zero, List.set_cons_succ])
                refine wpAnyIn_take (i := 3) (v := ?_) rfl rfl (by kernel_rfl) (by kernel_rfl) (by kernel_rfl) (fun _ _ _ h => h) ⟨Or.inl ⟨by rfl, ?_⟩, fun _ => rfl⟩ ?_
                rotate_left
                · intro w'
                  go_simp
                  with_reducible rfl
                (try simp only [Act.put, List.setIfInBounds_toArray, List.set_cons_zero, List.set_cons_succ])
                refine wpAnyIn_take (i := 4) (v := ?_) rfl rfl (by kernel_rfl) (by kernel_rfl) (by kernel_rfl) (fun _ _ _ h => h) ⟨Or.inl ⟨by rfl, ?_⟩, fun _ => rfl⟩ ?_
                rotate_left
                · intro w'
                  go_simp
                  with_reducible rfl
                (try simp only [Act.put, List.setIfInBounds_toArray, List.set_cons_zero, List.set_cons_succ])
                refine wpAnyIn_take (i := 6) (v := ?_) rfl rfl (by kernel_rfl) (by kernel_rfl) (by kernel_rfl) (fun _ _ _ h => h) ⟨Or.inl ⟨by rfl, ?_⟩, fun _ => rfl⟩ ?_
                rotate_left
                · intro w'
                  go_simp
                  with_reducible rfl
                (try simp only [Act.put, List.setIfInBounds_toArray, List.set_cons_zero, List.set_cons_succ])
                have KSL := Aside0.mk (L_slotsT HK.out H4.out.1 (by have := H4.out.2.2.2.2.2.2.2; omega))
                refine wpAnyIn_ready (rs := [5]) (by kernel_rfl) (by simp) ?_
                refine AllReadyIn.cons rfl (fun K' hK => ?_) AllReadyIn.nil
                go_simp
                refine ⟨trivial, (callsIn_wide.2 KSL.out).mono ?_⟩
                rintro e w14 ⟨g4, k4, rs4, rfl, ho, hx, hft, hb⟩
                have HO4 := Aside0.mk (show OwnT b3 g4 k4 rs4 w14 from ⟨own_weaken ho.1 (by have := HON.out.lt; omega), hft⟩)
                have HX4 := Aside0.mk (hx.trans H4.out.2.2.2.2.1)
                obtain ⟨n4, hn4⟩ : ∃ n4, n4 = rs4.length := ⟨_, rfl⟩
                rw [← hn4]
                have HN4 := Aside0.mk hn4
                clear ho hx hft hn4 KSL
                replace BR := Aside0.mk (blk_below BR.out hb)
                replace HON := Aside0.mk (HON.out.below hb)
                replace HK := Aside0.mk (HK.out.below hb)
                replace HB := Aside0.mk (HB.out.trans (hb.mono HB.out.size))
                clear hb
                go_simp
                refine hK _ _ ?_
                clear hK K'
                (try simp only [Act.put, List.setIfInBounds_toArray, List.set_cons_zero, List.set_cons_succ])
                have KSM := same29 (rs4.map (fun y => y.x)) (rsn.map (fun y => y.x)) (some ⟨g4, 0, none⟩) k4 (some ⟨gn, 0, none⟩) cn w14 (by rw [List.length_map]; exact HO4.out.read) (by rw [List.length_map]; exact HON.out.read) (by rw [HX4.out, ← H4.out.2.2.2.2.1, List.length_map]; have := H4.out.2.2.2.2.2.2.2; omega)
                rw [eqB_true HX4.out, List.length_map, List.length_map, ← HN4.out, ← HNN.out] at KSM
                have KSM' := Aside0.mk KSM
                clear KSM
                refine wpAnyIn_ready (rs := [7]) (by kernel_rfl) (by simp) ?_
                refine AllReadyIn.cons rfl (fun K' hK => ?_) AllReadyIn.nil
                go_simp
                refine ⟨trivial, (callsIn_wide.2 KSM'.out).mono ?_⟩
                rintro e w15 ⟨rfl, hb⟩
                replace BR := Aside0.mk (blk_below BR.out hb)
                replace HON := Aside0.mk (HON.out.below hb)
                replace HK := Aside0.mk (HK.out.below hb)
                replace HB := Aside0.mk (HB.out.trans (hb.mono HB.out.size))
                clear hb
                clear KSM'
                go_simp
                refine hK _ _ ?_
                clear hK K'
                (try simp only [Act.put, List.setIfInBounds_toArray, List.set_cons_zero, List.set_cons_succ])
                refine wpAnyIn_take (i := 8) (v := ?_) rfl rfl (by kernel_rfl) (by kernel_rfl) (by kernel_rfl) (fun _ _ _ h => h) ⟨Or.inl ⟨by rfl, ?_⟩, fun _ => rfl⟩ ?_
                rotate_left
                · intro w'
                  go_simp
                  with_reducible rfl
                (try simp only [Act.put, List.setIfInBounds_toArray, List.set_cons_zero, List.set_cons_succ])
                refine wpAnyIn_take (i := 9) (v := ?_) rfl rfl (by kernel_rfl) (by kernel_rfl) (by kernel_rfl) (fun _ _ _ h => h) ⟨Or.inl ⟨by rfl, ?_⟩, fun _ => rfl⟩ ?_
                rotate_left
                · intro w'
                  go_simp
                  with_reducible rfl
                (try simp only [Act.put, List.setIfInBounds_toArray, List.set_cons_zero, List.set_cons_succ])
                refine wpAnyIn_take (i := 10) (v := ?_) rfl rfl (by kernel_rfl) (by kernel_rfl) (by kernel_rfl) (fun _ _ _ h => h) ⟨Or.inl ⟨by rfl, ?_⟩, fun _ => rfl⟩ ?_
                rotate_left
                · intro w'
                  go_simp
                  with_reducible rfl
                (try simp only [Act.put, List.setIfInBounds_toArray, List.set_cons_zero, List.set_cons_succ])
                have KRT := L_root HK.out
                rw [H4.out.2.2.2.2.2.1, H4.out.2.2.2.2.2.2.1] at KRT
                replace KRT := Aside0.mk KRT
                obtain ⟨r0, r1⟩ := box2 BR.out
                have hlr := blk_lt BR.out
                refine wpAnyIn_ready (rs := [11, 12]) (by kernel_rfl) (by simp) ?_
                refine AllReadyIn.cons rfl (fun K' hK => ?_) (AllReadyIn.cons rfl (fun K' hK => ?_) AllReadyIn.nil)
                · go_simp
                  refine ⟨trivial, (callsIn_wide.2 KRT.out).mono ?_⟩
                  rintro e w16 ⟨rfl, hb⟩
                  replace BR := Aside0.mk (blk_below BR.out hb)
                  replace HON := Aside0.mk (HON.out.below hb)
                  replace HK := Aside0.mk (HK.out.below hb)
                  replace HB := Aside0.mk (HB.out.trans (hb.mono HB.out.size))
                  clear hb
                  clear r0 r1 hlr
                  obtain ⟨r0, r1⟩ := box2 BR.out
                  have hlr := blk_lt BR.out
                  go_simp
                  refine hK _ _ ?_
                  clear hK K'
                  (try simp only [Act.put, List.setIfInBounds_toArray, List.set_cons_zero, List.set_cons_succ])
                  refine wpAnyIn_ready (rs := [12]) (by kernel_rfl) (by simp) ?_
                  refine AllReadyIn.cons rfl (fun K' hK => ?_) AllReadyIn.nil
                  go_simp
                  refine hK _ _ ?_
                  clear hK K'
                  (try simp only [Act.put, List.setIfInBounds_toArray, List.set_cons_zero, List.set_cons_succ])
                  refine wpAnyIn_take (i := 13) (v := ?_) rfl rfl (by kernel_rfl) (by kernel_rfl) (by kernel_rfl) (fun _ _ _ h => h) ⟨Or.inl ⟨by rfl, ?_⟩, fun _ => rfl⟩ ?_
                  rotate_left
                  · intro w'
                    go_simp
                    with_reducible rfl
                  (try simp only [Act.put, List.setIfInBounds_toArray, List.set_cons_zero, List.set_cons_succ])
                  refine wpAnyIn_take (i := 14) (v := ?_) rfl rfl (by kernel_rfl) (by kernel_rfl) (by kernel_rfl) (fun _ _ _ h => h) ⟨Or.inl ⟨by rfl, ?_⟩, fun _ => rfl⟩ ?_
                  rotate_left
                  · intro w'
                    go_simp
                    with_reducible rfl
                  (try simp only [Act.put, List.setIfInBounds_toArray, List.set_cons_zero, List.set_cons_succ])
                  refine wpAnyIn_take (i := 15) (v := ?_) rfl rfl (by kernel_rfl) (by kernel_rfl) (by kernel_rfl) (fun _ _ _ h => h) ⟨Or.inl ⟨by rfl, ?_⟩, fun _ => rfl⟩ ?_
                  rotate_left
                  · intro w'
                    go_simp
                    with_reducible rfl
                  (try simp only [Act.put, List.setIfInBounds_toArray, List.set_cons_zero, List.set_cons_succ])
                  refine wpAnyIn_take (i := 16) (v := ?_) rfl rfl (by kernel_rfl) (by kernel_rfl) (by kernel_rfl) (fun _ _ _ h => h) ⟨Or.inl ⟨by rfl, ?_⟩, fun _ => rfl⟩ ?_
                  rotate_left
                  · intro w'
                    go_simp
                    with_reducible rfl
                  (try simp only [Act.put, List.setIfInBounds_toArray, List.set_cons_zero, List.set_cons_succ])
                  have KD := L_dirty HK.out H4.out.1 (by have := H4.out.2.2.2.2.2.2.2; omega)
                  rw [dirty_like s4 H4.out.2.1 H4.out.2.2.1 H4.out.2.2.2.1] at KD
                  have KD' := Aside0.mk KD
                  clear KD KRT
                  refine wpAnyIn_ready (rs := [17]) (by kernel_rfl) (by simp) ?_
                  refine AllReadyIn.cons rfl (fun K' hK => ?_) AllReadyIn.nil
                  go_simp
                  refine ⟨trivial, (callsIn_wide.2 KD'.out).mono ?_⟩
                  rintro e w17 ⟨rfl, hb⟩
                  replace BR := Aside0.mk (blk_below BR.out hb)
                  replace HON := Aside0.mk (HON.out.below hb)
                  replace HK := Aside0.mk (HK.out.below hb)
                  replace HB := Aside0.mk (HB.out.trans (hb.mono HB.out.size))
                  clear hb
                  go_simp
                  refine hK _ _ ?_
                  clear hK K'
                  (try simp only [Act.put, List.setIfInBounds_toArray, List.set_cons_zero, List.set_cons_succ])
                  refine wpAnyIn_take (i := 18) (v := ?_) rfl rfl (by kernel_rfl) (by kernel_rfl) (by kernel_rfl) (fun _ _ _ h => h) ⟨Or.inl ⟨by rfl, ?_⟩, fun _ => rfl⟩ ?_
                  rotate_left
                  · intro w'
                    go_simp
                    with_reducible rfl
                  (try simp only [Act.put, List.setIfInBounds_toArray, List.set_cons_zero, List.set_cons_succ])
                  refine wpAnyIn_take (i := 19) (v := ?_) rfl rfl (by kernel_rfl) (by kernel_rfl) (by kernel_rfl) (fun _ _ _ h => h) ⟨Or.inl ⟨by rfl, ?_⟩, fun _ => rfl⟩ ?_
                  rotate_left
                  · intro w'
                    go_simp
                    with_reducible rfl
                  (try simp only [Act.put, List.setIfInBounds_toArray, List.set_cons_zero, List.set_cons_succ])
                  refine wpAnyIn_take (i := 20) (v := ?_) rfl rfl (by kernel_rfl) (by kernel_rfl) (by kernel_rfl) (fun _ _ _ h => h) ⟨Or.inl ⟨by rfl, ?_⟩, fun _ => rfl⟩ ?_
                  rotate_left
                  · intro w'
                    go_simp
                    with_reducible rfl
                  (try simp only [Act.put, List.setIfInBounds_toArray, List.set_cons_zero, List.set_cons_succ])
                  refine wpAnyIn_ready (rs := [21]) (by kernel_rfl) (by simp) ?_
                  refine AllReadyIn.cons rfl (fun K' hK => ?_) AllReadyIn.nil
                  go_simp
                  refine ⟨trivial, (callsIn_wide.2 (works_calls w17)).mono ?_⟩
                  rintro e w18 ⟨rfl, hb⟩
                  replace BR := Aside0.mk (blk_below BR.out hb)
                  replace HON := Aside0.mk (HON.out.below hb)
                  replace HK := Aside0.mk (HK.out.below hb)
                  replace HB := Aside0.mk (HB.out.trans (hb.mono HB.out.size))
                  clear hb
                  go_simp
                  refine hK _ _ ?_
                  clear hK K'
                  (try simp only [Act.put, List.setIfInBounds_toArray, List.set_cons_zero, List.set_cons_succ])
                  refine wpAnyIn_take (i := 22) (v := ?_) rfl rfl (by kernel_rfl) (by kernel_rfl) (by kernel_rfl) (fun _ _ _ h => h) ⟨Or.inl ⟨by rfl, ?_⟩, fun _ => rfl⟩ ?_
                  rotate_left
                  · intro w'
                    go_simp
                    with_reducible rfl
                  (try simp only [Act.put, List.setIfInBounds_toArray, List.set_cons_zero, List.set_cons_succ])
                  refine wpAnyIn_take (i := 23) (v := ?_) rfl rfl (by kernel_rfl) (by kernel_rfl) (by kernel_rfl) (fun _ _ _ h => h) ⟨Or.inl ⟨by rfl, ?_⟩, fun _ => rfl⟩ ?_
                  rotate_left
                  · intro w'
                    go_simp
                    with_reducible rfl
                  (try simp only [Act.put, List.setIfInBounds_toArray, List.set_cons_zero, List.set_cons_succ])
                  refine wpAnyIn_done (by kernel_rfl) ?_ _
                  go_simp
                  go_wp2
                  go_ret
                  exact ⟨rfl, HB.out⟩
                · go_simp
                  refine hK _ _ ?_
                  clear hK K'
                  (try simp only [Act.put, List.setIfInBounds_toArray, List.set_cons_zero, List.set_cons_succ])
                  refine wpAnyIn_ready (rs := [11]) (by kernel_rfl) (by simp) ?_
                  refine AllReadyIn.cons rfl (fun K' hK => ?_) AllReadyIn.nil
                  go_simp
                  refine ⟨trivial, (callsIn_wide.2 KRT.out).mono ?_⟩
                  rintro e w16 ⟨rfl, hb⟩
                  replace BR := Aside0.mk (blk_below BR.out hb)
                  replace HON := Aside0.mk (HON.out.below hb)
                  replace HK := Aside0.mk (HK.out.below hb)
                  replace HB := Aside0.mk (HB.out.trans (hb.mono HB.out.size))
                  clear hb
                  clear r0 r1 hlr
                  obtain ⟨r0, r1⟩ := box2 BR.out
                  have hlr := blk_lt BR.out
                  go_simp
                  refine hK _ _ ?_
                  clear hK K'
                  (try simp only [Act.put, List.setIfInBounds_toArray, List.set_cons_zero, List.set_cons_succ])
                  refine wpAnyIn_take (i := 13) (v := ?_) rfl rfl (by kernel_rfl) (by kernel_rfl) (by kernel_rfl) (fun _ _ _ h => h) ⟨Or.inl ⟨by rfl, ?_⟩, fun _ => rfl⟩ ?_
                  rotate_left
                  · intro w'
                    go_simp
                    with_reducible rfl
                  (try simp only [Act.put, List.setIfInBounds_toArray, List.set_cons_zero, List.set_cons_succ])
                  refine wpAnyIn_take (i := 14) (v := ?_) rfl rfl (by kernel_rfl) (by kernel_rfl) (by kernel_rfl) (fun _ _ _ h => h) ⟨Or.inl ⟨by rfl, ?_⟩, fun _ => rfl⟩ ?_
                  rotate_left
                  · intro w'
                    go_simp
                    with_reducible rfl
                  (try simp only [Act.put, List.setIfInBounds_toArray, List.set_cons_zero, List.set_cons_succ])
                  refine wpAnyIn_take (i := 15) (v := ?_) rfl rfl (by kernel_rfl) (by kernel_rfl) (by kernel_rfl) (fun _ _ _ h => h) ⟨Or.inl ⟨by rfl, ?_⟩, fun _ => rfl⟩ ?_
                  rotate_left
                  · intro w'
                    go_simp
                    with_reducible rfl
                  (try simp only [Act.put, List.setIfInBounds_toArray, List.set_cons_zero, List.set_cons_succ])
                  refine wpAnyIn_take (i := 16) (v := ?_) rfl rfl (by kernel_rfl) (by kernel_rfl) (by kernel_rfl) (fun _ _ _ h => h) ⟨Or.inl ⟨by rfl, ?_⟩, fun _ => rfl⟩ ?_
                  rotate_left
                  · intro w'
                    go_simp
                    with_reducible rfl
                  (try simp only [Act.put, List.setIfInBounds_toArray, List.set_cons_zero, List.set_cons_succ])
                  have KD := L_dirty HK.out H4.out.1 (by have := H4.out.2.2.2.2.2.2.2; omega)
                  rw [dirty_like s4 H4.out.2.1 H4.out.2.2.1 H4.out.2.2.2.1] at KD
                  have KD' := Aside0.mk KD
                  clear KD KRT
                  refine wpAnyIn_ready (rs := [17]) (by kernel_rfl) (by simp) ?_
                  refine AllReadyIn.cons rfl (fun K' hK => ?_) AllReadyIn.nil
                  go_simp
                  refine ⟨trivial, (callsIn_wide.2 KD'.out).mono ?_⟩
                  rintro e w17 ⟨rfl, hb⟩
                  replace BR := Aside0.mk (blk_below BR.out hb)
                  replace HON := Aside0.mk (HON.out.below hb)
                  replace HK := Aside0.mk (HK.out.below hb)
                  replace HB := Aside0.mk (HB.out.trans (hb.mono HB.out.size))
                  clear hb
                  go_simp
                  refine hK _ _ ?_
                  clear hK K'
                  (try simp only [Act.put, List.setIfInBounds_toArray, List.set_cons_zero, List.set_cons_succ])
                  refine wpAnyIn_take (i := 18) (v := ?_) rfl rfl (by kernel_rfl) (by kernel_rfl) (by kernel_rfl) (fun _ _ _ h => h) ⟨Or.inl ⟨by rfl, ?_⟩, fun _ => rfl⟩ ?_
                  rotate_left
                  · intro w'
                    go_simp
                    with_reducible rfl
                  (try simp only [Act.put, List.setIfInBounds_toArray, List.set_cons_zero, List.set_cons_succ])
                  refine wpAnyIn_take (i := 19) (v := ?_) rfl rfl (by kernel_rfl) (by kernel_rfl) (by kernel_rfl) (fun _ _ _ h => h) ⟨Or.inl ⟨by rfl, ?_⟩, fun _ => rfl⟩ ?_
                  rotate_left
                  · intro w'
                    go_simp
                    with_reducible rfl
                  (try simp only [Act.put, List.setIfInBounds_toArray, List.set_cons_zero, List.set_cons_succ])
                  refine wpAnyIn_take (i := 20) (v := ?_) rfl rfl (by kernel_rfl) (by kernel_rfl) (by kernel_rfl) (fun _ _ _ h => h) ⟨Or.inl ⟨by rfl, ?_⟩, fun _ => rfl⟩ ?_
                  rotate_left
                  · intro w'
                    go_simp
                    with_reducible rfl
                  (try simp only [Act.put, List.setIfInBounds_toArray, List.set_cons_zero, List.set_cons_succ])
                  refine wpAnyIn_ready (rs := [21]) (by kernel_rfl) (by simp) ?_
                  refine AllReadyIn.cons rfl (fun K' hK => ?_) AllReadyIn.nil
                  go_simp
                  refine ⟨trivial, (callsIn_wide.2 (works_calls w17)).mono ?_⟩
                  rintro e w18 ⟨rfl, hb⟩
                  replace BR := Aside0.mk (blk_below BR.out hb)
                  replace HON := Aside0.mk (HON.out.below hb)
                  replace HK := Aside0.mk (HK.out.below hb)
                  replace HB := Aside0.mk (HB.out.trans (hb.mono HB.out.size))
                  clear hb
                  go_simp
                  refine hK _ _ ?_
                  clear hK K'
                  (try simp only [Act.put, List.setIfInBounds_toArray, List.set_cons_zero, List.set_cons_succ])
                  refine wpAnyIn_take (i := 22) (v := ?_) rfl rfl (by kernel_rfl) (by kernel_rfl) (by kernel_rfl) (fun _ _ _ h => h) ⟨Or.inl ⟨by rfl, ?_⟩, fun _ => rfl⟩ ?_
                  rotate_left
                  · intro w'
                    go_simp
                    with_reducible rfl
                  (try simp only [Act.put, List.setIfInBounds_toArray, List.set_cons_zero, List.set_cons_succ])
                  refine wpAnyIn_take (i := 23) (v := ?_) rfl rfl (by kernel_rfl) (by kernel_rfl) (by kernel_rfl) (fun _ _ _ h => h) ⟨Or.inl ⟨by rfl, ?_⟩, fun _ => rfl⟩ ?_
                  rotate_left
                  · intro w'
                    go_simp
                    with_reducible rfl
                  (try simp only [Act.put, List.setIfInBounds_toArray, List.set_cons_zero, List.set_cons_succ])
                  refine wpAnyIn_done (by kernel_rfl) ?_ _
                  go_simp
                  go_wp2
                  go_ret
                  exact ⟨rfl, HB.out⟩
end Go.Proofs.Ytogpnkkoablmiaa.V
end
