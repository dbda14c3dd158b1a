/- Parts of the proof: what the theorem reaches, put together by a program of this session. -/
import Derived.ArgAppend
import Derived.Below
import Derived.BigGuardPart
import Derived.BigQuiet
import Derived.BigRegion
import Derived.Deep.AppendLies
import Derived.Deep.CutBlock
import Derived.Deep.DeepCutAuto
import Derived.Deep.Draws
import Derived.Deep.LoopGhost
import Derived.Deep.OwnRows
import Derived.Deep.QuietTactic
import Derived.Deep.RegionHeld3
import Derived.Deep.RegionLaw
import Derived.KernelRfl
import Derived.Laws.BitsLemmas
import Derived.Laws.BytesArg
import Derived.Laws.EntriesVeiled
import Derived.Laws.IdiomCopy
import Derived.Laws.MakeOwn
import Derived.Laws.OwnMore
import Derived.Laws.Rows
import Derived.Laws.Slices
import Derived.Laws.StructEq
import Derived.Lib.AppendIntMem
import Derived.Lib.AppendStr
import Derived.Lib.Bytealg
import Derived.Lib.ConvBytes
import Derived.Lib.Hide
import Derived.Lib.OwnBridge
import Derived.Lib.SliceRun
import Derived.LoopIn
import Derived.LoopNIn
import Derived.Maps.AppendAt
import Derived.Maps.OwnOps
import Derived.Maps.Views
import Derived.OrdersHeld
import Derived.Outline
import Derived.OwnWalk
import Derived.OwnWalkIn
import Derived.RangeFuncBound
import Derived.RangeFuncBox
import Derived.RangeFuncCalls
import Derived.RangeFuncFrom
import Derived.RangeFuncKeeps
import Derived.RangeFuncLeaves
import Derived.RangeFuncNested
import Derived.RowKit
import Derived.RowKit3
import Derived.Shelf.Abstract
import Derived.Shelf.RegionOpen
import Derived.Shelf.SlSortCmp.KitK
import Derived.Shelf.Spec.SlicesInsertGrow
import Derived.Sort.LotA
import Derived.Sort.WalkB12
import Derived.Sort.WalkB2
import Derived.Tactics
import Derived.TacticsInMore
import Derived.Test.YtogpnkkoablmiaaProg
import Derived.WalkKit
import Derived.WalkLawsBesides
import Derived.WideLaws
import Derived.Test.YtogpnkkoablmiaaBF1
import Derived.Test.YtogpnkkoablmiaaBF2
import Derived.Test.YtogpnkkoablmiaaBF3
import Derived.Test.YtogpnkkoablmiaaBF4
import Derived.Test.YtogpnkkoablmiaaBF5
import Derived.Test.YtogpnkkoablmiaaBF6
import Derived.Test.YtogpnkkoablmiaaBF7
import Derived.Test.YtogpnkkoablmiaaBF9
import Derived.Test.YtogpnkkoablmiaaBF10
import Derived.Test.YtogpnkkoablmiaaBF11
import Derived.Test.YtogpnkkoablmiaaBF12
import Derived.Test.YtogpnkkoablmiaaBF13
import Derived.Test.YtogpnkkoablmiaaBF14
import Derived.Test.YtogpnkkoablmiaaBF15
import Derived.Test.YtogpnkkoablmiaaBF16
import Derived.Test.YtogpnkkoablmiaaBF17
import Derived.Test.YtogpnkkoablmiaaBF18
import Derived.Test.YtogpnkkoablmiaaBF19
import Derived.Test.YtogpnkkoablmiaaBF20
import Derived.Test.YtogpnkkoablmiaaBF21
import Derived.Test.YtogpnkkoablmiaaBF22
import Derived.Test.YtogpnkkoablmiaaBF23
import Derived.Test.YtogpnkkoablmiaaBF24
section
namespace Go.Proofs.Ytogpnkkoablmiaa.V
open Go.Proofs.Ytogpnkkoablmiaa.P Go.Shelf Go.RowKit Go.Lib Go.Sort Go.Proofs.Ytogpnkkoablmiaa.Q Go.Proofs.YtogpnkkoablmiaaW.PrintWords Go.Proofs.YtogpnkkoablmiaaW.PrintLast Go.Proofs.YtogpnkkoablmiaaW.PrintMore
set_option linter.unusedVariables false
set_option linter.unusedSimpArgs false
attribute [local go_sem high] eqA28
attribute [local go_sem] nzv_ne nzv_beq nzv_bne
attribute [local go_sem] Oper.semAt_some
def hasB (l : List (Int × Int)) (a b : Int) : Bool := l.any fun y => y.1 == a && y.2 == b
theorem hasB_iff (l : List (Int × Int)) (a b : Int) : hasB l a b = true ↔ (a, b) ∈ l := by
  unfold hasB
  rw [List.any_eq_true]
  constructor
  · rintro ⟨⟨x, y⟩, h, e⟩
    simp at e
    rw [← e.1, ← e.2]
    exact h
  · intro h
    exact ⟨(a, b), h, by simp⟩
theorem has_l0 (xs : List (Int × Int)) (a b : Int) (hx : xs.length ≤ 90000) : ∀ m i, xs.length - i = m → i ≤ xs.length → binderylaw33_has.l0 (m + 1) (refs xs) (i : Int) a b = some (hasB (xs.drop i) a b) := by
  have hl : (refs xs).length = xs.length := by simp [refs]
  intro m
  induction m with
  | zero =>
    intro i hm hi
    unfold binderylaw33_has.l0
    rw [if_neg (by rw [hl]; omega), List.drop_eq_nil_of_le (by omega)]
    rfl
  | succ m ih =>
    intro i hm hi
    have hlt : i < xs.length := by omega
    have e : rd_T28 (refs xs) (i : Int) = ⟨(xs.getD i (0, 0)).1, (xs.getD i (0, 0)).2⟩ := by
      unfold rd_T28 refs
      rw [Int.toNat_natCast, List.getD_eq_getElem?_getD, List.getElem?_map, List.getElem?_eq_getElem hlt, List.getD_eq_getElem?_getD, List.getElem?_eq_getElem hlt]
      rfl
    have hw : wrap64 ((i : Int) + 1) = ((i + 1 : Nat) : Int) := by unfold wrap64; omega
    have hd : xs.drop i = xs.getD i (0, 0) :: xs.drop (i + 1) := by
      rw [List.drop_eq_getElem_cons hlt, List.getD_eq_getElem?_getD, List.getElem?_eq_getElem hlt]
      rfl
    unfold binderylaw33_has.l0
    rw [if_pos (by rw [hl]; omega), if_pos (by omega), e, hw, ih (i + 1) (by omega) (by omega), hd]
    unfold hasB
    rw [List.any_cons]
    cases ((xs.getD i (0, 0)).1 == a && (xs.getD i (0, 0)).2 == b) <;> simp
theorem has_f (xs : List (Int × Int)) (a b : Int) (hx : xs.length ≤ 90000) : binderylaw33_has.f (xs.length + 1) (refs xs) a b = some (hasB xs a b) := by
  have h := has_l0 xs a b hx xs.length 0 (by omega) (by omega)
  simpa [binderylaw33_has.f] using h
theorem few33_f (k : Nat) (l : List S37) : binderylaw33_Few.f k l = if (l.length : Int) > 60 then some false else binderylaw33_Few.l0 k l 0 := rfl
theorem few33_l0 (d : List S37) (hd : d.length ≤ 60) : ∀ (r i : Nat), d.length - i = r → i ≤ d.length → ∃ b k0, (b = true → ∀ p ∈ d.drop i, fewV p.f2) ∧ ∀ k, k0 ≤ k → binderylaw33_Few.l0 k d i = some b := by
  intro r
  induction r with
  | zero =>
    intro i hr hi
    refine ⟨true, 1, fun _ p hp => by rw [List.drop_eq_nil_of_le (by omega)] at hp; simp at hp, fun k hk => ?_⟩
    obtain ⟨k, rfl⟩ : ∃ j, k = j + 1 := ⟨k - 1, by omega⟩
    unfold binderylaw33_Few.l0
    rw [if_neg (by omega)]
  | succ r ihr =>
    intro i hr hi
    obtain ⟨b1, k1, g1, h1⟩ := few_all (d.getD i z37).f2 60 (by omega) (by omega)
    obtain ⟨b2, k2, g2, h2⟩ := ihr (i + 1) (by omega) (by omega)
    have e : rd_T37 d (i : Int) = d.getD i z37 := rfl
    have hw : wrap64 ((i : Int) + 1) = ((i + 1 : Nat) : Int) := by unfold wrap64; omega
    have hlt : i < d.length := by omega
    refine ⟨if b1 = true then b2 else false, max k1 k2 + 1, fun h p hp => ?_, fun k hk => ?_⟩
    · cases b1 with
      | false => simp at h
      | true =>
        have h' : b2 = true := by simpa using h
        rw [List.drop_eq_getElem_cons hlt] at hp
        rcases List.mem_cons.1 hp with rfl | hp
        · have := (g1 rfl).2.1
          rw [List.getD_eq_getElem?_getD, List.getElem?_eq_getElem hlt] at this
          exact this
        · exact g2 h' p hp
    · obtain ⟨k, rfl⟩ : ∃ j, k = j + 1 := ⟨k - 1, by omega⟩
      unfold binderylaw33_Few.l0
      rw [if_pos (by omega), if_pos (by omega), e, h1 k (by omega), Option.bind_some, hw, h2 k (by omega)]
      cases b1 <;> rfl
theorem few33_all (d : List S37) : ∃ b k, (b = true → d.length ≤ 60 ∧ ∀ p ∈ d, fewV p.f2) ∧ binderylaw33_Few.f k d = some b := by
  by_cases hd : (d.length : Int) > 60
  · exact ⟨false, 0, (fun h => by cases h), by rw [few33_f, if_pos hd]⟩
  · obtain ⟨b, k0, g, h⟩ := few33_l0 d (by omega) d.length 0 (by omega) (by omega)
    exact ⟨b, k0, fun hb => ⟨by omega, by simpa using g hb⟩, by rw [few33_f, if_neg hd]; exact h k0 (Nat.le_refl _)⟩
theorem getD_set69 (l : List S69) (i j : Nat) (y : S69) (hi : i < l.length) : (l.set i y).getD j z69 = if j = i then y else l.getD j z69 := by
  rw [List.getD_eq_getElem?_getD, List.getElem?_set, List.getD_eq_getElem?_getD]
  by_cases h : i = j
  · subst h; simp [hi]
  · rw [if_neg h, if_neg (fun e => h e.symm)]
theorem getD_app69 (l : List S69) (j : Nat) (y : S69) : (l ++ [y]).getD j z69 = if j = l.length then y else l.getD j z69 := by
  rw [List.getD_eq_getElem?_getD, List.getD_eq_getElem?_getD]
  by_cases h : j = l.length
  · subst h; simp
  · rw [if_neg h]
    by_cases h2 : j < l.length
    · rw [List.getElem?_append_left h2]
    · rw [List.getElem?_eq_none (by simp; omega), List.getElem?_eq_none (by omega)]
theorem findE_iff (s : WS) (n g : Int) : findE s n g = 0 ↔ ∃ i : Nat, n = i ∧ 1 ≤ i ∧ i < s.now.length ∧ (s.now.getD i z69).f1 = true ∧ (s.now.getD i z69).f0 = g := by
  constructor
  · exact findE_zero
  · rintro ⟨i, rfl, h1, h2, h3, h4⟩
    unfold findE
    rw [if_neg (by omega), Int.toNat_natCast, if_neg (by rw [h3]; simp), if_neg (by rw [h4]; simp)]
theorem least_free {xs : List S69} (h : leastN xs ≠ 0) : 0 < leastN xs ∧ leastN xs < xs.length ∧ (xs.getD (leastN xs) z69).f1 = false ∧ (xs.getD (leastN xs) z69).f0 < 65535 := by
  refine ⟨by omega, least_lt h, ?_⟩
  unfold leastN at *
  cases hf : (List.range xs.length).find? (fun n => decide (0 < n) && freeS (xs.getD n z69)) with
  | none => rw [hf] at h; exact absurd rfl h
  | some k =>
    have := List.find?_some hf
    simp only [Option.getD_some]
    simp only [freeS, Bool.and_eq_true, decide_eq_true_eq, Bool.not_eq_true'] at this
    exact this.2
structure Fresh (s : WS) (told gone : List (Int × Int)) : Prop where
  ok : OkS s
  most : s.most = 20
  len : s.now.length ≤ 21
  dead : ∀ i : Nat, (s.now.getD i z69).f1 = false → (s.now.getD i z69).f2 = z35
  pos : ∀ i : Nat, (s.now.getD i z69).f1 = true → 1 ≤ i ∧ i < s.now.length
  live : ∀ i : Nat, (s.now.getD i z69).f1 = true → ((i : Int), (s.now.getD i z69).f0) ∈ told
  names : ∀ t ∈ told, ∃ i : Nat, t.1 = i ∧ 1 ≤ i ∧ i < s.now.length ∧ t.2 ≤ (s.now.getD i z69).f0 ∧ (t.2 = (s.now.getD i z69).f0 → (s.now.getD i z69).f1 = true ∨ (s.now.getD i z69).f0 = 65535)
  find : ∀ t ∈ told, findE s t.1 t.2 = 0 ↔ t ∉ gone
  sub : ∀ t ∈ gone, t ∈ told
theorem Fresh.same {s s' : WS} {told gone : List (Int × Int)} (h : Fresh s told gone) (ho : OkS s') (hm : s'.most = s.most) (hl : s'.now.length = s.now.length)
    (he : ∀ i : Nat, (s'.now.getD i z69).f0 = (s.now.getD i z69).f0 ∧ (s'.now.getD i z69).f1 = (s.now.getD i z69).f1 ∧ ((s.now.getD i z69).f1 = false → (s'.now.getD i z69).f2 = (s.now.getD i z69).f2)) : Fresh s' told gone := by
  refine ⟨ho, hm.trans h.most, by rw [hl]; exact h.len, fun i hi => ?_, fun i hi => ?_, fun i hi => ?_, fun t ht => ?_, fun t ht => ?_, h.sub⟩
  · rw [(he i).2.1] at hi
    rw [(he i).2.2 hi]
    exact h.dead i hi
  · rw [(he i).2.1] at hi
    rw [hl]
    exact h.pos i hi
  · rw [(he i).2.1] at hi
    rw [(he i).1]
    exact h.live i hi
  · obtain ⟨i, h1, h2, h3, h4, h5⟩ := h.names t ht
    exact ⟨i, h1, h2, by rw [hl]; exact h3, by rw [(he i).1]; exact h4, by rw [(he i).1, (he i).2.1]; exact h5⟩
  · rw [← h.find t ht, findE_iff, findE_iff]
    constructor
    · rintro ⟨i, h1, h2, h3, h4, h5⟩
      exact ⟨i, h1, h2, by rw [← hl]; exact h3, by rw [← (he i).2.1]; exact h4, by rw [← (he i).1]; exact h5⟩
    · rintro ⟨i, h1, h2, h3, h4, h5⟩
      exact ⟨i, h1, h2, by rw [hl]; exact h3, by rw [(he i).2.1]; exact h4, by rw [(he i).1]; exact h5⟩
theorem fresh_settle {s : WS} {told gone : List (Int × Int)} (h : Fresh s told gone) : Fresh (settleW s) told gone := h.same (ok_settle h.ok) rfl rfl (fun _ => ⟨rfl, rfl, fun _ => rfl⟩)
theorem fresh_put {s : WS} {told gone : List (Int × Int)} (h : Fresh s told gone) (n g : Int) (v : S35) (hf : fewV v) : Fresh (putW s n g v) told gone := by
  refine h.same (ok_put h.ok n g v hf) (by unfold putW; split <;> rfl) (put_len s n g v) (fun j => ?_)
  unfold putW
  split
  · rename_i he
    have hz : findE s n g = 0 := by unfold putE at he; split at he <;> simp_all
    obtain ⟨i, rfl, _, hi, hlv, hg⟩ := findE_zero hz
    simp only [Int.toNat_natCast]
    rw [getD_set69 _ _ _ _ hi]
    by_cases hj : j = i
    · subst hj
      rw [if_pos rfl]
      exact ⟨hg.symm, hlv.symm, fun h => by rw [hlv] at h; cases h⟩
    · rw [if_neg hj]
      exact ⟨rfl, rfl, fun _ => rfl⟩
  · exact ⟨rfl, rfl, fun _ => rfl⟩
theorem fresh_del {s : WS} {told gone : List (Int × Int)} (h : Fresh s told gone) (n g : Int) (hz : findE s n g = 0) : Fresh (delW s n g) told (gone ++ [(n, g)]) := by
  have ho := ok_del h.ok n g
  obtain ⟨i, rfl, hi1, hi, hlv, hg⟩ := findE_zero hz
  have hin := h.live i hlv
  rw [hg] at hin
  have hox := okx_at h.ok.1 i
  have hb1 := hox.2.1
  have hb2 := hox.2.2
  rw [hg] at hb1 hb2
  have hd : delW s i g = { s with now := s.now.set i ⟨min (g + 1) 65535, false, z35⟩ } := by unfold delW; rw [if_pos hz]; simp
  rw [hd] at ho ⊢
  have hG : ∀ j : Nat, (s.now.set i ⟨min (g + 1) 65535, false, z35⟩).getD j z69 = if j = i then ⟨min (g + 1) 65535, false, z35⟩ else s.now.getD j z69 := fun j => getD_set69 _ _ _ _ hi
  refine ⟨ho, h.most, by simpa using h.len, fun j hj => ?_, fun j hj => ?_, fun j hj => ?_, fun t ht => ?_, fun t ht => ?_, fun t ht => ?_⟩
  · simp only [hG] at hj ⊢
    by_cases e : j = i
    · rw [if_pos e]
    · rw [if_neg e] at hj ⊢; exact h.dead j hj
  · simp only [hG] at hj
    by_cases e : j = i
    · rw [if_pos e] at hj; cases hj
    · rw [if_neg e] at hj; simpa using h.pos j hj
  · simp only [hG] at hj ⊢
    by_cases e : j = i
    · rw [if_pos e] at hj; cases hj
    · rw [if_neg e] at hj ⊢; exact h.live j hj
  · obtain ⟨j, h1, h2, h3, h4, h5⟩ := h.names t ht
    refine ⟨j, h1, h2, by simpa using h3, ?_⟩
    simp only [hG]
    by_cases e : j = i
    · subst e
      rw [if_pos rfl]
      rw [hg] at h4 h5
      simp only []
      refine ⟨by omega, fun e2 => .inr (by omega)⟩
    · rw [if_neg e]; exact ⟨h4, h5⟩
  · obtain ⟨j, h1, h2, h3, h4, h5⟩ := h.names t ht
    have hf := h.find t ht
    rw [findE_iff] at hf ⊢
    by_cases e : j = i
    · subst e
      constructor
      · rintro ⟨j', e1, _, _, e4, _⟩
        have : j' = j := by omega
        subst this
        simp only [hG, if_pos] at e4
        cases e4
      · intro hn
        exfalso
        apply hn
        by_cases eg : t.2 = g
        · exact List.mem_append_right _ (by simp; exact Prod.ext h1 eg)
        · refine List.mem_append_left _ (Classical.byContradiction fun hn2 => ?_)
          obtain ⟨j', e1, _, _, _, e5⟩ := hf.2 hn2
          have : j' = j := by omega
          subst this
          rw [hg] at e5
          exact eg e5.symm
    · have hne : t ≠ ((i : Int), g) := fun e2 => e (by rw [e2] at h1; simp at h1; omega)
      have hm : (t ∉ gone ++ [((i : Int), g)]) ↔ t ∉ gone := by simp [hne]
      rw [hm, ← hf]
      constructor
      · rintro ⟨j', e1, e2, e3, e4, e5⟩
        have : j' = j := by omega
        subst this
        simp only [hG, if_neg e] at e4 e5
        exact ⟨j', e1, e2, by simpa using e3, e4, e5⟩
      · rintro ⟨j', e1, e2, e3, e4, e5⟩
        have : j' = j := by omega
        subst this
        exact ⟨j', e1, e2, by simpa using e3, by simp only [hG, if_neg e]; exact e4, by simp only [hG, if_neg e]; exact e5⟩
  · rcases List.mem_append.1 ht with ht | ht
    · exact h.sub t ht
    · obtain rfl := List.mem_singleton.1 ht
      exact hin
theorem del_not (s : WS) (n g : Int) (hz : findE s n g ≠ 0) : delW s n g = s := by unfold delW; rw [if_neg hz]
theorem alloc_no {s : WS} (h : (allocR s).2.2 ≠ 0) : (allocR s).2.2 = 14 ∧ allocS s = s := by
  unfold allocR at *
  unfold allocS
  split
  · rename_i h1; rw [if_pos h1] at h; exact absurd rfl h
  · rename_i h1
    rw [if_neg h1] at h
    split
    · exact ⟨rfl, rfl⟩
    · rename_i h2; rw [if_neg h2] at h; exact absurd rfl h
theorem fresh_add {s s' : WS} {told gone : List (Int × Int)} (h : Fresh s told gone) (n : Nat) (g : Int) (v : S35) (ho : OkS s') (hm : s'.most = s.most) (hl : s'.now.length ≤ 21) (hls : s.now.length ≤ s'.now.length) (hn : 1 ≤ n) (hnl : n < s'.now.length) (hle : ∀ j, j < s'.now.length → j ≠ n → j < s.now.length)
    (hG : ∀ j : Nat, s'.now.getD j z69 = if j = n then ⟨g, true, v⟩ else s.now.getD j z69) (hno : ((n : Int), g) ∉ told) (hold : n < s.now.length → (s.now.getD n z69).f1 = false ∧ (s.now.getD n z69).f0 = g) :
    Fresh s' (told ++ [((n : Int), g)]) gone := by
  refine ⟨ho, hm.trans h.most, hl, fun j hj => ?_, fun j hj => ?_, fun j hj => ?_, fun t ht => ?_, fun t ht => ?_, fun t ht => List.mem_append_left _ (h.sub t ht)⟩
  · simp only [hG] at hj ⊢
    by_cases e : j = n
    · rw [if_pos e] at hj; cases hj
    · rw [if_neg e] at hj ⊢; exact h.dead j hj
  · simp only [hG] at hj
    by_cases e : j = n
    · subst e; exact ⟨hn, hnl⟩
    · rw [if_neg e] at hj
      have := h.pos j hj
      omega
  · simp only [hG] at hj ⊢
    by_cases e : j = n
    · subst e; rw [if_pos rfl]; exact List.mem_append_right _ (by simp)
    · rw [if_neg e] at hj ⊢; exact List.mem_append_left _ (h.live j hj)
  · rcases List.mem_append.1 ht with ht | ht
    · obtain ⟨j, h1, h2, h3, h4, h5⟩ := h.names t ht
      refine ⟨j, h1, h2, by omega, ?_⟩
      simp only [hG]
      by_cases e : j = n
      · subst e
        rw [if_pos rfl]
        rw [(hold h3).2] at h4
        exact ⟨h4, fun _ => .inl rfl⟩
      · rw [if_neg e]; exact ⟨h4, h5⟩
    · obtain rfl := List.mem_singleton.1 ht
      refine ⟨n, rfl, hn, hnl, ?_⟩
      simp only [hG, if_pos]
      exact ⟨Int.le_refl _, fun _ => by simp⟩
  · rcases List.mem_append.1 ht with ht2 | ht2
    · obtain ⟨j, h1, h2, h3, h4, h5⟩ := h.names t ht2
      rw [← h.find t ht2, findE_iff, findE_iff]
      by_cases e : j = n
      · subst e
        constructor
        · rintro ⟨j', e1, _, _, _, e5⟩
          have : j' = j := by omega
          subst this
          simp only [hG, if_pos] at e5
          exact absurd (show ((j' : Int), g) ∈ told by rw [e5, ← e1]; exact ht2) hno
        · rintro ⟨j', e1, _, _, e4, _⟩
          have : j' = j := by omega
          subst this
          rw [(hold h3).1] at e4
          cases e4
      · constructor
        · rintro ⟨j', e1, e2, e3, e4, e5⟩
          have : j' = j := by omega
          subst this
          simp only [hG, if_neg e] at e4 e5
          exact ⟨j', e1, e2, h3, e4, e5⟩
        · rintro ⟨j', e1, e2, e3, e4, e5⟩
          have : j' = j := by omega
          subst this
          exact ⟨j', e1, e2, by omega, by simp only [hG, if_neg e]; exact e4, by simp only [hG, if_neg e]; exact e5⟩
    · obtain rfl := List.mem_singleton.1 ht2
      refine ⟨fun _ hg => hno (h.sub _ hg), fun _ => ?_⟩
      rw [findE_iff]
      exact ⟨n, rfl, hn, hnl, by simp only [hG, if_pos], by simp only [hG, if_pos]⟩
theorem plain_z35 : plain z35 = z35 := by rw [plain_eq]; simp [z35]
theorem fresh_alloc {s : WS} {told gone : List (Int × Int)} (h : Fresh s told gone) (h0 : (allocR s).2.2 = 0) :
    Fresh (allocS s) (told ++ [((allocR s).1, (allocR s).2.1)]) gone ∧ ((allocR s).1, (allocR s).2.1) ∉ told ∧ findE (allocS s) (allocR s).1 (allocR s).2.1 = 0 ∧ (getW (allocS s) (allocR s).1 (allocR s).2.1).f0 = 0 := by
  have ho := ok_alloc h.ok
  by_cases hn : leastN s.now ≠ 0
  · obtain ⟨hp, hlt, hf1, hf0⟩ := least_free hn
    have hR : allocR s = ((leastN s.now : Int), (s.now.getD (leastN s.now) z69).f0, 0) := by unfold allocR; rw [if_pos hn]
    have hS : allocS s = { s with now := s.now.set (leastN s.now) ⟨(s.now.getD (leastN s.now) z69).f0, true, (s.now.getD (leastN s.now) z69).f2⟩ } := by unfold allocS; rw [if_pos hn]
    rw [hS] at ho ⊢
    rw [hR]
    generalize leastN s.now = n at *
    have hv := h.dead n hf1
    have hno : ((n : Int), (s.now.getD n z69).f0) ∉ told := fun ht => by
      obtain ⟨j, h1, h2, h3, h4, h5⟩ := h.names _ ht
      have : j = n := by simp at h1; omega
      subst this
      rcases h5 rfl with h5 | h5
      · rw [hf1] at h5; cases h5
      · omega
    have hG := fun j => getD_set69 s.now n j ⟨(s.now.getD n z69).f0, true, (s.now.getD n z69).f2⟩ hlt
    have hf : findE { s with now := s.now.set n ⟨(s.now.getD n z69).f0, true, (s.now.getD n z69).f2⟩ } (n : Int) (s.now.getD n z69).f0 = 0 := by
      rw [findE_iff]
      exact ⟨n, rfl, hp, by simpa using hlt, by simp only [hG, if_pos], by simp only [hG, if_pos]⟩
    refine ⟨fresh_add h n _ _ ho rfl (by simpa using h.len) (by simp) hp (by simpa using hlt) (fun j hj _ => by simpa using hj) hG hno (fun _ => ⟨hf1, rfl⟩), hno, hf, ?_⟩
    unfold getW
    rw [if_pos hf]
    simp only [Int.toNat_natCast, hG, if_pos]
    rw [hv, plain_z35]
    rfl
  · have hn' : leastN s.now = 0 := by omega
    by_cases hm : s.most < (s.now.length : Int)
    · exfalso
      unfold allocR at h0
      rw [if_neg hn, if_pos hm] at h0
      cases h0
    · have hR : allocR s = ((s.now.length : Int), 0, 0) := by unfold allocR; rw [if_neg hn, if_neg hm]
      have hS : allocS s = { s with now := s.now ++ [⟨0, true, z35⟩] } := by unfold allocS; rw [if_neg hn, if_neg hm]
      rw [hS] at ho ⊢
      rw [hR]
      have hmo := h.most
      have hp := h.ok.2.2.1
      have hno : ((s.now.length : Int), (0 : Int)) ∉ told := fun ht => by
        obtain ⟨j, h1, h2, h3, _⟩ := h.names _ ht
        simp at h1
        omega
      have hG := fun j => getD_app69 s.now j ⟨0, true, z35⟩
      have hf : findE { s with now := s.now ++ [⟨0, true, z35⟩] } (s.now.length : Int) 0 = 0 := by
        rw [findE_iff]
        exact ⟨s.now.length, rfl, hp, by simp, by simp only [hG, if_pos], by simp only [hG, if_pos]⟩
      refine ⟨fresh_add h s.now.length 0 z35 ho rfl (by simp; omega) (by simp) hp (by simp) (fun j hj hne => by simp at hj; omega) hG hno (fun hlt => absurd hlt (Nat.lt_irrefl _)), hno, hf, ?_⟩
      unfold getW
      rw [if_pos hf]
      simp only [Int.toNat_natCast, hG, if_pos]
      rw [plain_z35]
      rfl
theorem fresh_new : Fresh (newW [] 0 0 20) [] [] := by
  have hn : (newW [] 0 0 20).now = [z69] := rfl
  refine ⟨ok_new (fun x hx => by simp at hx) rfl, rfl, by rw [hn]; simp, fun i _ => ?_, fun i hi => ?_, fun i hi => ?_, fun t ht => by simp at ht, fun t ht => by simp at ht, fun t ht => by simp at ht⟩
  · rw [hn]
    cases i <;> rfl
  · rw [hn] at hi
    cases i <;> cases hi
  · rw [hn] at hi
    cases i <;> cases hi
end Go.Proofs.Ytogpnkkoablmiaa.V
end
section
namespace Go.Proofs.Ytogpnkkoablmiaa.V
open Go.Proofs.Ytogpnkkoablmiaa.P Go.Shelf Go.RowKit Go.Lib Go.Sort Go.Proofs.Ytogpnkkoablmiaa.Q Go.Proofs.YtogpnkkoablmiaaW.PrintWords Go.Proofs.YtogpnkkoablmiaaW.PrintLast Go.Proofs.YtogpnkkoablmiaaW.PrintMore
set_option linter.unusedVariables false
set_option linter.unusedSimpArgs false
attribute [local go_sem high] eqA28
attribute [local go_sem] nzv_ne nzv_beq nzv_bne
attribute [local go_sem] Oper.semAt_some
theorem own_slice {W : World} {base e size n : Nat} {v : Value} {xs : List Value} (h : W.ownsRow base e size v n xs) : ∃ A c, v = .slice A n c ∧ n ≤ c := by
  rcases h.2 with ⟨h1, h2⟩ | ⟨g, cap, cur, h1, _, _, h2, _⟩
  · have h0 : n = 0 := by simpa using h2
    subst h0
    exact ⟨none, 0, h1, Nat.le_refl _⟩
  · exact ⟨_, cap, h1, by omega⟩
theorem own_reads28 {W : World} {base n c : Nat} {A : Option Addr} {ts : List (Int × Int)} (h : W.ownsRow base 28 2 (.slice A n c) ts.length (flat ts)) : Kd.C k28 W A ts.length (refs ts) ∧ n = ts.length ∧ n ≤ c := by
  obtain ⟨A', c', he, hc⟩ := own_slice h
  injection he with e1 e2 e3
  subst e1; subst e2; subst e3
  obtain ⟨A', c', he, hl, hC⟩ := Kd.R_reads (R28_of h)
  injection he with e1 e2 e3
  subst e1
  rw [refs_len] at hC
  exact ⟨hC, rfl, hc⟩
theorem has33_calls {W : World} {base : Nat} {v : Value} {ts : List (Int × Int)} (a b : Int) (h : W.ownsRow base 28 2 v ts.length (flat ts)) (hl : ts.length ≤ 90000) : Calls Try.prog 22 #[v, .agg #[.int .i64 a, .int .i64 b]] W fun e w' => e = .returned (.bool (hasB ts a b)) ∧ RowKit.Below W.heap.size W w' := by
  obtain ⟨A, c, rfl, hc⟩ := own_slice h
  obtain ⟨hC, _, _⟩ := own_reads28 h
  have hk := has_f ts a b hl
  have e := refs_len ts
  have K := binderylaw33_has.calls (ts.length + 1) A c (refs ts) a b (hasB ts a b) W (by rw [e]; exact hC) (by rw [e]; exact hc) hk
  rw [e] at K
  exact K
theorem told_at {W : World} {base n c : Nat} {A : Option Addr} {ts : List (Int × Int)} (h : W.ownsRow base 28 2 (.slice A n c) ts.length (flat ts)) (j : Nat) (hj : j < n) : ∃ ad, A = some ad ∧ W.cell? (ad.add (j * 2)) = some (.int .i64 (ts.getD j (0, 0)).1) ∧ W.cell? ⟨(ad.add (j * 2)).block, (ad.add (j * 2)).off + 1, none⟩ = some (.int .i64 (ts.getD j (0, 0)).2) := by
  obtain ⟨hC, hn, _⟩ := own_reads28 h
  obtain ⟨ad, rfl, h0, h1⟩ := at_T28 hC (j : Int) (by omega) (by omega)
  have e : rd_T28 (refs ts) (j : Int) = ⟨(ts.getD j (0, 0)).1, (ts.getD j (0, 0)).2⟩ := by
    unfold rd_T28 refs
    rw [Int.toNat_natCast, List.getD_eq_getElem?_getD, List.getElem?_map, List.getElem?_eq_getElem (by omega), List.getD_eq_getElem?_getD, List.getElem?_eq_getElem (by omega)]
    rfl
  rw [e, Int.toNat_natCast] at h0 h1
  exact ⟨ad, rfl, h0, h1⟩
theorem more28 {b0 wb : Nat} {s : WS} {W W' : World} {v v' u : Value} {ts gs : List (Int × Int)} {a b : Int} (hk : Wk b0 wb (fun j => some j = v.ownBlock ∨ some j = u.ownBlock) s W) (hv : W.ownsRow b0 28 2 v ts.length (flat ts)) (hu : W.ownsRow b0 28 2 u gs.length (flat gs)) (hd : ∀ j, some j = v.ownBlock → some j ≠ u.ownBlock)
    (ho : W'.ownsRow b0 28 2 v' (ts.length + 1) (flat ts ++ [.int .i64 a, .int .i64 b])) (hg : W.grownBy W' v.ownBlock) (hb : v'.ownBlock = v.ownBlock ∨ v'.ownBlock = some W.heap.size) :
    Wk b0 wb (fun j => some j = v'.ownBlock ∨ some j = u.ownBlock) s W' ∧ W'.ownsRow b0 28 2 v' (ts ++ [(a, b)]).length (flat (ts ++ [(a, b)])) ∧ W'.ownsRow b0 28 2 u gs.length (flat gs) ∧ (∀ j, some j = v'.ownBlock → some j ≠ u.ownBlock) ∧ RowKit.Below b0 W W' := by
  have hul : ∀ j, some j = u.ownBlock → j < W.heap.size := fun j hj => (hu.lt j hj.symm).2
  refine ⟨(hk.grown hg (fun r e => .inl e.symm)).frees (fun j hj => ?_), ?_, own_move hu (fun k hk' => hg.block k (hul k hk'.symm) (fun e => hd k e hk'.symm)), fun j hj hj2 => ?_, (RowKit.Below.refl b0 W).grown hg ?_ (fun k hk' => (hv.lt k hk').1)⟩
  · rcases hj with hj | hj
    · rcases hb with hb | hb
      · rw [hb] at hj; exact .inl (.inl hj)
      · rw [hb] at hj; cases hj
        exact .inr ⟨Nat.le_refl _, (ho.lt _ hb).2⟩
    · exact .inl (.inr hj)
  · rw [List.length_append, flat_snoc]
    exact ho
  · rcases hb with hb | hb
    · rw [hb] at hj; exact hd j hj hj2
    · rw [hb] at hj; cases hj
      exact absurd (hul _ hj2) (Nat.lt_irrefl _)
  · obtain ⟨L, _, hw, _⟩ := hk
    exact Nat.le_trans hw.1 (Nat.le_of_lt hw.lt.1)
set_option maxHeartbeats 20000000 in
set_option maxRecDepth 100000 in
theorem fresh_calls (l : List S37) (A : Option Addr) (c : Nat) (w : World) (hc : l.length ≤ c) (hr : Kd.C k37 w A l.length l) : Calls Try.prog 3 #[.slice A l.length c] w fun e w' => e = .returned (.bool true) ∧ RowKit.Below w.heap.size w w' := by
  have hu28 := Try.underlying28
  have hu31 := Try.underlying31
  have hu35 := Try.underlying35
  have hu23 := Try.underlying23
  have hu37 := Try.underlying37
  have hu22 := Try.underlying22
  obtain ⟨i0, hi, hz0, hz1, hz2⟩ := info_parts info28
  have HI := Aside0.mk (And.intro hi (And.intro hz0 (And.intro hz1 hz2)))
  clear hi hz0 hz1 hz2
  obtain ⟨b, kf, hbf, hkf⟩ := few33_all l
  have HR := Aside0.mk hr
  have HBF := Aside0.mk hbf
  have HLM := Aside0.mk hr.2.1
  have KN := Aside0.mk (L_new (b := []) (A := none) (c := 0) (rn := 0) (rg := 0) (most := 20) (w := w) (Kd.F_now (Kd.F_nil k69 w (fun _ => True))) (by simp) (fun x hx => by simp at hx) rfl)
  have KF := Aside0.mk (fun (W : World) (hb : RowKit.Below w.heap.size w W) => binderylaw33_Few.calls kf A c l b W (Kd.C_below hr hb) hc hkf)
  clear hr hbf hkf
  go_enter Try.func3, Try.ntmps3
  go_wp2_with fail
  refine Calls.mono KN.out ?_
  rintro e w1 ⟨wb, rfl, hk, hb⟩
  have HB := Aside0.mk hb
  have HK := Aside0.mk hk
  clear hk hb KN
  go_wp2_with fail
  refine Calls.mono (KF.out w1 HB.out) ?_
  rintro e w2 ⟨rfl, hb⟩
  replace HK := Aside0.mk (HK.out.below hb)
  replace HB := Aside0.mk (HB.out.trans (hb.mono HB.out.size))
  clear hb KF
  cases b
  case false =>
    go_wp2_with fail
    refine Calls.mono (works_calls w2) ?_
    rintro e w3 ⟨rfl, hb⟩
    replace HB := Aside0.mk (HB.out.trans (hb.mono HB.out.size))
    clear hb
    go_wp2
    go_ret
    exact ⟨rfl, HB.out⟩
  have HF := Aside0.mk (HBF.out rfl)
  have hl60 : l.length ≤ 60 := HF.out.1
  obtain ⟨N, hN⟩ : ∃ N, N = l.length := ⟨_, rfl⟩
  rw [← hN] at hl60 ⊢
  have HN := Aside0.mk hN
  have HL60 := Aside0.mk hl60
  have W0 := Aside0.mk (show Wk w.heap.size wb (fun j => some j = (Value.slice none 0 0).ownBlock ∨ some j = (Value.slice none 0 0).ownBlock) (newW [] 0 0 20) w2 from HK.out.frees (fun k hk => by rcases hk with hk | hk <;> simp [Value.ownBlock] at hk))
  clear hN hl60 HBF
  go_wp2
  go_loopw [5, 6, 7] (fun v5 v6 i wr => ∃ (k : Nat) (s : WS) (ts gs : List (Int × Int)), k ≤ N ∧ i = .int .i64 k ∧ Aside0 (Fresh s ts gs) ∧ Aside0 (Wk w.heap.size wb (fun j => some j = v5.ownBlock ∨ some j = v6.ownBlock) s wr) ∧ Aside0 (RowKit.Below w.heap.size w wr) ∧ Aside0 (wr.ownsRow w.heap.size 28 2 v5 ts.length (flat ts)) ∧ Aside0 (wr.ownsRow w.heap.size 28 2 v6 gs.length (flat gs)) ∧ Aside0 (ts.length ≤ k ∧ gs.length ≤ k ∧ ∀ j, some j = v5.ownBlock → some j ≠ v6.ownBlock)) (fun _ _ i _ => N - (intOf i).toNat)
  case atStart =>
    exact ⟨0, _, [], [], Nat.zero_le _, rfl, ⟨fresh_new⟩, W0, HB, ⟨⟨rfl, .inl ⟨rfl, rfl⟩⟩⟩, ⟨⟨rfl, .inl ⟨rfl, rfl⟩⟩⟩, ⟨by simp, by simp, fun j hj => by simp [Value.ownBlock] at hj⟩⟩
  case round =>
    clear HB HK W0
    obtain ⟨k, s, ts, gs, hk, rfl, HI', HK, HB, HT, HG, HLN⟩ := hrel
    by_cases hlt : k < N
    · obtain ⟨ad, P4, p4, P5, p5, hA, y0, y1, y2, y3, y4, y5, y6, y7, y8, lp4, gp4, lp5, gp5⟩ := at_T37 (Kd.C_below HR.out HB.out) (k : Int) (by omega) (by have := HN.out; omega)
      subst hA
      simp only [rd_T37, Int.toNat_natCast] at y0 y1 y2 y3 y4 y5 y6 y7 y8 lp4 gp4 lp5 gp5
      have HXF := Aside0.mk (HF.out.2 _ (getD_mem l k (by have := HN.out; omega) z37))
      generalize l.getD k z37 = x at *
      obtain ⟨x0, ⟨x1, x2⟩, xv⟩ := x
      simp only [] at y0 y1 y2 y3 y4 y5 y6 y7 y8 lp4 gp4 lp5 gp5 HXF
      have hwk : wrap64 ((k : Int) + 1) = (k : Int) + 1 := by have := HL60.out; unfold wrap64; omega
      have HWK := Aside0.mk hwk
      have HV := Aside0.mk (show HasV xv P4 p4 P5 p5 wr from ⟨lp4, gp4, lp5, gp5⟩)
      have hNm : N ≤ 9223372036854775807 := by have := HL60.out; omega
      clear hwk lp4 gp4 lp5 gp5
      have hb1 := below_alloc (RowKit.Below.refl _ wr) (.cells #[.int .u8 x0, .int .i64 x1, .int .i64 x2, .int .i64 xv.f0, .int .i64 xv.f1, .int .i64 xv.f2, .string xv.f3, .slice P4 xv.f4.length p4, .slice P5 xv.f5.length p5] 37)
      have BX := Aside0.mk (blk_new wr (.cells #[.int .u8 x0, .int .i64 x1, .int .i64 x2, .int .i64 xv.f0, .int .i64 xv.f1, .int .i64 xv.f2, .string xv.f3, .slice P4 xv.f4.length p4, .slice P5 xv.f5.length p5] 37))
      replace HK := Aside0.mk (HK.out.below hb1)
      replace HT := Aside0.mk (HT.out.alloc (.cells #[.int .u8 x0, .int .i64 x1, .int .i64 x2, .int .i64 xv.f0, .int .i64 xv.f1, .int .i64 xv.f2, .string xv.f3, .slice P4 xv.f4.length p4, .slice P5 xv.f5.length p5] 37))
      replace HG := Aside0.mk (HG.out.alloc (.cells #[.int .u8 x0, .int .i64 x1, .int .i64 x2, .int .i64 xv.f0, .int .i64 xv.f1, .int .i64 xv.f2, .string xv.f3, .slice P4 xv.f4.length p4, .slice P5 xv.f5.length p5] 37))
      have HB0 := Aside0.mk HB.out.size
      replace HB := Aside0.mk (below_alloc HB.out (.cells #[.int .u8 x0, .int .i64 x1, .int .i64 x2, .int .i64 xv.f0, .int .i64 xv.f1, .int .i64 xv.f2, .string xv.f3, .slice P4 xv.f4.length p4, .slice P5 xv.f5.length p5] 37))
      replace HV := Aside0.mk (HV.out.below hb1)
      have hszn : wr.heap.size < (wr.alloc (.cells #[.int .u8 x0, .int .i64 x1, .int .i64 x2, .int .i64 xv.f0, .int .i64 xv.f1, .int .i64 xv.f2, .string xv.f3, .slice P4 xv.f4.length p4, .slice P5 xv.f5.length p5] 37)).heap.size := by simp
      clear hb1
      go_upto_region 9 with fail
      clear y0 y1 y2 y3 y4 y5 y6 y7 y8 hNm
      generalize hWr : wr.alloc _ = wn at *
      clear hWr
      obtain ⟨v0, v1, v2, v3, v4, v5', v6', v7, v8⟩ := box9 BX.out
      go_upto_block 2 with fail
      generalize x0.tmod 4 = m at *
      go_cut [5, 6] (fun u5 u6 wc => ∃ (s' : WS) (ts' gs' : List (Int × Int)), Aside0 (Fresh s' ts' gs') ∧ Aside0 (Wk w.heap.size wb (fun j => some j = u5.ownBlock ∨ some j = u6.ownBlock) s' wc) ∧ Aside0 (RowKit.Below w.heap.size w wc) ∧ Aside0 (wc.ownsRow w.heap.size 28 2 u5 ts'.length (flat ts')) ∧ Aside0 (wc.ownsRow w.heap.size 28 2 u6 gs'.length (flat gs')) ∧ Aside0 (ts'.length ≤ (k + 1) ∧ gs'.length ≤ (k + 1) ∧ ∀ j, some j = u5.ownBlock → some j ≠ u6.ownBlock))
      case first =>
        by_cases hm0 : m = 0
        · subst hm0
          have KA := L_alloc HK.out HB.out.size (by have := HI'.out.len; omega)
          have hRR : ∃ r, r = allocR s := ⟨_, rfl⟩
          obtain ⟨⟨rn, rg, re⟩, hR⟩ := hRR
          rw [← hR] at KA
          simp only [] at KA
          have HRR := Aside0.mk hR
          by_cases hz : re = 0
          · subst hz
            have hfa := fresh_alloc HI'.out (by rw [← hR])
            rw [← hR] at hfa
            simp only [] at hfa
            have HFA := Aside0.mk hfa
            have KA' := Aside0.mk KA
            clear hR hfa KA
            go_wp2_with fail
            refine Calls.mono KA'.out ?_
            rintro e w3 ⟨rfl, hk, hm⟩
            replace HB := Aside0.mk (HB.out.trans hm.1)
            replace HT := Aside0.mk (hm.row HT.out)
            replace HG := Aside0.mk (hm.row HG.out)
            have hb1 := below_alloc (RowKit.Below.refl _ w3) (.cells #[.int .i64 rn, .int .i64 rg] 28)
            have BR := Aside0.mk (blk_new w3 (.cells #[.int .i64 rn, .int .i64 rg] 28))
            replace HK := Aside0.mk (hk.below hb1)
            replace HB := Aside0.mk (HB.out.trans (hb1.mono HB.out.size))
            replace HT := Aside0.mk (HT.out.alloc (.cells #[.int .i64 rn, .int .i64 rg] 28))
            replace HG := Aside0.mk (HG.out.alloc (.cells #[.int .i64 rn, .int .i64 rg] 28))
            have hsz3 : w3.heap.size < (w3.alloc (.cells #[.int .i64 rn, .int .i64 rg] 28)).heap.size := by simp
            have KG := L_get (n := rn) (g := rg) HK.out HFA.out.1.ok
            rw [HFA.out.2.2.1] at KG
            have hg0 := HFA.out.2.2.2
            generalize getW (allocS s) rn rg = gv at *
            have KG' := Aside0.mk KG
            have HG0 := Aside0.mk hg0
            clear hk hm hb1 KG KA' v0 v1 v2 v3 v4 v5' v6' v7 v8 hg0
            obtain ⟨r0, r1⟩ := box2 BR.out
            go_wp2_with fail
            refine Calls.mono KG'.out ?_
            rintro e w4 ⟨q4, n4, q5, n5, rfl, -, hb⟩
            have hb1 := below_step hb (below_alloc (RowKit.Below.refl _ w4) (.cells #[.int .i64 gv.f0, .int .i64 gv.f1, .int .i64 gv.f2, .string gv.f3, .slice q4 gv.f4.length n4, .slice q5 gv.f5.length n5] 35))
            replace HK := Aside0.mk (HK.out.below hb1)
            have hbs := HB.out.size
            replace HB := Aside0.mk (HB.out.trans (hb1.mono hbs))
            replace HT := Aside0.mk (own_move HT.out (fun k hk => hb1.block k (HT.out.lt k hk).2))
            replace HG := Aside0.mk (own_move HG.out (fun k hk => hb1.block k (HG.out.lt k hk).2))
            replace BR := Aside0.mk (blk_below BR.out hb1)
            have BG := Aside0.mk (blk_new w4 (.cells #[.int .i64 gv.f0, .int .i64 gv.f1, .int .i64 gv.f2, .string gv.f3, .slice q4 gv.f4.length n4, .slice q5 gv.f5.length n5] 35))
            have hsz4 : w4.heap.size < (w4.alloc (.cells #[.int .i64 gv.f0, .int .i64 gv.f1, .int .i64 gv.f2, .string gv.f3, .slice q4 gv.f4.length n4, .slice q5 gv.f5.length n5] 35)).heap.size := by simp
            have hlR := blk_lt BR.out
            have KH := has33_calls rn rg HT.out (by have := HLN.out; have := HL60.out; omega)
            rw [show hasB ts rn rg = false from by cases hh : hasB ts rn rg; rfl; exact absurd ((hasB_iff _ _ _).1 hh) HFA.out.2.1] at KH
            have KH' := Aside0.mk KH
            clear hb hb1 hbs KH KG' r0 r1 hsz3
            obtain ⟨r0, r1⟩ := box2 BR.out
            go_wp2_with fail
            refine Calls.mono KH'.out ?_
            rintro e w5 ⟨rfl, hb⟩
            replace HK := Aside0.mk (HK.out.below hb)
            have hbs := HB.out.size
            replace HB := Aside0.mk (HB.out.trans (hb.mono hbs))
            replace HT := Aside0.mk (own_move HT.out (fun k hk => hb.block k (HT.out.lt k hk).2))
            replace HG := Aside0.mk (own_move HG.out (fun k hk => hb.block k (HG.out.lt k hk).2))
            replace BR := Aside0.mk (blk_below BR.out hb)
            replace BG := Aside0.mk (blk_below BG.out hb)
            clear hb hbs r0 r1 hsz4 hlR KH'
            obtain ⟨r0, r1⟩ := box2 BR.out
            obtain ⟨g0, g1, g2, g3, g4, g5⟩ := box35 BG.out
            rw [HG0.out] at g0
            have hlR := blk_lt BR.out
            have hlG := blk_lt BG.out
            have HKA := Aside0.mk (HK.out.below (below_alloc (RowKit.Below.refl _ w5) (.cells #[.int .i64 rn, .int .i64 rg] 28)))
            have HTA := Aside0.mk (HT.out.alloc (.cells #[.int .i64 rn, .int .i64 rg] 28))
            have HGA := Aside0.mk (HG.out.alloc (.cells #[.int .i64 rn, .int .i64 rg] 28))
            have HSZ := Aside0.mk (show w.heap.size ≤ (w5.alloc (.cells #[.int .i64 rn, .int .i64 rg] 28)).heap.size by rw [World.size_alloc]; have := HB.out.size; omega)
            have HBA := Aside0.mk (below_alloc HB.out (.cells #[.int .i64 rn, .int .i64 rg] 28))
            go_wp2_with (first | ((with_reducible refine gate_dst (N := 87) rfl ?_); refine wpList_append_own_at (w5.alloc (.cells #[.int .i64 rn, .int .i64 rg] 28)) rfl (.tmp 84) (.tmp 86) 31 rfl w.heap.size 28 i0 (.agg #[(.int .i64 0), (.int .i64 0)]) 2 16 Try.underlying31 HI.out.1 HI.out.2.1 HI.out.2.2.1 HI.out.2.2.2 rfl (by decide) u5 ts.length (flat ts) rfl HTA.out ⟨w5.heap.size, 0, none⟩ 1 1 [.int .i64 rn, .int .i64 rg] rfl rfl (cell_two_new _ _ _ _) (by simp [Value.oneCell']) (by have := HLN.out; have := HL60.out; simp only [maxLen]; omega) (by have := HLN.out; have := HL60.out; omega) HSZ.out ?_))
            intro v' w6 hown hgrow _ hbk
            have HM := Aside0.mk (more28 HKA.out HTA.out HGA.out HLN.out.2.2 hown hgrow (by rw [World.size_alloc]; exact hbk))
            clear hown hgrow hbk
            go_wp2
            go_meet
            exact ⟨_, _, _, ⟨HFA.out.1⟩, ⟨HM.out.1⟩, ⟨HBA.out.trans HM.out.2.2.2.2⟩, ⟨HM.out.2.1⟩, ⟨HM.out.2.2.1⟩, ⟨by rw [List.length_append]; have := HLN.out; simp; omega, by have := HLN.out; omega, HM.out.2.2.2.1⟩⟩
          · obtain ⟨h14, hS⟩ := alloc_no (s := s) (by rw [← hR]; exact hz)
            rw [← hR] at h14
            simp only [] at h14
            subst h14
            rw [hS] at KA
            have KA' := Aside0.mk KA
            clear hR hz hS KA
            go_wp2_with fail
            refine Calls.mono KA'.out ?_
            rintro e w3 ⟨rfl, hk, hm⟩
            replace HB := Aside0.mk (HB.out.trans hm.1)
            replace HT := Aside0.mk (hm.row HT.out)
            replace HG := Aside0.mk (hm.row HG.out)
            have hb1 := below_alloc (RowKit.Below.refl _ w3) (.cells #[.int .i64 rn, .int .i64 rg] 28)
            replace HK := Aside0.mk (hk.below hb1)
            replace HB := Aside0.mk (HB.out.trans (hb1.mono HB.out.size))
            replace HT := Aside0.mk (HT.out.alloc (.cells #[.int .i64 rn, .int .i64 rg] 28))
            replace HG := Aside0.mk (HG.out.alloc (.cells #[.int .i64 rn, .int .i64 rg] 28))
            clear hk hm hb1 KA' v0 v1 v2 v3 v4 v5' v6' v7 v8
            go_wp2
            exact ⟨⟨k + 1, s, ts, gs, by omega, by first | (rw [HWK.out]; simp; done) | (simp; done), HI', HK, HB, HT, HG, ⟨by have := HLN.out; omega, by have := HLN.out; omega, HLN.out.2.2⟩⟩, by first | (rw [HWK.out]; simp [intOf]; omega) | (simp [intOf]; omega)⟩
        · have hm0' : (m == 0) = false := by simpa using hm0
          by_cases hm1 : m = 1
          · subst hm1
            clear hm0 hm0'
            have KA := L_alloc HK.out HB.out.size (by have := HI'.out.len; omega)
            have hRR : ∃ r, r = allocR s := ⟨_, rfl⟩
            obtain ⟨⟨rn, rg, re⟩, hR⟩ := hRR
            rw [← hR] at KA
            simp only [] at KA
            have HRR := Aside0.mk hR
            by_cases hz : re = 0
            · subst hz
              have hfa := fresh_alloc HI'.out (by rw [← hR])
              rw [← hR] at hfa
              simp only [] at hfa
              have HFA := Aside0.mk hfa
              have KA' := Aside0.mk KA
              clear hR hfa KA
              go_wp2_with fail
              refine Calls.mono KA'.out ?_
              rintro e w3 ⟨rfl, hk, hm⟩
              replace HB := Aside0.mk (HB.out.trans hm.1)
              replace HT := Aside0.mk (hm.row HT.out)
              replace HG := Aside0.mk (hm.row HG.out)
              have hb1 := below_alloc (RowKit.Below.refl _ w3) (.cells #[.int .i64 rn, .int .i64 rg] 28)
              have BR := Aside0.mk (blk_new w3 (.cells #[.int .i64 rn, .int .i64 rg] 28))
              replace HK := Aside0.mk (hk.below hb1)
              replace HB := Aside0.mk (HB.out.trans (hb1.mono HB.out.size))
              replace HT := Aside0.mk (HT.out.alloc (.cells #[.int .i64 rn, .int .i64 rg] 28))
              replace HG := Aside0.mk (HG.out.alloc (.cells #[.int .i64 rn, .int .i64 rg] 28))
              have hsz3 : w3.heap.size < (w3.alloc (.cells #[.int .i64 rn, .int .i64 rg] 28)).heap.size := by simp
              have KG := L_get (n := rn) (g := rg) HK.out HFA.out.1.ok
              rw [HFA.out.2.2.1] at KG
              have hg0 := HFA.out.2.2.2
              generalize getW (allocS s) rn rg = gv at *
              have KG' := Aside0.mk KG
              have HG0 := Aside0.mk hg0
              clear hk hm hb1 KG KA' v0 v1 v2 v3 v4 v5' v6' v7 v8 hg0
              obtain ⟨r0, r1⟩ := box2 BR.out
              go_wp2_with fail
              refine Calls.mono KG'.out ?_
              rintro e w4 ⟨q4, n4, q5, n5, rfl, -, hb⟩
              have hb1 := below_step hb (below_alloc (RowKit.Below.refl _ w4) (.cells #[.int .i64 gv.f0, .int .i64 gv.f1, .int .i64 gv.f2, .string gv.f3, .slice q4 gv.f4.length n4, .slice q5 gv.f5.length n5] 35))
              replace HK := Aside0.mk (HK.out.below hb1)
              have hbs := HB.out.size
              replace HB := Aside0.mk (HB.out.trans (hb1.mono hbs))
              replace HT := Aside0.mk (own_move HT.out (fun k hk => hb1.block k (HT.out.lt k hk).2))
              replace HG := Aside0.mk (own_move HG.out (fun k hk => hb1.block k (HG.out.lt k hk).2))
              replace BR := Aside0.mk (blk_below BR.out hb1)
              have BG := Aside0.mk (blk_new w4 (.cells #[.int .i64 gv.f0, .int .i64 gv.f1, .int .i64 gv.f2, .string gv.f3, .slice q4 gv.f4.length n4, .slice q5 gv.f5.length n5] 35))
              have hsz4 : w4.heap.size < (w4.alloc (.cells #[.int .i64 gv.f0, .int .i64 gv.f1, .int .i64 gv.f2, .string gv.f3, .slice q4 gv.f4.length n4, .slice q5 gv.f5.length n5] 35)).heap.size := by simp
              have hlR := blk_lt BR.out
              have KH := has33_calls rn rg HT.out (by have := HLN.out; have := HL60.out; omega)
              rw [show hasB ts rn rg = false from by cases hh : hasB ts rn rg; rfl; exact absurd ((hasB_iff _ _ _).1 hh) HFA.out.2.1] at KH
              have KH' := Aside0.mk KH
              clear hb hb1 hbs KH KG' r0 r1 hsz3
              obtain ⟨r0, r1⟩ := box2 BR.out
              go_wp2_with fail
              refine Calls.mono KH'.out ?_
              rintro e w5 ⟨rfl, hb⟩
              replace HK := Aside0.mk (HK.out.below hb)
              have hbs := HB.out.size
              replace HB := Aside0.mk (HB.out.trans (hb.mono hbs))
              replace HT := Aside0.mk (own_move HT.out (fun k hk => hb.block k (HT.out.lt k hk).2))
              replace HG := Aside0.mk (own_move HG.out (fun k hk => hb.block k (HG.out.lt k hk).2))
              replace BR := Aside0.mk (blk_below BR.out hb)
              replace BG := Aside0.mk (blk_below BG.out hb)
              clear hb hbs r0 r1 hsz4 hlR KH'
              obtain ⟨r0, r1⟩ := box2 BR.out
              obtain ⟨g0, g1, g2, g3, g4, g5⟩ := box35 BG.out
              rw [HG0.out] at g0
              have hlR := blk_lt BR.out
              have hlG := blk_lt BG.out
              have HKA := Aside0.mk (HK.out.below (below_alloc (RowKit.Below.refl _ w5) (.cells #[.int .i64 rn, .int .i64 rg] 28)))
              have HTA := Aside0.mk (HT.out.alloc (.cells #[.int .i64 rn, .int .i64 rg] 28))
              have HGA := Aside0.mk (HG.out.alloc (.cells #[.int .i64 rn, .int .i64 rg] 28))
              have HSZ := Aside0.mk (show w.heap.size ≤ (w5.alloc (.cells #[.int .i64 rn, .int .i64 rg] 28)).heap.size by rw [World.size_alloc]; have := HB.out.size; omega)
              have HBA := Aside0.mk (below_alloc HB.out (.cells #[.int .i64 rn, .int .i64 rg] 28))
              go_wp2_with (first | ((with_reducible refine gate_dst (N := 87) rfl ?_); refine wpList_append_own_at (w5.alloc (.cells #[.int .i64 rn, .int .i64 rg] 28)) rfl (.tmp 84) (.tmp 86) 31 rfl w.heap.size 28 i0 (.agg #[(.int .i64 0), (.int .i64 0)]) 2 16 Try.underlying31 HI.out.1 HI.out.2.1 HI.out.2.2.1 HI.out.2.2.2 rfl (by decide) u5 ts.length (flat ts) rfl HTA.out ⟨w5.heap.size, 0, none⟩ 1 1 [.int .i64 rn, .int .i64 rg] rfl rfl (cell_two_new _ _ _ _) (by simp [Value.oneCell']) (by have := HLN.out; have := HL60.out; simp only [maxLen]; omega) (by have := HLN.out; have := HL60.out; omega) HSZ.out ?_))
              intro v' w6 hown hgrow _ hbk
              have HM := Aside0.mk (more28 HKA.out HTA.out HGA.out HLN.out.2.2 hown hgrow (by rw [World.size_alloc]; exact hbk))
              clear hown hgrow hbk
              go_wp2
              go_meet
              exact ⟨_, _, _, ⟨HFA.out.1⟩, ⟨HM.out.1⟩, ⟨HBA.out.trans HM.out.2.2.2.2⟩, ⟨HM.out.2.1⟩, ⟨HM.out.2.2.1⟩, ⟨by rw [List.length_append]; have := HLN.out; simp; omega, by have := HLN.out; omega, HM.out.2.2.2.1⟩⟩
            · obtain ⟨h14, hS⟩ := alloc_no (s := s) (by rw [← hR]; exact hz)
              rw [← hR] at h14
              simp only [] at h14
              subst h14
              rw [hS] at KA
              have KA' := Aside0.mk KA
              clear hR hz hS KA
              go_wp2_with fail
              refine Calls.mono KA'.out ?_
              rintro e w3 ⟨rfl, hk, hm⟩
              replace HB := Aside0.mk (HB.out.trans hm.1)
              replace HT := Aside0.mk (hm.row HT.out)
              replace HG := Aside0.mk (hm.row HG.out)
              have hb1 := below_alloc (RowKit.Below.refl _ w3) (.cells #[.int .i64 rn, .int .i64 rg] 28)
              replace HK := Aside0.mk (hk.below hb1)
              replace HB := Aside0.mk (HB.out.trans (hb1.mono HB.out.size))
              replace HT := Aside0.mk (HT.out.alloc (.cells #[.int .i64 rn, .int .i64 rg] 28))
              replace HG := Aside0.mk (HG.out.alloc (.cells #[.int .i64 rn, .int .i64 rg] 28))
              clear hk hm hb1 KA' v0 v1 v2 v3 v4 v5' v6' v7 v8
              go_wp2
              exact ⟨⟨k + 1, s, ts, gs, by omega, by first | (rw [HWK.out]; simp; done) | (simp; done), HI', HK, HB, HT, HG, ⟨by have := HLN.out; omega, by have := HLN.out; omega, HLN.out.2.2⟩⟩, by first | (rw [HWK.out]; simp [intOf]; omega) | (simp [intOf]; omega)⟩
          · have hm1' : (m == 1) = false := by simpa using hm1
            by_cases hm2 : m = 2
            · subst hm2
              clear hm0 hm0' hm1 hm1'
              have KD := L_delete (n := x1) (g := x2) HK.out HB.out.size HI'.out.ok
              by_cases hz : findE s x1 x2 = 0
              · rw [hz] at KD
                have HFD := Aside0.mk (fresh_del HI'.out x1 x2 hz)
                have KD' := Aside0.mk KD
                clear KD hz
                go_wp2_with fail
                refine Calls.mono KD'.out ?_
                rintro e w3 ⟨rfl, hk, hm⟩
                replace HB := Aside0.mk (HB.out.trans hm.1)
                replace HT := Aside0.mk (hm.row HT.out)
                replace HG := Aside0.mk (hm.row HG.out)
                replace BX := Aside0.mk (hm.blk BX.out)
                clear v0 v1 v2 v3 v4 v5' v6' v7 v8 KD' hm
                obtain ⟨v0, v1, v2, v3, v4, v5', v6', v7, v8⟩ := box9 BX.out
                have hlX := blk_lt BX.out
                have HKA := Aside0.mk ((hk.frees (Y := (fun j => some j = u6.ownBlock ∨ some j = u5.ownBlock)) (fun j hj => hj.symm)).below (below_alloc (RowKit.Below.refl _ w3) (.cells #[.int .i64 x1, .int .i64 x2] 28)))
                have HTA := Aside0.mk (HG.out.alloc (.cells #[.int .i64 x1, .int .i64 x2] 28))
                have HGA := Aside0.mk (HT.out.alloc (.cells #[.int .i64 x1, .int .i64 x2] 28))
                have HSZ := Aside0.mk (show w.heap.size ≤ (w3.alloc (.cells #[.int .i64 x1, .int .i64 x2] 28)).heap.size by rw [World.size_alloc]; have := HB.out.size; omega)
                have HBA := Aside0.mk (below_alloc HB.out (.cells #[.int .i64 x1, .int .i64 x2] 28))
                clear hk
                go_wp2_with (first | ((with_reducible refine gate_dst (N := 99) rfl ?_); refine wpList_append_own_at (w3.alloc (.cells #[.int .i64 x1, .int .i64 x2] 28)) rfl (.tmp 95) (.tmp 98) 31 rfl w.heap.size 28 i0 (.agg #[(.int .i64 0), (.int .i64 0)]) 2 16 Try.underlying31 HI.out.1 HI.out.2.1 HI.out.2.2.1 HI.out.2.2.2 rfl (by decide) u6 gs.length (flat gs) rfl HTA.out ⟨w3.heap.size, 0, none⟩ 1 1 [.int .i64 x1, .int .i64 x2] rfl rfl (cell_two_new _ _ _ _) (by simp [Value.oneCell']) (by have := HLN.out; have := HL60.out; simp only [maxLen]; omega) (by have := HLN.out; have := HL60.out; omega) HSZ.out ?_))
                intro v' w6 hown hgrow _ hbk
                have HM := Aside0.mk (more28 HKA.out HTA.out HGA.out (fun j h1 h2 => HLN.out.2.2 j h2 h1) hown hgrow (by rw [World.size_alloc]; exact hbk))
                clear hown hgrow hbk
                go_wp2
                go_meet
                exact ⟨_, _, _, ⟨HFD.out⟩, ⟨HM.out.1.frees (fun j hj => hj.symm)⟩, ⟨HBA.out.trans HM.out.2.2.2.2⟩, ⟨HM.out.2.2.1⟩, ⟨HM.out.2.1⟩, ⟨by have := HLN.out; omega, by rw [List.length_append]; have := HLN.out; simp; omega, fun j h1 h2 => HM.out.2.2.2.1 j h2 h1⟩⟩
              · rw [del_not s x1 x2 hz] at KD
                obtain ⟨fe, hfe⟩ : ∃ fe, fe = findE s x1 x2 := ⟨_, rfl⟩
                rw [← hfe] at KD hz
                have hfb : (fe == 0) = false := by simpa using hz
                have KD' := Aside0.mk KD
                clear KD hz hfe
                go_wp2_with fail
                refine Calls.mono KD'.out ?_
                rintro e w3 ⟨rfl, hk, hm⟩
                replace HB := Aside0.mk (HB.out.trans hm.1)
                replace HT := Aside0.mk (hm.row HT.out)
                replace HG := Aside0.mk (hm.row HG.out)
                replace HK := Aside0.mk hk
                clear hk hm v0 v1 v2 v3 v4 v5' v6' v7 v8 KD'
                go_wp2
                go_meet
                exact ⟨_, _, _, HI', HK, HB, HT, HG, ⟨by have := HLN.out; omega, by have := HLN.out; omega, HLN.out.2.2⟩⟩
            · have hm2' : (m == 2) = false := by simpa using hm2
              clear hm0 hm1 hm2
              have KP := Aside0.mk (L_put (n := x1) (g := x2) HK.out HB.out.size HV.out HXF.out)
              have HFP := Aside0.mk (fresh_put HI'.out x1 x2 xv HXF.out)
              go_wp2_with fail
              refine Calls.mono KP.out ?_
              rintro e w3 ⟨rfl, hk, hm⟩
              replace HB := Aside0.mk (HB.out.trans hm.1)
              replace HT := Aside0.mk (hm.row HT.out)
              replace HG := Aside0.mk (hm.row HG.out)
              have KS := Aside0.mk (L_settle hk HB.out.size HFP.out.ok (by have := HFP.out.len; omega))
              clear hk hm v0 v1 v2 v3 v4 v5' v6' v7 v8 KP
              go_wp2_with fail
              refine Calls.mono KS.out ?_
              rintro e w4 ⟨rfl, hk, hm⟩
              replace HB := Aside0.mk (HB.out.trans hm.1)
              replace HT := Aside0.mk (hm.row HT.out)
              replace HG := Aside0.mk (hm.row HG.out)
              replace HK := Aside0.mk hk
              clear hk hm KS
              go_wp2
              go_meet
              exact ⟨_, _, _, ⟨fresh_settle HFP.out⟩, HK, HB, HT, HG, ⟨by have := HLN.out; omega, by have := HLN.out; omega, HLN.out.2.2⟩⟩
      case' rest => obtain ⟨s', ts', gs', HI2, HK2, HB2, HT2, HG2, HLN2⟩ := hcut
      clear HI' HK HB HT HG HLN BX HV HB0 v0 v1 v2 v3 v4 v5' v6' v7 v8
      obtain ⟨A5, c5, hu5, hc5⟩ := own_slice HT2.out
      obtain ⟨NT, hNT⟩ : ∃ NT, NT = ts'.length := ⟨_, rfl⟩
      rw [← hNT] at hu5 hc5
      subst hu5
      have HNT := Aside0.mk hNT
      have hNTl : NT ≤ 9223372036854775807 := by have := HLN2.out; have := HL60.out; omega
      have HWC := Aside0.mk (RowKit.Below.refl wc.heap.size wc)
      clear hNT
      go_wp2
      go_loopw [13] (fun i wr2 => ∃ j : Nat, j ≤ NT ∧ i = .int .i64 j ∧ Aside0 (RowKit.Below wc.heap.size wc wr2)) (fun i _ => NT - (intOf i).toNat)
      case atStart => exact ⟨0, Nat.zero_le _, rfl, HWC⟩
      case round =>
        clear HWC
        obtain ⟨j, hj, rfl, HBW⟩ := hrel
        by_cases hjl : j < NT
        · have HTR := Aside0.mk (own_move HT2.out (fun k hk => HBW.out.block k (HT2.out.lt k hk).2))
          have HGR := Aside0.mk (own_move HG2.out (fun k hk => HBW.out.block k (HG2.out.lt k hk).2))
          obtain ⟨ad5, hA5, t0, t1⟩ := told_at HTR.out j hjl
          subst hA5
          have hmem : ts'.getD j (0, 0) ∈ ts' := getD_mem ts' j (by have := HNT.out; omega) (0, 0)
          have hfin := HI2.out.find _ hmem
          generalize ts'.getD j (0, 0) = tt at *
          obtain ⟨ta, tb⟩ := tt
          simp only [] at t0 t1 hfin
          have KG := Aside0.mk (L_get (n := ta) (g := tb) (HK2.out.below HBW.out) HI2.out.ok)
          obtain ⟨fe, hfe⟩ : ∃ fe, fe = findE s' ta tb := ⟨_, rfl⟩
          rw [← hfe] at KG hfin
          have hres : ((fe == 0) == hasB gs' ta tb) = false := by
            have hh := hasB_iff gs' ta tb
            cases hb : hasB gs' ta tb
            · rw [hb] at hh
              have h1 : fe = 0 := hfin.2 (fun h => by have := hh.2 h; cases this)
              simp [h1]
            · rw [hb] at hh
              have h1 : ¬ fe = 0 := fun h => hfin.1 h (hh.1 rfl)
              simp [h1]
          have HRES := Aside0.mk hres
          generalize getW s' ta tb = gv at KG
          have hwj : wrap64 ((j : Int) + 1) = (j : Int) + 1 := by unfold wrap64; omega
          have HWJ := Aside0.mk hwj
          have hl5 := World.block_lt_of_cell? _ _ t0
          have T01 := Aside0.mk (And.intro t0 t1)
          clear hmem hfin hfe hres hwj
          go_wp2_with fail
          refine Calls.mono KG.out ?_
          rintro e w4 ⟨q4, n4, q5, n5, rfl, -, hb⟩
          have hb1 := below_step hb (below_alloc (RowKit.Below.refl _ w4) (.cells #[.int .i64 gv.f0, .int .i64 gv.f1, .int .i64 gv.f2, .string gv.f3, .slice q4 gv.f4.length n4, .slice q5 gv.f5.length n5] 35))
          have h0 := (hb1.cell hl5).trans T01.out.1
          have h1 := (hb1.cell (show (⟨(ad5.add (j * 2)).block, (ad5.add (j * 2)).off + 1, none⟩ : Addr).block < wr.heap.size from hl5)).trans T01.out.2
          have hg2 := own_move HGR.out (fun k hk => hb1.block k (HGR.out.lt k hk).2)
          have KH := Aside0.mk (has33_calls ta tb hg2 (by have := HLN2.out; have := HL60.out; omega))
          have hbs := HBW.out.size
          replace HBW := Aside0.mk (HBW.out.trans (hb1.mono hbs))
          clear hb hb1 hg2 hbs t0 t1 KG T01
          obtain ⟨hB, hhB⟩ : ∃ hB, hB = hasB gs' ta tb := ⟨_, rfl⟩
          rw [← hhB] at KH HRES
          have hres := HRES.out
          clear hhB
          go_wp2_with fail
          refine Calls.mono KH.out ?_
          rintro e w5 ⟨rfl, hb⟩
          have hbs := HBW.out.size
          replace HBW := Aside0.mk (HBW.out.trans (hb.mono hbs))
          clear hb hbs h0 h1 KH
          go_wp2
          exact ⟨⟨j + 1, by omega, by first | (rw [HWJ.out]; simp; done) | (simp; done), HBW⟩, by first | (rw [HWJ.out]; simp [intOf]; omega) | (simp [intOf]; omega)⟩
        · obtain rfl : NT = j := by omega
          go_wp2
          exact ⟨⟨k + 1, s', ts', gs', by omega, by first | (rw [HWK.out]; simp; done) | (simp; done), HI2, ⟨HK2.out.below HBW.out⟩, ⟨HB2.out.trans (HBW.out.mono HB2.out.size)⟩, ⟨own_move HT2.out (fun k hk => HBW.out.block k (HT2.out.lt k hk).2)⟩, ⟨own_move HG2.out (fun k hk => HBW.out.block k (HG2.out.lt k hk).2)⟩, HLN2⟩, by first | (rw [HWK.out]; simp [intOf]; omega) | (simp [intOf]; omega)⟩
    · obtain rfl : N = k := by omega
      go_wp2_with fail
      refine Calls.mono (works_calls wr) ?_
      rintro e w3 ⟨rfl, hb⟩
      replace HB := Aside0.mk (HB.out.trans (hb.mono HB.out.size))
      clear hb
      go_wp2
      go_ret
      exact ⟨rfl, HB.out⟩
end Go.Proofs.Ytogpnkkoablmiaa.V
end
