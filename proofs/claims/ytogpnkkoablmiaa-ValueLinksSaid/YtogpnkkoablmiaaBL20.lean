/- Parts of the proof: what the theorem reaches, put together by a program of this session. -/
import Derived.ArgAppend
import Derived.Below
import Derived.BigGuardPart
import Derived.BigQuiet
import Derived.BigRegion
import Derived.Deep.AppendLies
import Derived.Deep.CutBlock
import Derived.Deep.DeepCutAuto
import Derived.Deep.Draws
import Derived.Deep.LoopGhost
import Derived.Deep.OwnRows
import Derived.Deep.QuietTactic
import Derived.Deep.RegionHeld3
import Derived.Deep.RegionLaw
import Derived.KernelRfl
import Derived.Laws.BitsLemmas
import Derived.Laws.BytesArg
import Derived.Laws.EntriesVeiled
import Derived.Laws.IdiomCopy
import Derived.Laws.MakeOwn
import Derived.Laws.OwnMore
import Derived.Laws.Rows
import Derived.Laws.Slices
import Derived.Laws.StructEq
import Derived.Lib.AppendIntMem
import Derived.Lib.AppendStr
import Derived.Lib.Bytealg
import Derived.Lib.ConvBytes
import Derived.Lib.Hide
import Derived.Lib.OwnBridge
import Derived.Lib.SliceRun
import Derived.LoopIn
import Derived.LoopNIn
import Derived.Maps.AppendAt
import Derived.Maps.OwnOps
import Derived.Maps.Views
import Derived.OrdersHeld
import Derived.Outline
import Derived.OwnWalk
import Derived.OwnWalkIn
import Derived.RangeFuncBound
import Derived.RangeFuncBox
import Derived.RangeFuncCalls
import Derived.RangeFuncFrom
import Derived.RangeFuncKeeps
import Derived.RangeFuncLeaves
import Derived.RangeFuncNested
import Derived.RowKit
import Derived.RowKit3
import Derived.Shelf.Abstract
import Derived.Shelf.RegionOpen
import Derived.Shelf.SlSortCmp.KitK
import Derived.Shelf.Spec.SlicesInsertGrow
import Derived.Sort.LotA
import Derived.Sort.WalkB12
import Derived.Sort.WalkB2
import Derived.Tactics
import Derived.TacticsInMore
import Derived.Test.YtogpnkkoablmiaaProg
import Derived.WalkKit
import Derived.WalkLawsBesides
import Derived.WideLaws
import Derived.Test.YtogpnkkoablmiaaBL1
import Derived.Test.YtogpnkkoablmiaaBL2
import Derived.Test.YtogpnkkoablmiaaBL3
import Derived.Test.YtogpnkkoablmiaaBL4
import Derived.Test.YtogpnkkoablmiaaBL5
import Derived.Test.YtogpnkkoablmiaaBL6
import Derived.Test.YtogpnkkoablmiaaBL7
import Derived.Test.YtogpnkkoablmiaaBL9
import Derived.Test.YtogpnkkoablmiaaBL10
import Derived.Test.YtogpnkkoablmiaaBL11
import Derived.Test.YtogpnkkoablmiaaBL12
import Derived.Test.YtogpnkkoablmiaaBL13
import Derived.Test.YtogpnkkoablmiaaBL14
import Derived.Test.YtogpnkkoablmiaaBL15
import Derived.Test.YtogpnkkoablmiaaBL16
import Derived.Test.YtogpnkkoablmiaaBL17
import Derived.Test.YtogpnkkoablmiaaBL18
import Derived.Test.YtogpnkkoablmiaaBL19
namespace Go.Proofs.Ytogpnkkoablmiaa.V
open Go.Proofs.Ytogpnkkoablmiaa.P Go.RowKit Go.Shelf Go.Lib Go.Proofs.Ytogpnkkoablmiaa.Q Go.Proofs.YtogpnkkoablmiaaW.PrintWords Go.Proofs.YtogpnkkoablmiaaW.PrintLast Go.Proofs.YtogpnkkoablmiaaW.PrintMore
set_option linter.unusedVariables false
set_option linter.unusedSimpArgs false
attribute [local go_sem] Oper.semAt_some
theorem rise_find : ∀ (d : List S89), Rise d → ∀ p, p ∈ d ↔ d.find? (fun y => decide (y.f0.data = p.f0.data)) = some p
  | [], _, p => by simp
  | x :: r, h, p => by
    have g := List.pairwise_cons.1 h
    have ih := rise_find r g.2 p
    by_cases hk : x.f0.data = p.f0.data
    · rw [List.find?_cons_of_pos (by simpa using hk)]
      constructor
      · intro hp
        rcases List.mem_cons.1 hp with rfl | hp
        · rfl
        · have h1 := g.1 p hp
          have h2 : x.f0 = p.f0 := by cases hx : x.f0; cases hy : p.f0; rw [hx, hy] at hk; simp at hk; rw [hk]
          rw [h2, ltK_irrefl] at h1
          cases h1
      · intro hp; injection hp with hp; simp [hp]
    · rw [List.find?_cons_of_neg (by simpa using hk), ← ih]
      constructor
      · intro hp
        rcases List.mem_cons.1 hp with rfl | hp
        · exact absurd rfl hk
        · exact hp
      · intro hp; simp [hp]
theorem pairsP_fix (d : List S89) (hr : Rise d) (hd : ∀ p ∈ d, plain p.f1 = p.f1 ∧ p.f1.f0 ≠ 0) : pairsP d = d := by
  have hm : d.map (fun p => (⟨p.f0, plain p.f1⟩ : S89)) = d := by
    conv => rhs; rw [← List.map_id d]
    refine List.map_congr_left fun p hp => ?_
    rw [(hd p hp).1]; rfl
  have h1 : Rise (pairsP d) := by
    have := plain_rise ⟨6, 0, 0, ⟨#[]⟩, [], d⟩
    rw [plain_eq] at this
    simpa using this
  refine rise_uniq h1 hr fun p => ?_
  rw [mem_pairsP, hm, ← rise_find d hr p]
  exact ⟨fun h => h.1, fun h => ⟨h, (hd p h).2⟩⟩
theorem pairsP_mem {d : List S89} {p : S89} (h : p ∈ pairsP d) : (∃ q ∈ d, p.f1 = plain q.f1) ∧ p.f1.f0 ≠ 0 := by
  rw [mem_pairsP] at h
  have h1 := List.mem_of_find?_eq_some h.1
  obtain ⟨q, hq, rfl⟩ := List.mem_map.1 h1
  exact ⟨⟨q, hq, rfl⟩, h.2⟩
theorem plain_idem : ∀ v : S35, plain (plain v) = plain v := by
  refine S35.ind ?_
  intro v ih4 ih5
  have hp : pairsP (pairsP v.f5) = pairsP v.f5 := by
    refine pairsP_fix _ ?_ ?_
    · have := plain_rise ⟨6, 0, 0, ⟨#[]⟩, [], v.f5⟩
      rw [plain_eq] at this
      simpa using this
    · intro p hp
      obtain ⟨⟨q, hq, e⟩, h0⟩ := pairsP_mem hp
      exact ⟨by rw [e]; exact ih5 q hq, h0⟩
  have hl : (v.f4.map plain).map plain = v.f4.map plain := by
    rw [List.map_map]
    exact List.map_congr_left fun x hx => ih4 x hx
  rw [plain_eq v]
  split
  · rename_i h; rw [plain_eq]; simp [h]
  · split
    · rename_i h1 h; rw [plain_eq]; rcases h with h | h <;> simp [h]
    · split
      · rename_i h; rw [plain_eq]; simp only [h]; simpa using hl
      · split
        · rename_i h; rw [plain_eq]; simp only [h]; simpa using hp
        · split
          · rename_i h; rw [plain_eq]; simp [h]
          · split
            · rename_i h; rw [plain_eq]; simp only [h]; simpa using hp
            · rw [plain_eq]; simp [z35]
theorem plain_elem {v : S35} : (∀ x ∈ (plain v).f4, plain x = x) ∧ (∀ p ∈ (plain v).f5, plain p.f1 = p.f1) := by
  have h := plain_eq v
  constructor
  · intro x hx
    by_cases h5 : v.f0 = 5
    · rw [h] at hx
      simp [h5] at hx
      obtain ⟨y, _, rfl⟩ := hx
      exact plain_idem y
    · rw [h] at hx
      repeat (split at hx; (· first | (simp at hx; done) | (exact absurd (by assumption) h5)))
      simp [z35] at hx
  · intro p hp
    have key : p ∈ pairsP v.f5 → plain p.f1 = p.f1 := by
      intro hp
      obtain ⟨⟨q, _, e⟩, _⟩ := pairsP_mem hp
      rw [e]; exact plain_idem _
    rw [h] at hp
    repeat (split at hp; (· first | (simp at hp; done) | (exact key hp)))
    simp [z35] at hp
theorem tsL_map : ∀ l : List S35, (∀ x ∈ l, tsV (plain x) ≤ tsV x) → tsL (l.map plain) ≤ tsL l
  | [], _ => by simp [tsL]
  | x :: r, h => by
    have h1 := h x (by simp)
    have h2 := tsL_map r (fun y hy => h y (by simp [hy]))
    simp only [List.map_cons, tsL]; omega
theorem tsD_map : ∀ l : List S89, (∀ p ∈ l, tsV (plain p.f1) ≤ tsV p.f1) → tsD (l.map (fun p => (⟨p.f0, plain p.f1⟩ : S89))) ≤ tsD l
  | [], _ => by simp [tsD]
  | x :: r, h => by
    have h1 := h x (by simp)
    have h2 := tsD_map r (fun y hy => h y (by simp [hy]))
    simp only [List.map_cons, tsD, tsP_eq]; omega
theorem tsD_ins (p : S89) : ∀ l : List S89, tsD (insB l p) = tsD l + tsV p.f1
  | [] => by simp [insB, tsD, tsP_eq]
  | x :: r => by
    have h := tsD_ins p r
    rw [insB]
    split <;> simp only [tsD, tsP_eq] at * <;> omega
theorem tsD_put (l : List S89) (p : S89) : tsD (rput l p) ≤ tsD l + tsV p.f1 := by
  unfold rput
  split
  · omega
  · rw [tsD_ins]; omega
theorem tsD_fold : ∀ (e l : List S89), tsD (e.foldl rput l) ≤ tsD l + tsD e
  | [], l => by simp [tsD]
  | x :: e, l => by
    have h1 := tsD_fold e (rput l x)
    have h2 := tsD_put l x
    simp only [List.foldl_cons, tsD, tsP_eq]; omega
theorem tsD_filter (f : S89 → Bool) : ∀ l : List S89, tsD (l.filter f) ≤ tsD l
  | [] => by simp [tsD]
  | x :: r => by
    have h := tsD_filter f r
    rw [List.filter_cons]
    split <;> simp only [tsD] <;> omega
theorem tsV_plain : ∀ v : S35, tsV (plain v) ≤ tsV v := by
  refine S35.ind ?_
  intro v ih4 ih5
  have h4 := tsL_map v.f4 ih4
  have h5 : tsD (pairsP v.f5) ≤ tsD v.f5 := by
    have h1 := tsD_map v.f5 ih5
    have h2 := tsD_fold (v.f5.map (fun p => (⟨p.f0, plain p.f1⟩ : S89))) []
    have h3 := tsD_filter (fun p => decide (p.f1.f0 ≠ 0)) ((v.f5.map (fun p => (⟨p.f0, plain p.f1⟩ : S89))).foldl rput [])
    rw [show tsD [] = 0 by simp [tsD]] at h2
    rw [Nat.zero_add] at h2
    exact Nat.le_trans h3 (Nat.le_trans h2 h1)
  rw [tsV_eq v, plain_eq]
  repeat (split; · (rw [tsV_eq]; simp only [tsL, tsD]; omega))
  rw [tsV_eq]; simp only [z35, tsL, tsD]; omega
theorem lks_len : ∀ v : S35, (lksV v).length ≤ tsV v := by
  refine S35.ind ?_
  intro v ih4 ih5
  have h4 : ∀ l : List S35, (∀ x ∈ l, (lksV x).length ≤ tsV x) → (lksL l).length ≤ tsL l := by
    intro l
    induction l with
    | nil => intro _; simp [lksL]
    | cons x r ih =>
      intro h
      have h1 := h x (by simp)
      have h2 := ih (fun y hy => h y (by simp [hy]))
      simp only [lksL, tsL, List.length_append]; omega
  have h5 : ∀ l : List S89, (∀ p ∈ l, (lksV p.f1).length ≤ tsV p.f1) → (lksD l).length ≤ tsD l := by
    intro l
    induction l with
    | nil => intro _; simp [lksD]
    | cons x r ih =>
      intro h
      have h1 := h x (by simp)
      have h2 := ih (fun y hy => h y (by simp [hy]))
      simp only [lksD, lksP_eq, tsD, tsP_eq, List.length_append]; omega
  rw [lksV_eq, tsV_eq]
  have a4 := h4 v.f4 ih4
  have a5 := h5 v.f5 ih5
  simp only [List.length_append]
  split <;> simp only [List.length_cons, List.length_nil] <;> omega
theorem lks_bound (v : S35) (h : tsV v ≤ 90000) : (lksV (plain v)).length ≤ 90000 := Nat.le_trans (lks_len _) (Nat.le_trans (tsV_plain v) h)
theorem flat_app (a b : List (Int × Int)) : flat (a ++ b) = flat a ++ flat b := by simp [flat]
theorem flat_len (a : List (Int × Int)) : (flat a).length = a.length * 2 := by
  induction a with
  | nil => rfl
  | cons x r ih => simp only [flat, List.flatMap_cons, List.length_append] at *; simp only [List.length_cons, List.length_nil]; omega
theorem flat_one (a : List (Int × Int)) : ∀ u ∈ flat a, u.oneCell' = true := by
  intro u hu
  simp only [flat, List.mem_flatMap] at hu
  obtain ⟨x, _, hx⟩ := hu
  simp at hx
  rcases hx with rfl | rfl <;> rfl
theorem own_cells {W : World} {base e size n g c : Nat} {xs : List Value} (h : W.ownsRow base e size (.slice (some ⟨g, 0, none⟩) n c) n xs) : ∀ j u, xs[j]? = some u → W.cell? ((⟨g, 0, none⟩ : Addr).add j) = some u := by
  intro j u hu
  rcases h.2 with ⟨h1, _⟩ | ⟨g', cap, cur, h1, _, hb, _, _, _, ht⟩
  · cases h1
  · cases h1
    rw [← ht, List.getElem?_take] at hu
    have hj : cur[j]? = some u := by
      split at hu
      · simpa using hu
      · cases hu
    have e : (⟨g, 0, none⟩ : Addr).add j = ⟨g, j, none⟩ := by unfold Addr.add; split <;> simp_all
    rw [e, cell_of_row W g j _ _ _ hb]
    exact hj
def LI (w1 : World) (row : Array Value) (wr : World) (vo : Value) (pre : List (Int × Int)) : Prop :=
  RowKit.Below w1.heap.size w1 wr ∧ wr.heap[w1.heap.size]? = some (.cells row 35 (0, 0)) ∧ ∃ g c, vo = .slice (some ⟨g, 0, none⟩) pre.length c ∧ wr.ownsRow (w1.heap.size + 1) 28 2 vo pre.length (flat pre)
theorem own_ge {W : World} {base e size n : Nat} {v : Value} {xs : List Value} (h : W.ownsRow base e size v n xs) (k : Nat) (hk : v.ownBlock = some k) : base ≤ k ∧ k < W.heap.size := by
  rcases h.2 with ⟨rfl, _⟩ | ⟨g, cap, cur, rfl, hg, hb, _⟩
  · simp [Value.ownBlock] at hk
  · have : g = k := by simpa [Value.ownBlock] using hk
    subst this
    exact ⟨hg, blk_lt hb⟩
theorem LI.below {w1 : World} {row : Array Value} {wr w2 : World} {vo : Value} {pre : List (Int × Int)} (h : LI w1 row wr vo pre) (hb : RowKit.Below wr.heap.size wr w2) : LI w1 row w2 vo pre := by
  obtain ⟨h1, h2, g, c, hv, ho⟩ := h
  exact ⟨h1.trans (hb.mono h1.size), (hb.block _ (blk_lt h2)).trans h2, g, c, hv, own_move ho (fun k hk => hb.block k (own_ge ho k hk).2)⟩
theorem LI.app {w1 : World} {row : Array Value} {wr w2 : World} {vo v2 : Value} {pre q : List (Int × Int)} {m : Nat} (h : LI w1 row wr vo pre) (hg : wr.grownBy w2 vo.ownBlock) (ho : w2.ownsRow (w1.heap.size + 1) 28 2 v2 (pre.length + m) (flat pre ++ flat q)) (hm : m = q.length) (hn : v2 = .slice none 0 0 ↔ vo = .slice none 0 0 ∧ m = 0) : LI w1 row w2 v2 (pre ++ q) := by
  obtain ⟨h1, h2, g, c, hv, ho1⟩ := h
  subst hm
  have hnn : v2 ≠ .slice none 0 0 := fun e => by have := (hn.1 e).1; rw [hv] at this; cases this
  refine ⟨h1.grown hg h1.size (fun k e => by have := (own_ge ho1 k e).1; omega), (hg.block _ (blk_lt h2) (fun e => by have := (own_ge ho1 _ e.symm).1; omega)).trans h2, ?_⟩
  rcases ho.2 with ⟨h3, _⟩ | ⟨g', cap, cur, h3, _⟩
  · exact absurd h3 hnn
  · exact ⟨g', cap, by rw [h3, List.length_append], by rw [List.length_append, flat_app]; exact ho⟩
end Go.Proofs.Ytogpnkkoablmiaa.V
