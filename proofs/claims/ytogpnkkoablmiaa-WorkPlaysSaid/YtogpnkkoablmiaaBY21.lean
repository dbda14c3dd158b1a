/- Parts of the proof: what the theorem reaches, put together by a program of this session. -/
import Derived.Test.YtogpnkkoablmiaaBY16
import Derived.Test.YtogpnkkoablmiaaBY18
import Derived.Test.YtogpnkkoablmiaaBY20
namespace Go.Proofs.Ytogpnkkoablmiaa.V
open Go.Proofs.Ytogpnkkoablmiaa.P Go.RowKit Go.Shelf Go.Lib Go.Proofs.Ytogpnkkoablmiaa.Q Go.Proofs.YtogpnkkoablmiaaW.PrintWords Go.Proofs.YtogpnkkoablmiaaW.PrintLast Go.Proofs.YtogpnkkoablmiaaW.PrintMore
set_option linter.unusedVariables false
set_option linter.unusedSimpArgs false
attribute [local go_sem] Oper.semAt_some
theorem rise_find : ∀ (d : List S89), Rise d → ∀ p, p ∈ d ↔ d.find? (fun y => decide (y.f0.data = p.f0.data)) = some p
 | [], _, p => by simp
 | x :: r, h, p => by
   have g := List.pairwise_cons.1 h
   have ih := rise_find r g.2 p
   by_cases hk : x.f0.data = p.f0.data
   · rw [List.find?_cons_of_pos (by simpa using hk)]
     constructor
     · intro hp
       rcases List.mem_cons.1 hp with rfl | hp
       · rfl
       · have h1 := g.1 p hp
         have h2 : x.f0 = p.f0 := by cases hx : x.f0; cases hy : p.f0; rw [hx, hy] at hk; simp at hk; rw [hk]
         rw [h2, ltK_irrefl] at h1
         cases h1
     · intro hp; injection hp with hp; simp [hp]
   · rw [List.find?_cons_of_neg (by simpa using hk), ← ih]
     constructor
     · intro hp
       rcases List.mem_cons.1 hp with rfl | hp
       · exact absurd rfl hk
       · exact hp
     · intro hp; simp [hp]
theorem pairsP_fix (d : List S89) (hr : Rise d) (hd : ∀ p ∈ d, plain p.f1 = p.f1 ∧ p.f1.f0 ≠ 0) : pairsP d = d := by
 have hm : d.map (fun p => (⟨p.f0, plain p.f1⟩ : S89)) = d := by
  conv => rhs; rw [← List.map_id d]
  refine List.map_congr_left fun p hp => ?_
  rw [(hd p hp).1]; rfl
 have h1 : Rise (pairsP d) := by
  have := plain_rise ⟨6, 0, 0, ⟨#[]⟩, [], d⟩
  rw [plain_eq] at this
  simpa using this
 refine rise_uniq h1 hr fun p => ?_
 rw [mem_pairsP, hm, ← rise_find d hr p]
 exact ⟨fun h => h.1, fun h => ⟨h, (hd p h).2⟩⟩
theorem pairsP_mem {d : List S89} {p : S89} (h : p ∈ pairsP d) : (∃ q ∈ d, p.f1 = plain q.f1) ∧ p.f1.f0 ≠ 0 := by
 rw [mem_pairsP] at h
 have h1 := List.mem_of_find?_eq_some h.1
 obtain ⟨q, hq, rfl⟩ := List.mem_map.1 h1
 exact ⟨⟨q, hq, rfl⟩, h.2⟩
theorem plain_idem : ∀ v : S35, plain (plain v) = plain v := by
 refine S35.ind ?_
 intro v ih4 ih5
 have hp : pairsP (pairsP v.f5) = pairsP v.f5 := by
  refine pairsP_fix _ ?_ ?_
  · have := plain_rise ⟨6, 0, 0, ⟨#[]⟩, [], v.f5⟩
    rw [plain_eq] at this
    simpa using this
  · intro p hp
    obtain ⟨⟨q, hq, e⟩, h0⟩ := pairsP_mem hp
    exact ⟨by rw [e]; exact ih5 q hq, h0⟩
 have hl : (v.f4.map plain).map plain = v.f4.map plain := by
  rw [List.map_map]
  exact List.map_congr_left fun x hx => ih4 x hx
 rw [plain_eq v]
 split
 · rename_i h; rw [plain_eq]; simp [h]
 · split
   · rename_i h1 h; rw [plain_eq]; rcases h with h | h <;> simp [h]
   · split
     · rename_i h; rw [plain_eq]; simp only [h]; simpa using hl
     · split
       · rename_i h; rw [plain_eq]; simp only [h]; simpa using hp
       · split
         · rename_i h; rw [plain_eq]; simp [h]
         · split
           · rename_i h; rw [plain_eq]; simp only [h]; simpa using hp
           · rw [plain_eq]; simp [z35]
theorem own_cells {W : World} {base e size n g c : Nat} {xs : List Value} (h : W.ownsRow base e size (.slice (some ⟨g, 0, none⟩) n c) n xs) : ∀ j u, xs[j]? = some u → W.cell? ((⟨g, 0, none⟩ : Addr).add j) = some u := by
 intro j u hu
 rcases h.2 with ⟨h1, _⟩ | ⟨g', cap, cur, h1, _, hb, _, _, _, ht⟩
 · cases h1
 · cases h1
   rw [← ht, List.getElem?_take] at hu
   have hj : cur[j]? = some u := by
    split at hu
    · simpa using hu
    · cases hu
   have e : (⟨g, 0, none⟩ : Addr).add j = ⟨g, j, none⟩ := by unfold Addr.add; split <;> simp_all
   rw [e, cell_of_row W g j _ _ _ hb]
   exact hj
def LI (w1 : World) (row : Array Value) (wr : World) (vo : Value) (pre : List (Int × Int)) : Prop :=
 RowKit.Below w1.heap.size w1 wr ∧ wr.heap[w1.heap.size]? = some (.cells row 35 (0, 0)) ∧ ∃ g c, vo = .slice (some ⟨g, 0, none⟩) pre.length c ∧ wr.ownsRow (w1.heap.size + 1) 28 2 vo pre.length (flat pre)
theorem own_ge {W : World} {base e size n : Nat} {v : Value} {xs : List Value} (h : W.ownsRow base e size v n xs) (k : Nat) (hk : v.ownBlock = some k) : base ≤ k ∧ k < W.heap.size := by
 rcases h.2 with ⟨rfl, _⟩ | ⟨g, cap, cur, rfl, hg, hb, _⟩
 · simp [Value.ownBlock] at hk
 · have : g = k := by simpa [Value.ownBlock] using hk
   subst this
   exact ⟨hg, blk_lt hb⟩
theorem LI.below {w1 : World} {row : Array Value} {wr w2 : World} {vo : Value} {pre : List (Int × Int)} (h : LI w1 row wr vo pre) (hb : RowKit.Below wr.heap.size wr w2) : LI w1 row w2 vo pre := by
 obtain ⟨h1, h2, g, c, hv, ho⟩ := h
 exact ⟨h1.trans (hb.mono h1.size), (hb.block _ (blk_lt h2)).trans h2, g, c, hv, own_move ho (fun k hk => hb.block k (own_ge ho k hk).2)⟩
end Go.Proofs.Ytogpnkkoablmiaa.V
