/- Parts of the proof: what the theorem reaches, put together by a program of this session. -/
import Derived.Test.YtogpnkkoablmiaaBY14
import Derived.Test.YtogpnkkoablmiaaBY19
namespace Go.Proofs.Ytogpnkkoablmiaa.P
open Go.RowKit Go.Proofs.Ytogpnkkoablmiaa.V Go.Proofs.Ytogpnkkoablmiaa.Q Go.Proofs.YtogpnkkoablmiaaW.PrintWords Go.Proofs.YtogpnkkoablmiaaW.PrintLast
set_option linter.unusedVariables false
set_option linter.unusedSimpArgs false
mutual
/-- How many values a value is. -/
def tsV : S35 → Nat
 | ⟨_, _, _, _, l, d⟩ => 1 + tsL l + tsD d
def tsL : List S35 → Nat
 | [] => 0
 | x :: r => tsV x + tsL r
def tsD : List (P89 S35) → Nat
 | [] => 0
 | p :: r => tsP p + tsD r
def tsP : P89 S35 → Nat
 | ⟨_, v⟩ => tsV v
end
theorem tsV_eq (v : S35) : tsV v = 1 + tsL v.f4 + tsD v.f5 := by cases v; rw [tsV]
theorem tsP_eq (p : S89) : tsP p = tsV p.f1 := by cases p; rw [tsP]
theorem tsV_pos (v : S35) : 1 ≤ tsV v := by rw [tsV_eq]; omega
theorem tsL_len : ∀ l : List S35, l.length ≤ tsL l
 | [] => by simp [tsL]
 | x :: r => by have := tsL_len r; have := tsV_pos x; simp [tsL]; omega
theorem tsD_len : ∀ l : List S89, l.length ≤ tsD l
 | [] => by simp [tsD]
 | x :: r => by have := tsD_len r; have := tsV_pos x.f1; simp [tsD, tsP_eq]; omega
theorem tsL_mem {l : List S35} {x : S35} (h : x ∈ l) : tsV x ≤ tsL l := by
 induction l with
 | nil => simp at h
 | cons y r ih => rcases List.mem_cons.1 h with rfl | h; (simp [tsL]); (have := ih h; simp [tsL]; omega)
theorem tsD_mem {l : List S89} {p : S89} (h : p ∈ l) : tsV p.f1 ≤ tsD l := by
 induction l with
 | nil => simp at h
 | cons y r ih => rcases List.mem_cons.1 h with rfl | h; (simp [tsD, tsP_eq]); (have := ih h; simp [tsD]; omega)
theorem fewL_of : ∀ {l : List S35}, (∀ x ∈ l, fewV x) → fewL l
 | [], _ => by simp [fewL]
 | x :: r, h => by rw [fewL]; exact ⟨h x (by simp), fewL_of fun y hy => h y (by simp [hy])⟩
theorem fewD_of : ∀ {l : List S89}, (∀ p ∈ l, fewV p.f1) → fewD l
 | [], _ => by simp [fewD]
 | x :: r, h => by rw [fewD]; exact ⟨by have := h x (by simp); cases x; rw [fewP]; exact this, fewD_of fun y hy => h y (by simp [hy])⟩
theorem fewV_of {v : S35} (h4 : v.f4.length ≤ 90000) (h5 : v.f5.length ≤ 90000) (hl : ∀ x ∈ v.f4, fewV x) (hd : ∀ p ∈ v.f5, fewV p.f1) : fewV v := by
 cases v; rw [fewV]; exact ⟨h4, h5, fewL_of hl, fewD_of hd⟩
theorem few_ts : ∀ v : S35, tsV v ≤ 90000 → fewV v := by
 refine S35.ind ?_
 intro v ih4 ih5 h
 rw [tsV_eq] at h
 have h1 := tsL_len v.f4
 have h2 := tsD_len v.f5
 exact fewV_of (by omega) (by omega) (fun x hx => ih4 x hx (by have := tsL_mem hx; omega)) (fun p hp => ih5 p hp (by have := tsD_mem hp; omega))
theorem w64 (n : Int) (h0 : -9223372036854775808 ≤ n) (h1 : n < 9223372036854775808) : wrap64 n = n := by unfold wrap64; omega
theorem size_f (k : Nat) (a0 a1 a2 : Int) (a3 : ByteArray) (l : List S35) (d : List S89) (m : Int) : binderyref16_size.f (k + 1) a0 a1 a2 a3 l d m = binderyref16_size.l0 k m 1 0 a0 a1 a2 a3 l d := rfl
theorem size_l0 (k : Nat) (x1 x5 x6 a0 a1 a2 : Int) (a3 : ByteArray) (l : List S35) (d : List S89) : binderyref16_size.l0 (k + 1) x1 x5 x6 a0 a1 a2 a3 l d = if x6 < (l.length : Int) then (if x5 < x1 then (if 0 ≤ x6 then ((binderyref16_size.f k ((rd_T35 l x6).f0) ((rd_T35 l x6).f1) ((rd_T35 l x6).f2) ((rd_T35 l x6).f3) ((rd_T35 l x6).f4) ((rd_T35 l x6).f5) (wrap64 (x1 - x5))).bind fun t134 => (binderyref16_size.l0 k x1 (wrap64 (x5 + t134)) (wrap64 (x6 + 1)) a0 a1 a2 a3 l d)) else (none)) else (binderyref16_size.j1 k x1 x5 a0 a1 a2 a3 l d)) else (binderyref16_size.j1 k x1 x5 a0 a1 a2 a3 l d) := rfl
theorem size_j1 (k : Nat) (x1 x5 a0 a1 a2 : Int) (a3 : ByteArray) (l : List S35) (d : List S89) : binderyref16_size.j1 (k + 1) x1 x5 a0 a1 a2 a3 l d = binderyref16_size.l1 k x1 x5 0 a0 a1 a2 a3 l d := rfl
theorem size_l1 (k : Nat) (x1 x5 x7 a0 a1 a2 : Int) (a3 : ByteArray) (l : List S35) (d : List S89) : binderyref16_size.l1 (k + 1) x1 x5 x7 a0 a1 a2 a3 l d = if x7 < (d.length : Int) then (if x5 < x1 then (if 0 ≤ x7 then ((binderyref16_size.f k ((rd_T89 d x7).f1.f0) ((rd_T89 d x7).f1.f1) ((rd_T89 d x7).f1.f2) ((rd_T89 d x7).f1.f3) ((rd_T89 d x7).f1.f4) ((rd_T89 d x7).f1.f5) (wrap64 (x1 - x5))).bind fun t136 => (binderyref16_size.l1 k x1 (wrap64 (x5 + t136)) (wrap64 (x7 + 1)) a0 a1 a2 a3 l d)) else (none)) else (some x5)) else (some x5) := rfl
def SzP (v : S35) : Prop := ∀ m : Int, 1 ≤ m → m ≤ 4611686018427387904 → ∃ k0, ∀ k, k0 ≤ k → binderyref16_size.f k v.f0 v.f1 v.f2 v.f3 v.f4 v.f5 m = some (min (tsV v : Int) m)
theorem tsL_drop (l : List S35) (i : Nat) (h : i < l.length) : tsL (l.drop i) = tsV (l.getD i z35) + tsL (l.drop (i + 1)) := by
 rw [List.drop_eq_getElem_cons h, tsL, List.getD_eq_getElem?_getD, List.getElem?_eq_getElem h]; rfl
theorem tsD_drop (l : List S89) (i : Nat) (h : i < l.length) : tsD (l.drop i) = tsV (l.getD i z89).f1 + tsD (l.drop (i + 1)) := by
 rw [List.drop_eq_getElem_cons h, tsD, tsP_eq, List.getD_eq_getElem?_getD, List.getElem?_eq_getElem h]; rfl
theorem sz_l1 (m : Int) (hm : m ≤ 4611686018427387904) (l : List S35) (d : List S89) (a0 a1 a2 : Int) (a3 : ByteArray) (ih : ∀ p ∈ d, SzP p.f1) :
 ∀ (r i : Nat) (n : Int), d.length - i = r → i ≤ d.length → (i : Int) < n → n ≤ m → ∃ k0, ∀ k, k0 ≤ k → binderyref16_size.l1 k m n i a0 a1 a2 a3 l d = some (min (n + tsD (d.drop i)) m) := by
 intro r
 induction r with
 | zero =>
   intro i n hr hi hn hm2
   refine ⟨1, fun k hk => ?_⟩
   obtain ⟨k, rfl⟩ : ∃ j, k = j + 1 := ⟨k - 1, by omega⟩
   rw [size_l1, if_neg (by omega), List.drop_eq_nil_of_le (by omega), tsD]
   congr 1; omega
 | succ r ihr =>
   intro i n hr hi hn hm2
   by_cases hnm : n < m
   · obtain ⟨k1, h1⟩ := ih (d.getD i z89) (getD_mem d i (by omega) z89) (m - n) (by omega) (by omega)
     have hp := tsV_pos (d.getD i z89).f1
     obtain ⟨k2, h2⟩ := ihr (i + 1) (n + min (tsV (d.getD i z89).f1 : Int) (m - n)) (by omega) (by omega) (by omega) (by omega)
     refine ⟨max k1 k2 + 1, fun k hk => ?_⟩
     obtain ⟨k, rfl⟩ : ∃ j, k = j + 1 := ⟨k - 1, by omega⟩
     rw [size_l1, if_pos (by omega), if_pos hnm, if_pos (by omega)]
     have e : rd_T89 d (i : Int) = d.getD i z89 := rfl
     rw [e, w64 (m - n) (by omega) (by omega), h1 k (by omega), Option.bind_some, w64 _ (by omega) (by omega), w64 _ (by omega) (by omega), show (i : Int) + 1 = ((i + 1 : Nat) : Int) by omega, h2 k (by omega), tsD_drop d i (by omega)]
     congr 1; omega
   · refine ⟨1, fun k hk => ?_⟩
     obtain ⟨k, rfl⟩ : ∃ j, k = j + 1 := ⟨k - 1, by omega⟩
     rw [size_l1, if_pos (by omega), if_neg hnm]
     congr 1; omega
theorem sz_l0 (m : Int) (hm : m ≤ 4611686018427387904) (l : List S35) (d : List S89) (a0 a1 a2 : Int) (a3 : ByteArray) (ih4 : ∀ x ∈ l, SzP x) (ih : ∀ p ∈ d, SzP p.f1) :
 ∀ (r i : Nat) (n : Int), l.length - i = r → i ≤ l.length → (i : Int) < n → n ≤ m → ∃ k0, ∀ k, k0 ≤ k → binderyref16_size.l0 k m n i a0 a1 a2 a3 l d = some (min (n + tsL (l.drop i) + tsD d) m) := by
 have hj : ∀ n : Int, 1 ≤ n → n ≤ m → ∃ k0, ∀ k, k0 ≤ k → binderyref16_size.j1 k m n a0 a1 a2 a3 l d = some (min (n + tsD d) m) := by
  intro n h1 h2
  obtain ⟨k0, h⟩ := sz_l1 m hm l d a0 a1 a2 a3 ih d.length 0 n (by omega) (by omega) (by omega) h2
  refine ⟨k0 + 1, fun k hk => ?_⟩
  obtain ⟨k, rfl⟩ : ∃ j, k = j + 1 := ⟨k - 1, by omega⟩
  rw [size_j1]
  exact h k (by omega)
 intro r
 induction r with
 | zero =>
   intro i n hr hi hn hm2
   obtain ⟨k1, h1⟩ := hj n (by omega) hm2
   refine ⟨k1 + 1, fun k hk => ?_⟩
   obtain ⟨k, rfl⟩ : ∃ j, k = j + 1 := ⟨k - 1, by omega⟩
   rw [size_l0, if_neg (by omega), List.drop_eq_nil_of_le (by omega), tsL, h1 k (by omega)]
   congr 1; omega
 | succ r ihr =>
   intro i n hr hi hn hm2
   by_cases hnm : n < m
   · obtain ⟨k1, h1⟩ := ih4 (l.getD i z35) (getD_mem l i (by omega) z35) (m - n) (by omega) (by omega)
     have hp := tsV_pos (l.getD i z35)
     obtain ⟨k2, h2⟩ := ihr (i + 1) (n + min (tsV (l.getD i z35) : Int) (m - n)) (by omega) (by omega) (by omega) (by omega)
     refine ⟨max k1 k2 + 1, fun k hk => ?_⟩
     obtain ⟨k, rfl⟩ : ∃ j, k = j + 1 := ⟨k - 1, by omega⟩
     rw [size_l0, if_pos (by omega), if_pos hnm, if_pos (by omega)]
     have e : rd_T35 l (i : Int) = l.getD i z35 := rfl
     rw [e, w64 (m - n) (by omega) (by omega), h1 k (by omega), Option.bind_some, w64 _ (by omega) (by omega), w64 _ (by omega) (by omega), show (i : Int) + 1 = ((i + 1 : Nat) : Int) by omega, h2 k (by omega), tsL_drop l i (by omega)]
     congr 1; omega
   · obtain ⟨k1, h1⟩ := hj n (by omega) hm2
     refine ⟨k1 + 1, fun k hk => ?_⟩
     obtain ⟨k, rfl⟩ : ∃ j, k = j + 1 := ⟨k - 1, by omega⟩
     rw [size_l0, if_pos (by omega), if_neg hnm, h1 k (by omega)]
     congr 1; omega
theorem size_all : ∀ v, SzP v := by
 refine S35.ind ?_
 intro v ih4 ih5 m h1 hm
 obtain ⟨k0, h⟩ := sz_l0 m hm v.f4 v.f5 v.f0 v.f1 v.f2 v.f3 ih4 ih5 v.f4.length 0 1 (by omega) (by omega) (by omega) h1
 refine ⟨k0 + 1, fun k hk => ?_⟩
 obtain ⟨k, rfl⟩ : ∃ j, k = j + 1 := ⟨k - 1, by omega⟩
 rw [size_f, show ((0 : Int)) = ((0 : Nat) : Int) from rfl, h k (by omega), tsV_eq]
 congr 1
theorem low_f (k : Nat) (a0 a1 a2 : Int) (a3 : ByteArray) (l : List S35) (d : List S89) (m : Int) : binderyref16_low.f (k + 1) a0 a1 a2 a3 l d m = if m < 0 then some false else binderyref16_low.l0 k m 0 a0 a1 a2 a3 l d := rfl
theorem low_l0 (k : Nat) (x1 x5 a0 a1 a2 : Int) (a3 : ByteArray) (l : List S35) (d : List S89) : binderyref16_low.l0 (k + 1) x1 x5 a0 a1 a2 a3 l d = if x5 < (l.length : Int) then (if 0 ≤ x5 then ((binderyref16_low.f k ((rd_T35 l x5).f0) ((rd_T35 l x5).f1) ((rd_T35 l x5).f2) ((rd_T35 l x5).f3) ((rd_T35 l x5).f4) ((rd_T35 l x5).f5) (wrap64 (x1 - 1))).bind fun t139 => (if t139 = true then (binderyref16_low.l0 k x1 (wrap64 (x5 + 1)) a0 a1 a2 a3 l d) else (some false))) else (none)) else (binderyref16_low.l1 k x1 0 a0 a1 a2 a3 l d) := rfl
theorem low_l1 (k : Nat) (x1 x6 a0 a1 a2 : Int) (a3 : ByteArray) (l : List S35) (d : List S89) : binderyref16_low.l1 (k + 1) x1 x6 a0 a1 a2 a3 l d = if x6 < (d.length : Int) then (if 0 ≤ x6 then ((binderyref16_low.f k ((rd_T89 d x6).f1.f0) ((rd_T89 d x6).f1.f1) ((rd_T89 d x6).f1.f2) ((rd_T89 d x6).f1.f3) ((rd_T89 d x6).f1.f4) ((rd_T89 d x6).f1.f5) (wrap64 (x1 - 1))).bind fun t141 => (if t141 = true then (binderyref16_low.l1 k x1 (wrap64 (x6 + 1)) a0 a1 a2 a3 l d) else (some false))) else (none)) else (some true) := rfl
def LwP (v : S35) : Prop := fewV v → ∀ m : Int, -1 ≤ m → m ≤ 1000000 → ∃ b k0, ∀ k, k0 ≤ k → binderyref16_low.f k v.f0 v.f1 v.f2 v.f3 v.f4 v.f5 m = some b
theorem lw_l1 (m : Int) (h0 : 0 ≤ m) (hm : m ≤ 1000000) (l : List S35) (d : List S89) (a0 a1 a2 : Int) (a3 : ByteArray) (hd : d.length ≤ 90000) (hf : ∀ p ∈ d, fewV p.f1) (ih : ∀ p ∈ d, LwP p.f1) :
 ∀ (r i : Nat), d.length - i = r → i ≤ d.length → ∃ b k0, ∀ k, k0 ≤ k → binderyref16_low.l1 k m i a0 a1 a2 a3 l d = some b := by
 intro r
 induction r with
 | zero =>
   intro i hr hi
   refine ⟨true, 1, fun k hk => ?_⟩
   obtain ⟨k, rfl⟩ : ∃ j, k = j + 1 := ⟨k - 1, by omega⟩
   rw [low_l1, if_neg (by omega)]
 | succ r ihr =>
   intro i hr hi
   have hmem := getD_mem d i (by omega) z89
   obtain ⟨b1, k1, h1⟩ := ih (d.getD i z89) hmem (hf _ hmem) (m - 1) (by omega) (by omega)
   obtain ⟨b2, k2, h2⟩ := ihr (i + 1) (by omega) (by omega)
   refine ⟨if b1 = true then b2 else false, max k1 k2 + 1, fun k hk => ?_⟩
   obtain ⟨k, rfl⟩ : ∃ j, k = j + 1 := ⟨k - 1, by omega⟩
   have e : rd_T89 d (i : Int) = d.getD i z89 := rfl
   rw [low_l1, if_pos (by omega), if_pos (by omega), e, w64 (m - 1) (by omega) (by omega), h1 k (by omega), Option.bind_some, w64 _ (by omega) (by omega), show (i : Int) + 1 = ((i + 1 : Nat) : Int) by omega, h2 k (by omega)]
   split <;> rfl
theorem lw_l0 (m : Int) (h0 : 0 ≤ m) (hm : m ≤ 1000000) (l : List S35) (d : List S89) (a0 a1 a2 : Int) (a3 : ByteArray) (hl : l.length ≤ 90000) (hd : d.length ≤ 90000) (hf4 : ∀ x ∈ l, fewV x) (hf : ∀ p ∈ d, fewV p.f1) (ih4 : ∀ x ∈ l, LwP x) (ih : ∀ p ∈ d, LwP p.f1) :
 ∀ (r i : Nat), l.length - i = r → i ≤ l.length → ∃ b k0, ∀ k, k0 ≤ k → binderyref16_low.l0 k m i a0 a1 a2 a3 l d = some b := by
 intro r
 induction r with
 | zero =>
   intro i hr hi
   obtain ⟨b, k0, h⟩ := lw_l1 m h0 hm l d a0 a1 a2 a3 hd hf ih d.length 0 (by omega) (by omega)
   refine ⟨b, k0 + 1, fun k hk => ?_⟩
   obtain ⟨k, rfl⟩ : ∃ j, k = j + 1 := ⟨k - 1, by omega⟩
   rw [low_l0, if_neg (by omega)]
   exact h k (by omega)
 | succ r ihr =>
   intro i hr hi
   have hmem := getD_mem l i (by omega) z35
   obtain ⟨b1, k1, h1⟩ := ih4 (l.getD i z35) hmem (hf4 _ hmem) (m - 1) (by omega) (by omega)
   obtain ⟨b2, k2, h2⟩ := ihr (i + 1) (by omega) (by omega)
   refine ⟨if b1 = true then b2 else false, max k1 k2 + 1, fun k hk => ?_⟩
   obtain ⟨k, rfl⟩ : ∃ j, k = j + 1 := ⟨k - 1, by omega⟩
   have e : rd_T35 l (i : Int) = l.getD i z35 := rfl
   rw [low_l0, if_pos (by omega), if_pos (by omega), e, w64 (m - 1) (by omega) (by omega), h1 k (by omega), Option.bind_some, w64 _ (by omega) (by omega), show (i : Int) + 1 = ((i + 1 : Nat) : Int) by omega, h2 k (by omega)]
   split <;> rfl
theorem low_all : ∀ v, LwP v := by
 refine S35.ind ?_
 intro v ih4 ih5 hf m h1 hm
 obtain ⟨g1, g2, g3, g4⟩ := fewV_at hf
 by_cases h0 : m < 0
 · refine ⟨false, 1, fun k hk => ?_⟩
   obtain ⟨k, rfl⟩ : ∃ j, k = j + 1 := ⟨k - 1, by omega⟩
   rw [low_f, if_pos h0]
 · obtain ⟨b, k0, h⟩ := lw_l0 m (by omega) hm v.f4 v.f5 v.f0 v.f1 v.f2 v.f3 g1 g2 g3 g4 ih4 ih5 v.f4.length 0 (by omega) (by omega)
   refine ⟨b, k0 + 1, fun k hk => ?_⟩
   obtain ⟨k, rfl⟩ : ∃ j, k = j + 1 := ⟨k - 1, by omega⟩
   rw [low_f, if_neg h0]
   exact h k (by omega)
theorem short_f (k : Nat) (a0 a1 a2 : Int) (a3 : ByteArray) (l : List S35) (d : List S89) (m : Int) : binderyref16_short.f (k + 1) a0 a1 a2 a3 l d m = if (a3.size : Int) > m then some false else binderyref16_short.l0 k m 0 a0 a1 a2 a3 l d := rfl
theorem short_l0 (k : Nat) (x1 x5 a0 a1 a2 : Int) (a3 : ByteArray) (l : List S35) (d : List S89) : binderyref16_short.l0 (k + 1) x1 x5 a0 a1 a2 a3 l d = if x5 < (l.length : Int) then (if 0 ≤ x5 then ((binderyref16_short.f k ((rd_T35 l x5).f0) ((rd_T35 l x5).f1) ((rd_T35 l x5).f2) ((rd_T35 l x5).f3) ((rd_T35 l x5).f4) ((rd_T35 l x5).f5) x1).bind fun t144 => (if t144 = true then (binderyref16_short.l0 k x1 (wrap64 (x5 + 1)) a0 a1 a2 a3 l d) else (some false))) else (none)) else (binderyref16_short.l1 k x1 0 a0 a1 a2 a3 l d) := rfl
theorem short_l1 (k : Nat) (x1 x6 a0 a1 a2 : Int) (a3 : ByteArray) (l : List S35) (d : List S89) : binderyref16_short.l1 (k + 1) x1 x6 a0 a1 a2 a3 l d = if x6 < (d.length : Int) then (if 0 ≤ x6 then (if (((rd_T89 d x6).f0).size : Int) > x1 then (some false) else ((binderyref16_short.f k ((rd_T89 d x6).f1.f0) ((rd_T89 d x6).f1.f1) ((rd_T89 d x6).f1.f2) ((rd_T89 d x6).f1.f3) ((rd_T89 d x6).f1.f4) ((rd_T89 d x6).f1.f5) x1).bind fun t147 => (if t147 = true then (binderyref16_short.l1 k x1 (wrap64 (x6 + 1)) a0 a1 a2 a3 l d) else (some false)))) else (none)) else (some true) := rfl
theorem szL_of : ∀ {l : List S35}, (∀ x ∈ l, szV x) → szL l
 | [], _ => by simp [szL]
 | x :: r, h => by rw [szL]; exact ⟨h x (by simp), szL_of fun y hy => h y (by simp [hy])⟩
theorem szD_of : ∀ {l : List S89}, (∀ p ∈ l, p.f0.size ≤ 9223372036854775807 ∧ szV p.f1) → szD l
 | [], _ => by simp [szD]
 | x :: r, h => by rw [szD]; exact ⟨by have := h x (by simp); cases x; rw [szP]; exact this, szD_of fun y hy => h y (by simp [hy])⟩
theorem szV_of {v : S35} (h3 : v.f3.size ≤ 9223372036854775807) (hl : ∀ x ∈ v.f4, szV x) (hd : ∀ p ∈ v.f5, p.f0.size ≤ 9223372036854775807 ∧ szV p.f1) : szV v := by
 cases v; rw [szV]; exact ⟨h3, szL_of hl, szD_of hd⟩
def ShP (v : S35) : Prop := fewV v → ∀ m : Int, m ≤ 1000000 → ∃ b k0, (b = true → szV v) ∧ ∀ k, k0 ≤ k → binderyref16_short.f k v.f0 v.f1 v.f2 v.f3 v.f4 v.f5 m = some b
theorem sh_l1 (m : Int) (hm : m ≤ 1000000) (l : List S35) (d : List S89) (a0 a1 a2 : Int) (a3 : ByteArray) (hd : d.length ≤ 90000) (hf : ∀ p ∈ d, fewV p.f1) (ih : ∀ p ∈ d, ShP p.f1) :
 ∀ (r i : Nat), d.length - i = r → i ≤ d.length → ∃ b k0, (b = true → ∀ p ∈ d.drop i, p.f0.size ≤ 9223372036854775807 ∧ szV p.f1) ∧ ∀ k, k0 ≤ k → binderyref16_short.l1 k m i a0 a1 a2 a3 l d = some b := by
 intro r
 induction r with
 | zero =>
   intro i hr hi
   refine ⟨true, 1, fun _ p hp => by rw [List.drop_eq_nil_of_le (by omega)] at hp; simp at hp, fun k hk => ?_⟩
   obtain ⟨k, rfl⟩ : ∃ j, k = j + 1 := ⟨k - 1, by omega⟩
   rw [short_l1, if_neg (by omega)]
 | succ r ihr =>
   intro i hr hi
   have hmem := getD_mem d i (by omega) z89
   obtain ⟨b1, k1, g1, h1⟩ := ih (d.getD i z89) hmem (hf _ hmem) m hm
   obtain ⟨b2, k2, g2, h2⟩ := ihr (i + 1) (by omega) (by omega)
   have e : rd_T89 d (i : Int) = d.getD i z89 := rfl
   by_cases hs : ((d.getD i z89).f0.size : Int) > m
   · refine ⟨false, 1, (fun h => by cases h), fun k hk => ?_⟩
     obtain ⟨k, rfl⟩ : ∃ j, k = j + 1 := ⟨k - 1, by omega⟩
     rw [short_l1, if_pos (by omega), if_pos (by omega), e, if_pos hs]
   · refine ⟨if b1 = true then b2 else false, max k1 k2 + 1, fun h p hp => ?_, fun k hk => ?_⟩
     · cases b1 with
       | false => simp at h
       | true =>
         have hb2 : b2 = true := by simpa using h
         rw [List.drop_eq_getElem_cons (by omega)] at hp
         rcases List.mem_cons.1 hp with rfl | hp
         · have e2 : d[i] = d.getD i z89 := by rw [List.getD_eq_getElem?_getD, List.getElem?_eq_getElem (by omega)]; rfl
           rw [e2]
           exact ⟨by omega, g1 rfl⟩
         · exact g2 hb2 p hp
     · obtain ⟨k, rfl⟩ : ∃ j, k = j + 1 := ⟨k - 1, by omega⟩
       rw [short_l1, if_pos (by omega), if_pos (by omega), e, if_neg hs, h1 k (by omega), Option.bind_some, w64 _ (by omega) (by omega), show (i : Int) + 1 = ((i + 1 : Nat) : Int) by omega, h2 k (by omega)]
       split <;> rfl
theorem sh_l0 (m : Int) (hm : m ≤ 1000000) (l : List S35) (d : List S89) (a0 a1 a2 : Int) (a3 : ByteArray) (hl : l.length ≤ 90000) (hd : d.length ≤ 90000) (hf4 : ∀ x ∈ l, fewV x) (hf : ∀ p ∈ d, fewV p.f1) (ih4 : ∀ x ∈ l, ShP x) (ih : ∀ p ∈ d, ShP p.f1) :
 ∀ (r i : Nat), l.length - i = r → i ≤ l.length → ∃ b k0, (b = true → (∀ x ∈ l.drop i, szV x) ∧ ∀ p ∈ d, p.f0.size ≤ 9223372036854775807 ∧ szV p.f1) ∧ ∀ k, k0 ≤ k → binderyref16_short.l0 k m i a0 a1 a2 a3 l d = some b := by
 intro r
 induction r with
 | zero =>
   intro i hr hi
   obtain ⟨b, k0, g, h⟩ := sh_l1 m hm l d a0 a1 a2 a3 hd hf ih d.length 0 (by omega) (by omega)
   refine ⟨b, k0 + 1, fun hb => ⟨fun x hx => by rw [List.drop_eq_nil_of_le (by omega)] at hx; simp at hx, by simpa using g hb⟩, fun k hk => ?_⟩
   obtain ⟨k, rfl⟩ : ∃ j, k = j + 1 := ⟨k - 1, by omega⟩
   rw [short_l0, if_neg (by omega)]
   exact h k (by omega)
 | succ r ihr =>
   intro i hr hi
   have hmem := getD_mem l i (by omega) z35
   obtain ⟨b1, k1, g1, h1⟩ := ih4 (l.getD i z35) hmem (hf4 _ hmem) m hm
   obtain ⟨b2, k2, g2, h2⟩ := ihr (i + 1) (by omega) (by omega)
   have e : rd_T35 l (i : Int) = l.getD i z35 := rfl
   refine ⟨if b1 = true then b2 else false, max k1 k2 + 1, fun h => ?_, fun k hk => ?_⟩
   · cases b1 with
     | false => simp at h
     | true =>
       have hb2 : b2 = true := by simpa using h
       refine ⟨fun x hx => ?_, (g2 hb2).2⟩
       rw [List.drop_eq_getElem_cons (by omega)] at hx
       rcases List.mem_cons.1 hx with rfl | hx
       · have e2 : l[i] = l.getD i z35 := by rw [List.getD_eq_getElem?_getD, List.getElem?_eq_getElem (by omega)]; rfl
         rw [e2]
         exact g1 rfl
       · exact (g2 hb2).1 x hx
   · obtain ⟨k, rfl⟩ : ∃ j, k = j + 1 := ⟨k - 1, by omega⟩
     rw [short_l0, if_pos (by omega), if_pos (by omega), e, h1 k (by omega), Option.bind_some, w64 _ (by omega) (by omega), show (i : Int) + 1 = ((i + 1 : Nat) : Int) by omega, h2 k (by omega)]
     split <;> rfl
theorem short_all : ∀ v, ShP v := by
 refine S35.ind ?_
 intro v ih4 ih5 hf m hm
 obtain ⟨g1, g2, g3, g4⟩ := fewV_at hf
 by_cases h0 : (v.f3.size : Int) > m
 · refine ⟨false, 1, (fun h => by cases h), fun k hk => ?_⟩
   obtain ⟨k, rfl⟩ : ∃ j, k = j + 1 := ⟨k - 1, by omega⟩
   rw [short_f, if_pos h0]
 · obtain ⟨b, k0, g, h⟩ := sh_l0 m hm v.f4 v.f5 v.f0 v.f1 v.f2 v.f3 g1 g2 g3 g4 ih4 ih5 v.f4.length 0 (by omega) (by omega)
   refine ⟨b, k0 + 1, fun hb => szV_of (by omega) (by simpa using (g hb).1) (g hb).2, fun k hk => ?_⟩
   obtain ⟨k, rfl⟩ : ∃ j, k = j + 1 := ⟨k - 1, by omega⟩
   rw [short_f, if_neg h0]
   exact h k (by omega)
theorem few_all (v : S35) (m : Int) (h1 : 1 ≤ m) (hm : m ≤ 90000) : ∃ b k0, (b = true → (tsV v : Int) ≤ m ∧ fewV v ∧ szV v) ∧ ∀ k, k0 ≤ k → binderyref16_Few.f k v.f0 v.f1 v.f2 v.f3 v.f4 v.f5 m = some b := by
 obtain ⟨k1, h2⟩ := size_all v (m + 1) (by omega) (by omega)
 by_cases ht : (tsV v : Int) ≤ m
 · have hf := few_ts v (by omega)
   obtain ⟨b2, k2, h3⟩ := low_all v hf 200 (by omega) (by omega)
   obtain ⟨b3, k3, g3, h4⟩ := short_all v hf 3000 (by omega)
   refine ⟨if b2 = true then b3 else false, max k1 (max k2 k3), fun h => ⟨ht, hf, g3 ?_⟩, fun k hk => ?_⟩
   · cases b2 with
     | false => simp at h
     | true => simpa using h
   · unfold binderyref16_Few.f
     rw [w64 _ (by omega) (by omega), h2 k (by omega), Option.bind_some, if_pos (by omega), h3 k (by omega), Option.bind_some, h4 k (by omega)]
     cases b2 <;> rfl
 · refine ⟨false, k1, (fun h => by cases h), fun k hk => ?_⟩
   unfold binderyref16_Few.f
   rw [w64 _ (by omega) (by omega), h2 k (by omega), Option.bind_some, if_neg (by omega)]
end Go.Proofs.Ytogpnkkoablmiaa.P
