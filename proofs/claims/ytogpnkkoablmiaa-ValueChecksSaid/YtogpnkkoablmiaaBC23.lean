/- Parts of the proof: what the theorem reaches, put together by a program of this session. -/
import Derived.ArgAppend
import Derived.Below
import Derived.BigGuardPart
import Derived.BigQuiet
import Derived.Deep.AppendLies
import Derived.Deep.CutBlock
import Derived.Deep.DeepCutAuto
import Derived.Deep.Draws
import Derived.Deep.LoopGhost
import Derived.Deep.OwnRows
import Derived.Deep.QuietTactic
import Derived.Deep.RegionHeld3
import Derived.KernelRfl
import Derived.Laws.BitsLemmas
import Derived.Laws.BytesArg
import Derived.Laws.IdiomCopy
import Derived.Laws.MakeOwn
import Derived.Laws.OwnMore
import Derived.Laws.Rows
import Derived.Laws.Slices
import Derived.Laws.StructEq
import Derived.Lib.AppendStr
import Derived.Lib.Bytealg
import Derived.Lib.ConvBytes
import Derived.Maps.AppendAt
import Derived.Maps.OwnOps
import Derived.Maps.Views
import Derived.OrdersHeld
import Derived.OwnWalk
import Derived.RowKit
import Derived.RowKit3
import Derived.Tactics
import Derived.Test.YtogpnkkoablmiaaProg
import Derived.WalkKit
import Derived.WideLaws
import Derived.Test.YtogpnkkoablmiaaBC1
import Derived.Test.YtogpnkkoablmiaaBC2
import Derived.Test.YtogpnkkoablmiaaBC3
import Derived.Test.YtogpnkkoablmiaaBC4
import Derived.Test.YtogpnkkoablmiaaBC5
import Derived.Test.YtogpnkkoablmiaaBC6
import Derived.Test.YtogpnkkoablmiaaBC10
import Derived.Test.YtogpnkkoablmiaaBC11
import Derived.Test.YtogpnkkoablmiaaBC12
import Derived.Test.YtogpnkkoablmiaaBC13
import Derived.Test.YtogpnkkoablmiaaBC18
import Derived.Test.YtogpnkkoablmiaaBC19
import Derived.Test.YtogpnkkoablmiaaBC21
namespace Go.Proofs.Ytogpnkkoablmiaa.P
open Go.RowKit Go.Proofs.Ytogpnkkoablmiaa.V Go.Proofs.Ytogpnkkoablmiaa.Q Go.Proofs.YtogpnkkoablmiaaW.PrintWords Go.Proofs.YtogpnkkoablmiaaW.PrintLast Go.Proofs.YtogpnkkoablmiaaW.PrintMore
set_option linter.unusedVariables false
set_option linter.unusedSimpArgs false
mutual
/-- How deep a value is. -/
def dpV : S35 → Int
  | ⟨k, _, _, _, l, d⟩ => if k = 5 ∨ k = 6 ∨ k = 8 then mx (mx 0 (dpL l)) (dpD d) + 1 else 0
def dpL : List S35 → Int
  | [] => 0
  | x :: r => mx (dpV x) (dpL r)
def dpD : List (P89 S35) → Int
  | [] => 0
  | p :: r => mx (dpP p) (dpD r)
def dpP : P89 S35 → Int
  | ⟨_, v⟩ => dpV v
end
theorem dpV_eq (v : S35) : dpV v = if v.f0 = 5 ∨ v.f0 = 6 ∨ v.f0 = 8 then mx (mx 0 (dpL v.f4)) (dpD v.f5) + 1 else 0 := by cases v; rw [dpV]
theorem dpP_eq (p : S89) : dpP p = dpV p.f1 := by cases p; rw [dpP]
theorem mx_eq (a b : Int) : mx a b = max a b := by unfold mx; split <;> omega
theorem dp_bound : ∀ v : S35, 0 ≤ dpV v ∧ dpV v ≤ tsV v := by
  refine S35.ind ?_
  intro v ih4 ih5
  have h4 : ∀ l : List S35, (∀ x ∈ l, 0 ≤ dpV x ∧ dpV x ≤ tsV x) → 0 ≤ dpL l ∧ dpL l ≤ tsL l := by
    intro l
    induction l with
    | nil => intro _; simp [dpL, tsL]
    | cons x r ih =>
      intro h
      have h1 := h x (by simp)
      have h2 := ih (fun y hy => h y (by simp [hy]))
      rw [dpL, tsL, mx_eq]; omega
  have h5 : ∀ l : List S89, (∀ p ∈ l, 0 ≤ dpV p.f1 ∧ dpV p.f1 ≤ tsV p.f1) → 0 ≤ dpD l ∧ dpD l ≤ tsD l := by
    intro l
    induction l with
    | nil => intro _; simp [dpD, tsD]
    | cons x r ih =>
      intro h
      have h1 := h x (by simp)
      have h2 := ih (fun y hy => h y (by simp [hy]))
      rw [dpD, tsD, mx_eq, dpP_eq, tsP_eq]; omega
  have a4 := h4 v.f4 ih4
  have a5 := h5 v.f5 ih5
  rw [dpV_eq, tsV_eq, mx_eq, mx_eq]
  split <;> omega
theorem dpL_drop (l : List S35) (i : Nat) (h : i < l.length) : dpL (l.drop i) = mx (dpV (l.getD i z35)) (dpL (l.drop (i + 1))) := by
  rw [List.drop_eq_getElem_cons h, dpL, List.getD_eq_getElem?_getD, List.getElem?_eq_getElem h]; rfl
theorem dpD_drop (l : List S89) (i : Nat) (h : i < l.length) : dpD (l.drop i) = mx (dpV (l.getD i z89).f1) (dpD (l.drop (i + 1))) := by
  rw [List.drop_eq_getElem_cons h, dpD, dpP_eq, List.getD_eq_getElem?_getD, List.getElem?_eq_getElem h]; rfl
theorem holds_f (k : Nat) (a0 a1 a2 : Int) (a3 : ByteArray) (l : List S35) (d : List S89) : value_holds.f (k + 2) a0 a1 a2 a3 l d = some (decide (a0 = 5 ∨ a0 = 6 ∨ a0 = 8)) := by
  unfold value_holds.f value_has.f
  rcases kinds9 a0 with rfl | rfl | rfl | rfl | rfl | rfl | rfl | rfl | rfl | ⟨h0, h1, h2, h3, h4, h5, h6, h7, h8⟩
  all_goals first
    | rfl
    | (simp [value_has.j0, value_has.j1, *])
theorem holder_f (a0 : Int) : binderyref16_holder.f a0 = some (decide (a0 = 5 ∨ a0 = 6 ∨ a0 = 8)) := by
  unfold binderyref16_holder.f
  split
  · rename_i h; simp [h]
  · split
    · rename_i h; simp [h]
    · rename_i h1 h2; simp [h1, h2]; rfl
theorem vdp_f (k : Nat) (a0 a1 a2 : Int) (a3 : ByteArray) (l : List S35) (d : List S89) : value_Depth.f (k + 1) a0 a1 a2 a3 l d = value_Depth.l0 k 0 l (l.length : Int) 0 a0 a1 a2 a3 l d := rfl
theorem vdp_l0 (k : Nat) (n i : Int) (x9 : List S35) (x10 : Int) (a0 a1 a2 : Int) (a3 : ByteArray) (l : List S35) (d : List S89) : value_Depth.l0 (k + 1) n x9 x10 i a0 a1 a2 a3 l d = if i < x10 then (if 0 ≤ i then (if i < (x9.length : Int) then ((value_Depth.f k ((rd_T35 x9 i).f0) ((rd_T35 x9 i).f1) ((rd_T35 x9 i).f2) ((rd_T35 x9 i).f3) ((rd_T35 x9 i).f4) ((rd_T35 x9 i).f5)).bind fun t => (value_Depth.l0 k (mx n t) x9 x10 (wrap64 (i + 1)) a0 a1 a2 a3 l d)) else (none)) else (none)) else (value_Depth.l1 k n d (d.length : Int) 0 a0 a1 a2 a3 l d) := rfl
theorem vdp_l1 (k : Nat) (n i : Int) (x9 : List S89) (x10 : Int) (a0 a1 a2 : Int) (a3 : ByteArray) (l : List S35) (d : List S89) : value_Depth.l1 (k + 1) n x9 x10 i a0 a1 a2 a3 l d = if i < x10 then (if 0 ≤ i then (if i < (x9.length : Int) then ((value_Depth.f k ((rd_T89 x9 i).f1.f0) ((rd_T89 x9 i).f1.f1) ((rd_T89 x9 i).f1.f2) ((rd_T89 x9 i).f1.f3) ((rd_T89 x9 i).f1.f4) ((rd_T89 x9 i).f1.f5)).bind fun t => (value_Depth.l1 k (mx n t) x9 x10 (wrap64 (i + 1)) a0 a1 a2 a3 l d)) else (none)) else (none)) else ((value_holds.f k a0 a1 a2 a3 l d).bind fun t => (if t = true then (some (wrap64 (n + 1))) else (some 0))) := rfl
def vdpP (v : S35) : Prop := tsV v ≤ 90000 → ∃ k0, ∀ k, k0 ≤ k → value_Depth.f k v.f0 v.f1 v.f2 v.f3 v.f4 v.f5 = some (dpV v)
theorem vdp_d (a0 a1 a2 : Int) (a3 : ByteArray) (l : List S35) (d : List S89) (hts : tsD d ≤ 90000) (ih : ∀ p ∈ d, vdpP p.f1) :
    ∀ (r i : Nat) (n : Int), d.length - i = r → i ≤ d.length → 0 ≤ n → n ≤ 90000 → ∃ k0, ∀ k, k0 ≤ k → value_Depth.l1 k n d (d.length : Int) i a0 a1 a2 a3 l d = some (if a0 = 5 ∨ a0 = 6 ∨ a0 = 8 then mx n (dpD (d.drop i)) + 1 else 0) := by
  have hdl := tsD_len d
  intro r
  induction r with
  | zero =>
    intro i n hr hi hn hm
    refine ⟨3, fun k hk => ?_⟩
    obtain ⟨k, rfl⟩ : ∃ j, k = j + 3 := ⟨k - 3, by omega⟩
    rw [vdp_l1, if_neg (by omega), List.drop_eq_nil_of_le (by omega)]
    rw [holds_f, Option.bind_some]
    have e : mx n (dpD []) = n := by rw [dpD, mx_eq]; omega
    rw [e]
    by_cases h : a0 = 5 ∨ a0 = 6 ∨ a0 = 8
    · rw [if_pos h, if_pos (decide_eq_true h), w64 _ (by omega) (by omega)]
    · rw [if_neg h, if_neg (by simpa using h)]
  | succ r ihr =>
    intro i n hr hi hn hm
    have hmem := getD_mem d i (by omega) z89
    have hsm := tsD_mem hmem
    obtain ⟨k1, h1⟩ := ih (d.getD i z89) hmem (by omega)
    have hb := dp_bound (d.getD i z89).f1
    obtain ⟨k2, h2⟩ := ihr (i + 1) (mx n (dpV (d.getD i z89).f1)) (by omega) (by omega) (by rw [mx_eq]; omega) (by rw [mx_eq]; omega)
    refine ⟨max k1 k2 + 1, fun k hk => ?_⟩
    obtain ⟨k, rfl⟩ : ∃ j, k = j + 1 := ⟨k - 1, by omega⟩
    rw [vdp_l1, if_pos (by omega), if_pos (by omega), if_pos (by omega)]
    have e : rd_T89 d (i : Int) = d.getD i z89 := rfl
    rw [e, h1 k (by omega), Option.bind_some, w64 ((i : Int) + 1) (by omega) (by omega), show (i : Int) + 1 = ((i + 1 : Nat) : Int) by omega, h2 k (by omega), dpD_drop d i (by omega)]
    simp only [mx_eq, Int.max_assoc]
theorem vdp_l (a0 a1 a2 : Int) (a3 : ByteArray) (l : List S35) (d : List S89) (hts : tsL l + tsD d ≤ 90000) (ih4 : ∀ x ∈ l, vdpP x) (ih : ∀ p ∈ d, vdpP p.f1) :
    ∀ (r i : Nat) (n : Int), l.length - i = r → i ≤ l.length → 0 ≤ n → n ≤ 90000 → ∃ k0, ∀ k, k0 ≤ k → value_Depth.l0 k n l (l.length : Int) i a0 a1 a2 a3 l d = some (if a0 = 5 ∨ a0 = 6 ∨ a0 = 8 then mx (mx n (dpL (l.drop i))) (dpD d) + 1 else 0) := by
  have hdl := tsL_len l
  intro r
  induction r with
  | zero =>
    intro i n hr hi hn hm
    obtain ⟨k1, h1⟩ := vdp_d a0 a1 a2 a3 l d (by omega) ih d.length 0 n (by omega) (by omega) (by omega) (by omega)
    refine ⟨k1 + 1, fun k hk => ?_⟩
    obtain ⟨k, rfl⟩ : ∃ j, k = j + 1 := ⟨k - 1, by omega⟩
    rw [vdp_l0, if_neg (by omega), List.drop_eq_nil_of_le (by omega), show ((0 : Int)) = ((0 : Nat) : Int) from rfl, h1 k (by omega), List.drop_zero]
    rw [show mx n (dpL []) = n by rw [dpL, mx_eq]; omega]; try rfl
  | succ r ihr =>
    intro i n hr hi hn hm
    have hmem := getD_mem l i (by omega) z35
    have hsm := tsL_mem hmem
    obtain ⟨k1, h1⟩ := ih4 (l.getD i z35) hmem (by omega)
    have hb := dp_bound (l.getD i z35)
    obtain ⟨k2, h2⟩ := ihr (i + 1) (mx n (dpV (l.getD i z35))) (by omega) (by omega) (by rw [mx_eq]; omega) (by rw [mx_eq]; omega)
    refine ⟨max k1 k2 + 1, fun k hk => ?_⟩
    obtain ⟨k, rfl⟩ : ∃ j, k = j + 1 := ⟨k - 1, by omega⟩
    rw [vdp_l0, if_pos (by omega), if_pos (by omega), if_pos (by omega)]
    have e : rd_T35 l (i : Int) = l.getD i z35 := rfl
    rw [e, h1 k (by omega), Option.bind_some, w64 ((i : Int) + 1) (by omega) (by omega), show (i : Int) + 1 = ((i + 1 : Nat) : Int) by omega, h2 k (by omega), dpL_drop l i (by omega)]
    simp only [mx_eq, Int.max_assoc]
theorem vdp_all : ∀ v, vdpP v := by
  refine S35.ind ?_
  intro v ih4 ih5 hts
  rw [tsV_eq] at hts
  obtain ⟨k0, h⟩ := vdp_l v.f0 v.f1 v.f2 v.f3 v.f4 v.f5 (by omega) ih4 ih5 v.f4.length 0 0 (by omega) (by omega) (by omega) (by omega)
  refine ⟨k0 + 1, fun k hk => ?_⟩
  obtain ⟨k, rfl⟩ : ∃ j, k = j + 1 := ⟨k - 1, by omega⟩
  have h := h k (by omega)
  rw [show ((0 : Nat) : Int) = 0 from rfl] at h
  rw [vdp_f, h, List.drop_zero]
  rw [dpV_eq]
theorem rdp_f (k : Nat) (a0 a1 a2 : Int) (a3 : ByteArray) (l : List S35) (d : List S89) : binderyref16_Depth.f (k + 1) a0 a1 a2 a3 l d = binderyref16_Depth.l0 k 0 0 a0 a1 a2 a3 l d := rfl
theorem rdp_l0 (k : Nat) (n i : Int) (a0 a1 a2 : Int) (a3 : ByteArray) (l : List S35) (d : List S89) : binderyref16_Depth.l0 (k + 1) n i a0 a1 a2 a3 l d = if i < (l.length : Int) then (if 0 ≤ i then ((binderyref16_Depth.f k ((rd_T35 l i).f0) ((rd_T35 l i).f1) ((rd_T35 l i).f2) ((rd_T35 l i).f3) ((rd_T35 l i).f4) ((rd_T35 l i).f5)).bind fun t => (binderyref16_Depth.l0 k (mx n t) (wrap64 (i + 1)) a0 a1 a2 a3 l d)) else (none)) else (binderyref16_Depth.l1 k n 0 a0 a1 a2 a3 l d) := rfl
theorem rdp_l1 (k : Nat) (n i : Int) (a0 a1 a2 : Int) (a3 : ByteArray) (l : List S35) (d : List S89) : binderyref16_Depth.l1 (k + 1) n i a0 a1 a2 a3 l d = if i < (d.length : Int) then (if 0 ≤ i then ((binderyref16_Depth.f k ((rd_T89 d i).f1.f0) ((rd_T89 d i).f1.f1) ((rd_T89 d i).f1.f2) ((rd_T89 d i).f1.f3) ((rd_T89 d i).f1.f4) ((rd_T89 d i).f1.f5)).bind fun t => (binderyref16_Depth.l1 k (mx n t) (wrap64 (i + 1)) a0 a1 a2 a3 l d)) else (none)) else ((binderyref16_holder.f a0).bind fun t => (if t = true then (some (wrap64 (n + 1))) else (some 0))) := rfl
def rdpP (v : S35) : Prop := tsV v ≤ 90000 → ∃ k0, ∀ k, k0 ≤ k → binderyref16_Depth.f k v.f0 v.f1 v.f2 v.f3 v.f4 v.f5 = some (dpV v)
theorem rdp_d (a0 a1 a2 : Int) (a3 : ByteArray) (l : List S35) (d : List S89) (hts : tsD d ≤ 90000) (ih : ∀ p ∈ d, rdpP p.f1) :
    ∀ (r i : Nat) (n : Int), d.length - i = r → i ≤ d.length → 0 ≤ n → n ≤ 90000 → ∃ k0, ∀ k, k0 ≤ k → binderyref16_Depth.l1 k n i a0 a1 a2 a3 l d = some (if a0 = 5 ∨ a0 = 6 ∨ a0 = 8 then mx n (dpD (d.drop i)) + 1 else 0) := by
  have hdl := tsD_len d
  intro r
  induction r with
  | zero =>
    intro i n hr hi hn hm
    refine ⟨1, fun k hk => ?_⟩
    obtain ⟨k, rfl⟩ : ∃ j, k = j + 1 := ⟨k - 1, by omega⟩
    rw [rdp_l1, if_neg (by omega), List.drop_eq_nil_of_le (by omega)]
    rw [holder_f, Option.bind_some]
    have e : mx n (dpD []) = n := by rw [dpD, mx_eq]; omega
    rw [e]
    by_cases h : a0 = 5 ∨ a0 = 6 ∨ a0 = 8
    · rw [if_pos h, if_pos (decide_eq_true h), w64 _ (by omega) (by omega)]
    · rw [if_neg h, if_neg (by simpa using h)]
  | succ r ihr =>
    intro i n hr hi hn hm
    have hmem := getD_mem d i (by omega) z89
    have hsm := tsD_mem hmem
    obtain ⟨k1, h1⟩ := ih (d.getD i z89) hmem (by omega)
    have hb := dp_bound (d.getD i z89).f1
    obtain ⟨k2, h2⟩ := ihr (i + 1) (mx n (dpV (d.getD i z89).f1)) (by omega) (by omega) (by rw [mx_eq]; omega) (by rw [mx_eq]; omega)
    refine ⟨max k1 k2 + 1, fun k hk => ?_⟩
    obtain ⟨k, rfl⟩ : ∃ j, k = j + 1 := ⟨k - 1, by omega⟩
    rw [rdp_l1, if_pos (by omega), if_pos (by omega)]
    have e : rd_T89 d (i : Int) = d.getD i z89 := rfl
    rw [e, h1 k (by omega), Option.bind_some, w64 ((i : Int) + 1) (by omega) (by omega), show (i : Int) + 1 = ((i + 1 : Nat) : Int) by omega, h2 k (by omega), dpD_drop d i (by omega)]
    simp only [mx_eq, Int.max_assoc]
theorem rdp_l (a0 a1 a2 : Int) (a3 : ByteArray) (l : List S35) (d : List S89) (hts : tsL l + tsD d ≤ 90000) (ih4 : ∀ x ∈ l, rdpP x) (ih : ∀ p ∈ d, rdpP p.f1) :
    ∀ (r i : Nat) (n : Int), l.length - i = r → i ≤ l.length → 0 ≤ n → n ≤ 90000 → ∃ k0, ∀ k, k0 ≤ k → binderyref16_Depth.l0 k n i a0 a1 a2 a3 l d = some (if a0 = 5 ∨ a0 = 6 ∨ a0 = 8 then mx (mx n (dpL (l.drop i))) (dpD d) + 1 else 0) := by
  have hdl := tsL_len l
  intro r
  induction r with
  | zero =>
    intro i n hr hi hn hm
    obtain ⟨k1, h1⟩ := rdp_d a0 a1 a2 a3 l d (by omega) ih d.length 0 n (by omega) (by omega) (by omega) (by omega)
    refine ⟨k1 + 1, fun k hk => ?_⟩
    obtain ⟨k, rfl⟩ : ∃ j, k = j + 1 := ⟨k - 1, by omega⟩
    rw [rdp_l0, if_neg (by omega), List.drop_eq_nil_of_le (by omega), show ((0 : Int)) = ((0 : Nat) : Int) from rfl, h1 k (by omega), List.drop_zero]
    rw [show mx n (dpL []) = n by rw [dpL, mx_eq]; omega]; try rfl
  | succ r ihr =>
    intro i n hr hi hn hm
    have hmem := getD_mem l i (by omega) z35
    have hsm := tsL_mem hmem
    obtain ⟨k1, h1⟩ := ih4 (l.getD i z35) hmem (by omega)
    have hb := dp_bound (l.getD i z35)
    obtain ⟨k2, h2⟩ := ihr (i + 1) (mx n (dpV (l.getD i z35))) (by omega) (by omega) (by rw [mx_eq]; omega) (by rw [mx_eq]; omega)
    refine ⟨max k1 k2 + 1, fun k hk => ?_⟩
    obtain ⟨k, rfl⟩ : ∃ j, k = j + 1 := ⟨k - 1, by omega⟩
    rw [rdp_l0, if_pos (by omega), if_pos (by omega)]
    have e : rd_T35 l (i : Int) = l.getD i z35 := rfl
    rw [e, h1 k (by omega), Option.bind_some, w64 ((i : Int) + 1) (by omega) (by omega), show (i : Int) + 1 = ((i + 1 : Nat) : Int) by omega, h2 k (by omega), dpL_drop l i (by omega)]
    simp only [mx_eq, Int.max_assoc]
theorem rdp_all : ∀ v, rdpP v := by
  refine S35.ind ?_
  intro v ih4 ih5 hts
  rw [tsV_eq] at hts
  obtain ⟨k0, h⟩ := rdp_l v.f0 v.f1 v.f2 v.f3 v.f4 v.f5 (by omega) ih4 ih5 v.f4.length 0 0 (by omega) (by omega) (by omega) (by omega)
  refine ⟨k0 + 1, fun k hk => ?_⟩
  obtain ⟨k, rfl⟩ : ∃ j, k = j + 1 := ⟨k - 1, by omega⟩
  have h := h k (by omega)
  rw [show ((0 : Nat) : Int) = 0 from rfl] at h
  rw [rdp_f, h, List.drop_zero]
  rw [dpV_eq]
theorem vsz_f (k : Nat) (a0 a1 a2 : Int) (a3 : ByteArray) (l : List S35) (d : List S89) : value_Size.f (k + 1) a0 a1 a2 a3 l d = value_Size.l0 k 1 l (l.length : Int) 0 a0 a1 a2 a3 l d := rfl
theorem vsz_l0 (k : Nat) (n i : Int) (x9 : List S35) (x10 : Int) (a0 a1 a2 : Int) (a3 : ByteArray) (l : List S35) (d : List S89) : value_Size.l0 (k + 1) n x9 x10 i a0 a1 a2 a3 l d = if i < x10 then (if 0 ≤ i then (if i < (x9.length : Int) then ((value_Size.f k ((rd_T35 x9 i).f0) ((rd_T35 x9 i).f1) ((rd_T35 x9 i).f2) ((rd_T35 x9 i).f3) ((rd_T35 x9 i).f4) ((rd_T35 x9 i).f5)).bind fun t => (value_Size.l0 k (wrap64 (n + t)) x9 x10 (wrap64 (i + 1)) a0 a1 a2 a3 l d)) else (none)) else (none)) else (value_Size.l1 k n d (d.length : Int) 0 ) := rfl
theorem vsz_l1 (k : Nat) (n i : Int) (x9 : List S89) (x10 : Int)  : value_Size.l1 (k + 1) n x9 x10 i  = if i < x10 then (if 0 ≤ i then (if i < (x9.length : Int) then ((value_Size.f k ((rd_T89 x9 i).f1.f0) ((rd_T89 x9 i).f1.f1) ((rd_T89 x9 i).f1.f2) ((rd_T89 x9 i).f1.f3) ((rd_T89 x9 i).f1.f4) ((rd_T89 x9 i).f1.f5)).bind fun t => (value_Size.l1 k (wrap64 (n + t)) x9 x10 (wrap64 (i + 1)) )) else (none)) else (none)) else (some n) := rfl
def vszP (v : S35) : Prop := tsV v ≤ 90000 → ∃ k0, ∀ k, k0 ≤ k → value_Size.f k v.f0 v.f1 v.f2 v.f3 v.f4 v.f5 = some (tsV v : Int)
theorem vsz_d (a0 a1 a2 : Int) (a3 : ByteArray) (l : List S35) (d : List S89) (hts : tsD d ≤ 90000) (ih : ∀ p ∈ d, vszP p.f1) :
    ∀ (r i : Nat) (n : Int), d.length - i = r → i ≤ d.length → 0 ≤ n → n + tsD (d.drop i) ≤ 90000 → ∃ k0, ∀ k, k0 ≤ k → value_Size.l1 k n d (d.length : Int) i  = some (n + (tsD (d.drop i) : Int)) := by
  have hdl := tsD_len d
  intro r
  induction r with
  | zero =>
    intro i n hr hi hn hm
    refine ⟨1, fun k hk => ?_⟩
    obtain ⟨k, rfl⟩ : ∃ j, k = j + 1 := ⟨k - 1, by omega⟩
    rw [vsz_l1, if_neg (by omega), List.drop_eq_nil_of_le (by omega)]
    rw [tsD]; congr 1 <;> omega
  | succ r ihr =>
    intro i n hr hi hn hm
    have hmem := getD_mem d i (by omega) z89
    have hsm := tsD_mem hmem
    obtain ⟨k1, h1⟩ := ih (d.getD i z89) hmem (by omega)
    have hdr := tsD_drop d i (by omega)
    obtain ⟨k2, h2⟩ := ihr (i + 1) (n + tsV (d.getD i z89).f1) (by omega) (by omega) (by omega) (by omega)
    refine ⟨max k1 k2 + 1, fun k hk => ?_⟩
    obtain ⟨k, rfl⟩ : ∃ j, k = j + 1 := ⟨k - 1, by omega⟩
    rw [vsz_l1, if_pos (by omega), if_pos (by omega), if_pos (by omega)]
    have e : rd_T89 d (i : Int) = d.getD i z89 := rfl
    rw [e, h1 k (by omega), Option.bind_some, w64 (n + _) (by omega) (by omega), w64 ((i : Int) + 1) (by omega) (by omega), show (i : Int) + 1 = ((i + 1 : Nat) : Int) by omega, h2 k (by omega), hdr]
    congr 1 <;> omega
theorem vsz_l (a0 a1 a2 : Int) (a3 : ByteArray) (l : List S35) (d : List S89) (hts : tsL l + tsD d ≤ 90000) (ih4 : ∀ x ∈ l, vszP x) (ih : ∀ p ∈ d, vszP p.f1) :
    ∀ (r i : Nat) (n : Int), l.length - i = r → i ≤ l.length → 0 ≤ n → n + tsL (l.drop i) + tsD d ≤ 90000 → ∃ k0, ∀ k, k0 ≤ k → value_Size.l0 k n l (l.length : Int) i a0 a1 a2 a3 l d = some (n + (tsL (l.drop i) : Int) + (tsD d : Int)) := by
  have hdl := tsL_len l
  intro r
  induction r with
  | zero =>
    intro i n hr hi hn hm
    obtain ⟨k1, h1⟩ := vsz_d a0 a1 a2 a3 l d (by omega) ih d.length 0 n (by omega) (by omega) (by omega) (by rw [List.drop_zero]; omega)
    refine ⟨k1 + 1, fun k hk => ?_⟩
    obtain ⟨k, rfl⟩ : ∃ j, k = j + 1 := ⟨k - 1, by omega⟩
    rw [vsz_l0, if_neg (by omega), List.drop_eq_nil_of_le (by omega), show ((0 : Int)) = ((0 : Nat) : Int) from rfl, h1 k (by omega), List.drop_zero]
    rw [tsL]; congr 1 <;> omega
  | succ r ihr =>
    intro i n hr hi hn hm
    have hmem := getD_mem l i (by omega) z35
    have hsm := tsL_mem hmem
    obtain ⟨k1, h1⟩ := ih4 (l.getD i z35) hmem (by omega)
    have hdr := tsL_drop l i (by omega)
    obtain ⟨k2, h2⟩ := ihr (i + 1) (n + tsV (l.getD i z35)) (by omega) (by omega) (by omega) (by omega)
    refine ⟨max k1 k2 + 1, fun k hk => ?_⟩
    obtain ⟨k, rfl⟩ : ∃ j, k = j + 1 := ⟨k - 1, by omega⟩
    rw [vsz_l0, if_pos (by omega), if_pos (by omega), if_pos (by omega)]
    have e : rd_T35 l (i : Int) = l.getD i z35 := rfl
    rw [e, h1 k (by omega), Option.bind_some, w64 (n + _) (by omega) (by omega), w64 ((i : Int) + 1) (by omega) (by omega), show (i : Int) + 1 = ((i + 1 : Nat) : Int) by omega, h2 k (by omega), hdr]
    congr 1 <;> omega
theorem vsz_all : ∀ v, vszP v := by
  refine S35.ind ?_
  intro v ih4 ih5 hts
  rw [tsV_eq] at hts
  obtain ⟨k0, h⟩ := vsz_l v.f0 v.f1 v.f2 v.f3 v.f4 v.f5 (by omega) ih4 ih5 v.f4.length 0 1 (by omega) (by omega) (by omega) (by rw [List.drop_zero]; omega)
  refine ⟨k0 + 1, fun k hk => ?_⟩
  obtain ⟨k, rfl⟩ : ∃ j, k = j + 1 := ⟨k - 1, by omega⟩
  have h := h k (by omega)
  rw [show ((0 : Nat) : Int) = 0 from rfl] at h
  rw [vsz_f, h, List.drop_zero]
  rw [tsV_eq]; congr 1 <;> omega
theorem rsz_all (v : S35) (hts : tsV v ≤ 90000) : ∃ k0, ∀ k, k0 ≤ k → binderyref16_Size.f k v.f0 v.f1 v.f2 v.f3 v.f4 v.f5 = some (tsV v : Int) := by
  obtain ⟨k0, h⟩ := size_all v 4611686018427387904 (by omega) (by omega)
  refine ⟨k0, fun k hk => ?_⟩
  unfold binderyref16_Size.f
  rw [h k hk, Option.bind_some]
  congr 1 <;> omega
end Go.Proofs.Ytogpnkkoablmiaa.P
