/- Plain law: the number of bytes, how many bytes numbers need, and that both texts of Get and of Need tell the same. -/
import Derived.Test.YthgjlpibefghhaaHa
namespace Go.Proofs.Ythgjlpibefghhaa.H
open Go.RowKit Go.Proofs.Ythgjlpibefghhaa.Q Go.Proofs.YthgjlpibefghhaaW.PrintWords Go.Proofs.YthgjlpibefghhaaW.PrintLast

def fl (x : Int) (l : List Int) : Int := l.foldl (fun a b => 256 * a + b) x
theorem fl_nil (x : Int) : fl x [] = x := rfl
theorem fl_cons (x b : Int) (l : List Int) : fl x (b :: l) = fl (256 * x + b) l := rfl
theorem fl_bounds (d : Nat) : ∀ (x : Int) (l : List Int), l.length = d → (∀ b ∈ l, 0 ≤ b ∧ b < 256) → x * 256 ^ d ≤ fl x l ∧ fl x l < (x + 1) * 256 ^ d := by
  induction d with
  | zero => intro x l hl _; obtain rfl := List.eq_nil_of_length_eq_zero hl; simp [fl_nil]; omega
  | succ d ih =>
    intro x l hl hr
    match l, hl with
    | b :: l, hl =>
      have hb := hr b (by simp)
      have h := ih (256 * x + b) l (by simpa using hl) (fun y hy => hr y (by simp [hy]))
      have e : (256 : Int) ^ (d + 1) = 256 * 256 ^ d := by rw [Int.pow_succ, Int.mul_comm]
      have hp : (0 : Int) < 256 ^ d := Int.pow_pos (by decide)
      rw [fl_cons, e]
      have a1 : x * (256 * 256 ^ d) = (256 * x) * 256 ^ d := by rw [← Int.mul_assoc, Int.mul_comm x 256]
      have a2 : (x + 1) * (256 * 256 ^ d) = (256 * (x + 1)) * 256 ^ d := by rw [← Int.mul_assoc, Int.mul_comm (x + 1) 256]
      rw [a1, a2]
      have b1 : (256 * x) * 256 ^ d ≤ (256 * x + b) * 256 ^ d := Int.mul_le_mul_of_nonneg_right (by omega) (by omega)
      have b2 : (256 * x + b + 1) * 256 ^ d ≤ (256 * (x + 1)) * 256 ^ d := Int.mul_le_mul_of_nonneg_right (by omega) (by omega)
      exact ⟨by omega, by omega⟩
theorem pow_le_7 (n : Nat) (h : n ≤ 7) : (256 : Int) ^ n ≤ 72057594037927936 := by
  have hc : n = 0 ∨ n = 1 ∨ n = 2 ∨ n = 3 ∨ n = 4 ∨ n = 5 ∨ n = 6 ∨ n = 7 := by omega
  rcases hc with rfl | rfl | rfl | rfl | rfl | rfl | rfl | rfl <;> decide
def getR (v : Int) : Int × Int := if v < 9223372036854775808 then (v, 0) else (0, 3)
def getL (l : List Int) : Int × Int := if 8 < l.length then (0, 2) else getR (val l)

theorem drop_bytes (s : ByteArray) (i : Int) (h0 : 0 ≤ i) (h1 : i < s.size) : (bytesOf s).drop i.toNat = bt s i :: (bytesOf s).drop (i + 1).toNat := by
  have hl : i.toNat < (bytesOf s).length := by rw [bytes_length]; omega
  rw [List.drop_eq_getElem_cons hl]
  have e : (i + 1).toNat = i.toNat + 1 := by omega
  rw [e, ← rd_bytesOf]
  unfold rd
  rw [List.getD_eq_getElem?_getD, List.getElem?_eq_getElem hl]
  rfl
theorem wrap_u64 (n : Int) : IntKind.u64.wrap n = n % 18446744073709551616 := IntKind.wrap_u64 n
theorem join8 (x b : Int) (h0 : 0 ≤ x) (h1 : x < 72057594037927936) (hb : 0 ≤ b ∧ b < 256) : Go.bits .or .u64 (IntKind.u64.wrap (x * 256)) (IntKind.u64.wrap b) = 256 * x + b := by
  rw [wrap_u64, wrap_u64, Int.emod_eq_of_lt (by omega) (by omega), Int.emod_eq_of_lt (a := b) (by omega) (by omega)]
  rw [bits_join .u64 64 (by decide) (fun n a b => by rw [wrap_u64]; exact Int.emod_eq_of_lt a (by simpa using b)) 8 (x * 256) b (by omega) (by omega) (by omega) hb.1 (by omega) (by omega)]
  omega
theorem get_l0 (s : ByteArray) (hs : s.size ≤ 8) (d : Nat) : ∀ (k : Nat) (x i : Int), 0 ≤ x → x < 256 ^ i.toNat → 0 ≤ i → (s.size : Int) - i = d → d < k →
    fields_Get.l0 k s x s.size i = some (getR (fl x ((bytesOf s).drop i.toNat))) := by
  induction d with
  | zero =>
    intro k x i h0 h1 hi hd hk
    obtain ⟨k, rfl⟩ : ∃ m, k = m + 1 := ⟨k - 1, by omega⟩
    rw [List.drop_of_length_le (by rw [bytes_length]; omega), fl_nil]
    simp only [fields_Get.l0]
    rw [if_neg (by omega)]
    unfold getR
    by_cases hx : x < 9223372036854775808
    · rw [if_pos hx, if_pos (by omega)]
      have : wrap64 x = x := by unfold wrap64; omega
      rw [this]
    · rw [if_neg hx, if_neg (by omega)]
  | succ d ih =>
    intro k x i h0 h1 hi hd hk
    obtain ⟨k, rfl⟩ : ∃ m, k = m + 1 := ⟨k - 1, by omega⟩
    simp only [fields_Get.l0]
    rw [if_pos (by omega), if_pos hi, if_pos (by omega)]
    have hb := bt_range s i
    have hp := pow_le_7 i.toNat (by omega)
    have hx7 : x < 72057594037927936 := by omega
    rw [join8 x _ h0 hx7 ⟨hb.1, by omega⟩]
    have e : wrap64 (i + 1) = i + 1 := by unfold wrap64; omega
    have e2 : (i + 1).toNat = i.toNat + 1 := by omega
    have e3 : (256 : Int) ^ (i.toNat + 1) = 256 ^ i.toNat * 256 := Int.pow_succ ..
    rw [e, ih k _ (i + 1) (by omega) (by rw [e2, e3]; omega) (by omega) (by omega) (by omega), drop_bytes s i hi (by omega), fl_cons]
theorem get_eq (s : ByteArray) (k : Nat) (hk : 10 ≤ k) : fields_Get.f k s = some (getL (bytesOf s)) := by
  unfold fields_Get.f getL
  rw [bytes_length]
  by_cases h : 8 < s.size
  · rw [if_pos h, if_pos (by omega)]
  · rw [if_neg h, if_neg (by omega), get_l0 s (by omega) s.size k 0 0 (by omega) (by decide) (by omega) (by omega) (by omega)]
    rfl

theorem refGet_l0 (s : ByteArray) (hs : s.size ≤ 8) (d : Nat) : ∀ (k : Nat) (x i : Int), 0 ≤ x → (x + 1) * 256 ^ d ≤ 9223372036854775808 → 0 ≤ i → (s.size : Int) - i = d → d < k →
    binderyref03_Get.l0 k s x i = some (fl x ((bytesOf s).drop i.toNat), 0) := by
  induction d with
  | zero =>
    intro k x i h0 h1 hi hd hk
    obtain ⟨k, rfl⟩ : ∃ m, k = m + 1 := ⟨k - 1, by omega⟩
    rw [List.drop_of_length_le (by rw [bytes_length]; omega), fl_nil]
    simp only [binderyref03_Get.l0]
    rw [if_neg (by omega)]
  | succ d ih =>
    intro k x i h0 h1 hi hd hk
    obtain ⟨k, rfl⟩ : ∃ m, k = m + 1 := ⟨k - 1, by omega⟩
    have hb := bt_range s i
    have hp : (1 : Int) ≤ 256 ^ d := Int.pow_pos (by decide)
    have e0 : (256 : Int) ^ (d + 1) = 256 * 256 ^ d := by rw [Int.pow_succ, Int.mul_comm]
    have e1 : (x + 1) * 256 ^ (d + 1) = (256 * (x + 1)) * 256 ^ d := by rw [e0, ← Int.mul_assoc, Int.mul_comm (x + 1) 256]
    have b2 : (256 * x + bt s i + 1) * 256 ^ d ≤ (256 * (x + 1)) * 256 ^ d := Int.mul_le_mul_of_nonneg_right (by omega) (by omega)
    have b3 : (256 * (x + 1)) * 1 ≤ (256 * (x + 1)) * 256 ^ d := Int.mul_le_mul_of_nonneg_left hp (by omega)
    simp only [binderyref03_Get.l0]
    rw [if_pos (by omega), if_pos hi]
    have e : wrap64 (i + 1) = i + 1 := by unfold wrap64; omega
    have e4 : wrap64 (wrap64 (256 * x) + wrap64 (bt s i)) = 256 * x + bt s i := by unfold wrap64; omega
    rw [e, e4, ih k _ (i + 1) (by omega) (by omega) (by omega) (by omega) (by omega), drop_bytes s i hi (by omega), fl_cons]
theorem refGet_eq (s : ByteArray) (k : Nat) (hk : 20 ≤ k) : binderyref03_Get.f k s = some (getL (bytesOf s)) := by
  obtain ⟨k, rfl⟩ : ∃ m, k = m + 1 := ⟨k - 1, by omega⟩
  unfold binderyref03_Get.f getL
  rw [bytes_length]
  by_cases h : 8 < s.size
  · rw [if_pos h, if_pos (by omega)]
  rw [if_neg h, if_neg (by omega)]
  by_cases h8 : s.size = 8
  · rw [if_pos (by omega), if_pos (by omega)]
    have hd := drop_bytes s 0 (by omega) (by omega)
    simp only [Int.toNat_zero, List.drop_zero] at hd
    have hl : ((bytesOf s).drop ((0 : Int) + 1).toNat).length = 7 := by rw [List.length_drop, bytes_length, h8]; rfl
    have hf := fl_bounds 7 (bt s 0) _ hl (fun b hb => bytes_range s b (List.mem_of_mem_drop hb))
    have hv : val (bytesOf s) = fl (bt s 0) ((bytesOf s).drop ((0 : Int) + 1).toNat) := by
      show fl 0 (bytesOf s) = _
      rw [hd, fl_cons]
      simp
    have hb := bt_range s 0
    by_cases hc : bt s 0 > 127
    · rw [decide_eq_true hc]
      simp only [binderyref03_Get.j0, if_true]
      unfold getR
      rw [if_neg (by rw [hv]; omega)]
    · rw [decide_eq_false hc]
      simp only [binderyref03_Get.j0]
      rw [if_neg (by decide)]
      obtain ⟨k, rfl⟩ : ∃ m, k = m + 1 := ⟨k - 1, by omega⟩
      simp only [binderyref03_Get.l0]
      rw [if_pos (by omega), if_pos (by omega)]
      have e4 : wrap64 (wrap64 (256 * 0) + wrap64 (bt s 0)) = bt s 0 := by unfold wrap64; omega
      have e5 : wrap64 (0 + 1) = (0 : Int) + 1 := by unfold wrap64; omega
      rw [e4, e5, refGet_l0 s (by omega) 7 k (bt s 0) (0 + 1) (by omega) (by omega) (by omega) (by omega) (by omega), ← hv]
      unfold getR
      rw [if_pos (by rw [hv]; omega)]
  · rw [if_neg (by omega)]
    simp only [binderyref03_Get.j0]
    rw [if_neg (by decide)]
    have hp := pow_le_7 s.size (by omega)
    have hr := (val_range s.size (bytesOf s) (bytes_length s) (bytes_range s)).2.1
    rw [refGet_l0 s (by omega) s.size k 0 0 (by omega) (by omega) (by omega) (by omega) (by omega)]
    unfold getR
    rw [if_pos (by omega)]
    rfl

/-! ### Need -/
theorem putS_ok (n w : Int) (h0 : 0 ≤ n) (h1 : n < 9223372036854775808) (hw0 : 0 ≤ w) (hw : w ≤ 8) : (putS n w).2 = 0 ↔ G.wd n ≤ w := by
  have hi := wd_iff n h0 h1 w.toNat (by omega)
  have ew : ((w.toNat : Nat) : Int) = w := by omega
  rw [ew] at hi
  unfold putS
  rw [if_neg (by omega), if_neg (by omega), if_neg (by omega)]
  by_cases h : n < 256 ^ w.toNat
  · rw [if_pos h]; simp [hi.mpr h]
  · rw [if_neg h]; simp; have : ¬ G.wd n ≤ w := fun q => h (hi.mp q)
    omega
theorem drop_list (l : List Int) (i : Int) (h0 : 0 ≤ i) (h1 : i < l.length) : l.drop i.toNat = rd l i :: l.drop (i + 1).toNat := by
  have hl : i.toNat < l.length := by omega
  rw [List.drop_eq_getElem_cons hl]
  have e : (i + 1).toNat = i.toNat + 1 := by omega
  rw [e]
  unfold rd
  rw [List.getD_eq_getElem?_getD, List.getElem?_eq_getElem hl]
  rfl
theorem rd_mem (l : List Int) (i : Int) (h0 : 0 ≤ i) (h1 : i < l.length) : rd l i ∈ l := by
  have hl : i.toNat < l.length := by omega
  simp [rd, hl]
theorem refNeed_l1 (ns : List Int) (i : Int) (hi : 0 ≤ i) (hl : i < ns.length) (hl2 : ns.length ≤ 140737488351232) (h0 : 0 ≤ rd ns i) (h1 : rd ns i < 9223372036854775808) (e : Nat) : ∀ (k : Nat) (w : Int), 0 ≤ w → w ≤ 8 → max w (G.wd (rd ns i)) - w = e →
    binderyref03_Need.l1 (k + 20 + e + 1) ns w i = binderyref03_Need.l0 (k + 20) ns (max w (G.wd (rd ns i))) (i + 1) := by
  have hw := G.wd_lo (rd ns i)
  have e1 : wrap64 (i + 1) = i + 1 := by unfold wrap64; omega
  induction e with
  | zero =>
    intro k w hw0 hw8 he
    simp only [binderyref03_Need.l1]
    rw [if_pos hi, if_pos hl, refPut_eq _ _ h1 _ (by omega)]
    simp only [Option.bind_some]
    rw [if_pos ((putS_ok _ _ h0 h1 hw0 hw8).mpr (by omega)), e1]
    have : max w (G.wd (rd ns i)) = w := by omega
    rw [this]
  | succ e ih =>
    intro k w hw0 hw8 he
    have e2 : wrap64 (w + 1) = w + 1 := by unfold wrap64; omega
    have e3 : max w (G.wd (rd ns i)) = max (w + 1) (G.wd (rd ns i)) := by omega
    simp only [binderyref03_Need.l1]
    rw [if_pos hi, if_pos hl, refPut_eq _ _ h1 _ (by omega)]
    simp only [Option.bind_some]
    rw [if_neg (fun q => by have := (putS_ok _ _ h0 h1 hw0 hw8).mp q; omega), if_neg (by omega), e2]
    show binderyref03_Need.l1 (k + 20 + e + 1) ns (w + 1) i = _
    rw [ih k (w + 1) (by omega) (by omega) (by omega), e3]
theorem refNeed_l0 (ns : List Int) (hn : ∀ x ∈ ns, x < 9223372036854775808) (hl : ns.length ≤ 140737488351232) (d : Nat) : ∀ (k : Nat) (w i : Int), 0 ≤ i → 0 ≤ w → w ≤ 8 → (ns.length : Int) - i = d → 12 * d + 30 ≤ k →
    binderyref03_Need.l0 k ns w i = some (G.need (ns.drop i.toNat) w) := by
  induction d with
  | zero =>
    intro k w i hi hw0 hw8 hd hk
    obtain ⟨k, rfl⟩ : ∃ m, k = m + 1 := ⟨k - 1, by omega⟩
    rw [List.drop_of_length_le (by omega)]
    simp only [binderyref03_Need.l0]
    rw [if_neg (by omega)]
    rfl
  | succ d ih =>
    intro k w i hi hw0 hw8 hd hk
    have hlt : i < ns.length := by omega
    rw [drop_list ns i hi hlt]
    have hm := hn _ (rd_mem ns i hi hlt)
    unfold G.need
    by_cases h0 : rd ns i < 0
    · obtain ⟨k, rfl⟩ : ∃ m, k = m + 1 := ⟨k - 1, by omega⟩
      simp only [binderyref03_Need.l0]
      rw [if_pos hlt, if_pos hi, if_pos h0, if_pos h0]
    · have hw := G.wd_lo (rd ns i)
      obtain ⟨e, he⟩ : ∃ e : Nat, max w (G.wd (rd ns i)) - w = e := ⟨(max w (G.wd (rd ns i)) - w).toNat, by omega⟩
      obtain ⟨k, rfl⟩ : ∃ m, k = m + 20 + e + 1 + 1 := ⟨k - 20 - e - 2, by omega⟩
      simp only [binderyref03_Need.l0]
      rw [if_pos hlt, if_pos hi, if_neg h0, if_neg h0]
      show binderyref03_Need.l1 (k + 20 + e + 1) ns w i = _
      rw [refNeed_l1 ns i hi hlt hl (by omega) hm e k w hw0 hw8 he]
      exact ih (k + 20) _ (i + 1) (by omega) (by omega) (by omega) (by omega) (by omega)
theorem refNeed_eq (ns : List Int) (hn : ∀ x ∈ ns, x < 9223372036854775808) (hl : ns.length ≤ 140737488351232) (k : Nat) (hk : 12 * ns.length + 30 ≤ k) : binderyref03_Need.f k ns = some (G.need ns 0) := by
  unfold binderyref03_Need.f
  rw [refNeed_l0 ns hn hl ns.length k 0 0 (by omega) (by omega) (by omega) (by omega) hk]
  rfl
end Go.Proofs.Ythgjlpibefghhaa.H
