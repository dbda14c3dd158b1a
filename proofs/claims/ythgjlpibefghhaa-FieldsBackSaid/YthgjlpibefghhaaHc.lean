/- Plain law: rows of numbers and their bytes, cut again: both texts of Row and of Cut tell the same. -/
import Derived.Test.YthgjlpibefghhaaHb
import Derived.Test.YthgjlpibefghhaaQx4
namespace Go.Proofs.Ythgjlpibefghhaa.H
set_option linter.unusedVariables false
set_option linter.unusedSimpArgs false
open Go.RowKit Go.Proofs.Ythgjlpibefghhaa.Q Go.Proofs.YthgjlpibefghhaaW.PrintWords Go.Proofs.YthgjlpibefghhaaW.PrintLast

theorem putS_size (n w : Int) : (putS n w).1.size ≤ 8 := by
  unfold putS
  split
  · exact Nat.zero_le _
  split
  · exact Nat.zero_le _
  split
  · exact Nat.zero_le _
  split
  · rw [str_size, be_length]; omega
  · exact Nat.zero_le _
theorem same_l0 (d : Nat) : ∀ (k : Nat) (a b : List Int) (i : Int), a.length = b.length → a.length ≤ 1000000 → 0 ≤ i → (a.length : Int) - i = d → d < k → binderyref03_Same.l0 k a b i = some (decide (a.drop i.toNat = b.drop i.toNat)) := by
  induction d with
  | zero =>
    intro k a b i hl hm hi hd hk
    obtain ⟨k, rfl⟩ : ∃ m, k = m + 1 := ⟨k - 1, by omega⟩
    rw [List.drop_of_length_le (by omega), List.drop_of_length_le (by omega)]
    simp only [binderyref03_Same.l0]
    rw [if_neg (by omega)]
    simp
  | succ d ih =>
    intro k a b i hl hm hi hd hk
    obtain ⟨k, rfl⟩ : ∃ m, k = m + 1 := ⟨k - 1, by omega⟩
    rw [drop_list a i hi (by omega), drop_list b i hi (by omega)]
    simp only [binderyref03_Same.l0]
    rw [if_pos (by omega), if_pos hi, if_pos (by omega)]
    have e : wrap64 (i + 1) = i + 1 := by unfold wrap64; omega
    by_cases h : rd a i = rd b i
    · rw [if_pos h, e, ih k a b (i + 1) hl hm (by omega) (by omega) (by omega), h]
      simp
    · rw [if_neg h]
      simp [h]
theorem same_eq (a b : List Int) (k : Nat) (hm : a.length ≤ 1000000) (hk : a.length < k) : binderyref03_Same.f k a b = some (decide (a = b)) := by
  unfold binderyref03_Same.f
  by_cases hl : a.length = b.length
  · rw [if_pos (by omega), same_l0 a.length k a b 0 hl hm (by omega) (by omega) hk]
    simp
  · rw [if_neg (by omega)]
    have : a ≠ b := fun h => hl (by rw [h])
    simp [this]

/-! ### Row -/
def rowR : List Int → List Int → List Int → ByteArray × Int
  | acc, n :: ns, w :: ws => if (putS n w).2 = 0 then rowR (acc ++ bytesOf (putS n w).1) ns ws else (⟨#[]⟩, (putS n w).2)
  | acc, [], _ => (strOfNums acc, 0)
  | acc, _ :: _, [] => (strOfNums acc, 0)
def rowS (ns ws : List Int) : ByteArray × Int := if ns.length = ws.length ∧ ns.length ≤ 16 then rowR [] ns ws else (⟨#[]⟩, 2)
theorem row_l0 (ns ws : List Int) (hn : ∀ x ∈ ns, x < 9223372036854775808) (hl : ns.length = ws.length) (h16 : ns.length ≤ 16) (d : Nat) : ∀ (k : Nat) (acc : List Int) (i : Int), 0 ≤ i → (ns.length : Int) - i = d → acc.length + 8 * d ≤ 128 → d + 10 ≤ k →
    fields_Row.l0 k ws acc ns ns.length i = some (rowR acc (ns.drop i.toNat) (ws.drop i.toNat)) := by
  induction d with
  | zero =>
    intro k acc i hi hd ha hk
    obtain ⟨k, rfl⟩ : ∃ m, k = m + 1 := ⟨k - 1, by omega⟩
    rw [List.drop_of_length_le (by omega), List.drop_of_length_le (by omega)]
    simp only [fields_Row.l0]
    rw [if_neg (by omega)]
    rfl
  | succ d ih =>
    intro k acc i hi hd ha hk
    obtain ⟨k, rfl⟩ : ∃ m, k = m + 1 := ⟨k - 1, by omega⟩
    rw [drop_list ns i hi (by omega), drop_list ws i hi (by omega)]
    simp only [fields_Row.l0]
    rw [if_pos (by omega), if_pos hi, if_pos (by omega), if_pos (by omega), put_eq _ _ (hn _ (rd_mem ns i hi (by omega)))]
    simp only [Option.bind_some, rowR]
    have hs := putS_size (rd ns i) (rd ws i)
    have e : wrap64 (i + 1) = i + 1 := by unfold wrap64; omega
    by_cases h : (putS (rd ns i) (rd ws i)).2 = 0
    · rw [if_pos h, if_pos h, if_pos (by omega), e]
      exact ih k _ (i + 1) (by omega) (by omega) (by rw [List.length_append, bytes_length]; omega) (by omega)
    · rw [if_neg h, if_neg h]
theorem row_eq (ns ws : List Int) (hn : ∀ x ∈ ns, x < 9223372036854775808) (k : Nat) (hk : 40 ≤ k) : fields_Row.f k ns ws = some (rowS ns ws) := by
  obtain ⟨k, rfl⟩ : ∃ m, k = m + 1 := ⟨k - 1, by omega⟩
  unfold fields_Row.f rowS
  by_cases hl : ns.length = ws.length
  · rw [if_pos (by omega)]
    simp only [fields_Row.j0]
    by_cases h16 : ns.length ≤ 16
    · rw [if_neg (by simp; omega), if_pos ⟨hl, h16⟩, row_l0 ns ws hn hl h16 ns.length k [] 0 (by omega) (by omega) (by simp; omega) (by omega)]
      rfl
    · rw [if_pos (by simp; omega), if_neg (fun h => h16 h.2)]
  · rw [if_neg (by omega), if_neg (fun h => hl h.1)]
    rfl
theorem bytes_append (s t : ByteArray) : bytesOf (s ++ t) = bytesOf s ++ bytesOf t := by simp [bytesOf]
theorem refRow_l0 (ns ws : List Int) (hn : ∀ x ∈ ns, x < 9223372036854775808) (hl : ns.length = ws.length) (h16 : ns.length ≤ 16) (d : Nat) : ∀ (k : Nat) (acc : ByteArray) (i : Int), 0 ≤ i → (ns.length : Int) - i = d → acc.size + 8 * d ≤ 128 → d + 20 ≤ k →
    binderyref03_Row.l0 k ns ws acc i = some (rowR (bytesOf acc) (ns.drop i.toNat) (ws.drop i.toNat)) := by
  induction d with
  | zero =>
    intro k acc i hi hd ha hk
    obtain ⟨k, rfl⟩ : ∃ m, k = m + 1 := ⟨k - 1, by omega⟩
    rw [List.drop_of_length_le (by omega), List.drop_of_length_le (by omega)]
    simp only [binderyref03_Row.l0]
    rw [if_neg (by omega)]
    simp only [rowR]
    rw [str_bytes]
  | succ d ih =>
    intro k acc i hi hd ha hk
    obtain ⟨k, rfl⟩ : ∃ m, k = m + 1 := ⟨k - 1, by omega⟩
    rw [drop_list ns i hi (by omega), drop_list ws i hi (by omega)]
    simp only [binderyref03_Row.l0]
    rw [if_pos (by omega), if_pos hi, if_pos (by omega), refPut_eq _ _ (hn _ (rd_mem ns i hi (by omega))) k (by omega)]
    simp only [Option.bind_some, rowR]
    have hs := putS_size (rd ns i) (rd ws i)
    have e : wrap64 (i + 1) = i + 1 := by unfold wrap64; omega
    by_cases h : (putS (rd ns i) (rd ws i)).2 = 0
    · rw [if_pos h, if_pos h, if_pos (by omega), e, ih k _ (i + 1) (by omega) (by omega) (by rw [ByteArray.size_append]; omega) (by omega), bytes_append]
    · rw [if_neg h, if_neg h]
theorem refRow_eq (ns ws : List Int) (hn : ∀ x ∈ ns, x < 9223372036854775808) (k : Nat) (hk : 60 ≤ k) : binderyref03_Row.f k ns ws = some (rowS ns ws) := by
  obtain ⟨k, rfl⟩ : ∃ m, k = m + 1 := ⟨k - 1, by omega⟩
  unfold binderyref03_Row.f rowS
  by_cases hl : ns.length = ws.length
  · rw [if_pos (by omega)]
    simp only [binderyref03_Row.j0]
    by_cases h16 : ns.length ≤ 16
    · rw [if_neg (by simp; omega), if_pos ⟨hl, h16⟩, refRow_l0 ns ws hn hl h16 ns.length k _ 0 (by omega) (by omega) (by show 0 + _ ≤ 128; omega) (by omega)]
      rfl
    · rw [if_pos (by simp; omega), if_neg (fun h => h16 h.2)]
  · rw [if_neg (by omega), if_neg (fun h => hl h.1)]
    rfl

/-! ### Cut -/
def tog : Int → List Int → Int × Bool
  | a, [] => (a, true)
  | a, w :: ws => if 0 ≤ w ∧ w ≤ 8 then tog (a + w) ws else (0, false)
def cutR : List Int → List Int → List Int → List Int × Int
  | out, _, [] => (out, 0)
  | out, bs, w :: ws => if (getL (bs.take w.toNat)).2 = 0 then cutR (out ++ [(getL (bs.take w.toNat)).1]) (bs.drop w.toNat) ws else ([], (getL (bs.take w.toNat)).2)
def cutS (s : ByteArray) (ws : List Int) : List Int × Int :=
  if 16 < ws.length then ([], 2) else if (tog 0 ws).2 = true then if (tog 0 ws).1 = s.size then cutR [] (bytesOf s) ws else ([], 4) else ([], 2)
def cutE (p : Int × Bool) (s : ByteArray) (ws : List Int) : List Int × Int := if p.2 = true then if p.1 = s.size then cutR [] (bytesOf s) ws else ([], 4) else ([], 2)
theorem fits_eq (w : Int) : fields_fits.f w = some (decide (0 ≤ w ∧ w ≤ 8)) := by
  unfold fields_fits.f
  by_cases h : 0 ≤ w
  · rw [if_pos (by omega)]; simp [h]
  · rw [if_neg (by omega)]; simp [h]
theorem together_l0 (ws : List Int) (h16 : ws.length ≤ 16) (d : Nat) : ∀ (k : Nat) (a i : Int), 0 ≤ a → a + 8 * d ≤ 128 → 0 ≤ i → (ws.length : Int) - i = d → d < k → fields_together.l0 k a ws ws.length i = some (tog a (ws.drop i.toNat)) := by
  induction d with
  | zero =>
    intro k a i ha ha2 hi hd hk
    obtain ⟨k, rfl⟩ : ∃ m, k = m + 1 := ⟨k - 1, by omega⟩
    rw [List.drop_of_length_le (by omega)]
    simp only [fields_together.l0]
    rw [if_neg (by omega)]
    rfl
  | succ d ih =>
    intro k a i ha ha2 hi hd hk
    obtain ⟨k, rfl⟩ : ∃ m, k = m + 1 := ⟨k - 1, by omega⟩
    rw [drop_list ws i hi (by omega)]
    simp only [fields_together.l0]
    rw [if_pos (by omega), if_pos hi, if_pos (by omega), fits_eq]
    simp only [Option.bind_some, tog]
    have e : wrap64 (i + 1) = i + 1 := by unfold wrap64; omega
    by_cases h : 0 ≤ rd ws i ∧ rd ws i ≤ 8
    · have e2 : wrap64 (a + rd ws i) = a + rd ws i := by unfold wrap64; omega
      rw [if_pos (by simpa using h), if_pos h, e, e2]
      exact ih k _ (i + 1) (by omega) (by omega) (by omega) (by omega) (by omega)
    · rw [if_neg (by simpa using h), if_neg h]
theorem tog_all (ws : List Int) : ∀ a, (tog a ws).2 = true → a ≤ (tog a ws).1 ∧ ∀ w ∈ ws, 0 ≤ w ∧ w ≤ 8 := by
  induction ws with
  | nil => intro a _; simp [tog]
  | cons w ws ih =>
    intro a h
    simp only [tog] at h ⊢
    by_cases hw : 0 ≤ w ∧ w ≤ 8
    · rw [if_pos hw] at h ⊢
      obtain ⟨h1, h2⟩ := ih _ h
      exact ⟨by omega, fun x hx => by rcases List.mem_cons.1 hx with rfl | hx; exact hw; exact h2 x hx⟩
    · rw [if_neg hw] at h; simp at h
theorem tog_shift (ws : List Int) : ∀ a b, (tog a ws).2 = true → (tog (a + b) ws).2 = true ∧ (tog (a + b) ws).1 = (tog a ws).1 + b := by
  induction ws with
  | nil => intro a b _; simp [tog]
  | cons w ws ih =>
    intro a b h
    simp only [tog] at h ⊢
    by_cases hw : 0 ≤ w ∧ w ≤ 8
    · simp only [if_pos hw] at h ⊢
      have e : a + b + w = a + w + b := by omega
      rw [e]
      exact ih _ b h
    · rw [if_neg hw] at h; simp at h
theorem bytes_extract (s : ByteArray) (a b : Nat) : bytesOf (s.extract a b) = ((bytesOf s).drop a).take (b - a) := by
  simp only [bytesOf, ByteArray.data_extract, Array.toList_extract, List.extract_eq_take_drop, List.map_take, List.map_drop]
theorem cut_l0 (ws : List Int) (h16 : ws.length ≤ 16) (d : Nat) : ∀ (k : Nat) (s : ByteArray) (out : List Int) (i : Int), 0 ≤ i → (ws.length : Int) - i = d → out.length + d ≤ 16 → d + 10 ≤ k → (tog 0 (ws.drop i.toNat)).2 = true → (tog 0 (ws.drop i.toNat)).1 = s.size →
    fields_Cut.l0 k s out ws ws.length i = some (cutR out (bytesOf s) (ws.drop i.toNat)) := by
  induction d with
  | zero =>
    intro k s out i hi hd ho hk _ _
    obtain ⟨k, rfl⟩ : ∃ m, k = m + 1 := ⟨k - 1, by omega⟩
    rw [List.drop_of_length_le (by omega)]
    simp only [fields_Cut.l0]
    rw [if_neg (by omega)]
    rfl
  | succ d ih =>
    intro k s out i hi hd ho hk ht hts
    obtain ⟨k, rfl⟩ : ∃ m, k = m + 1 := ⟨k - 1, by omega⟩
    rw [drop_list ws i hi (by omega)] at ht hts ⊢
    simp only [tog] at ht hts
    have hw : 0 ≤ rd ws i ∧ rd ws i ≤ 8 := by
      by_cases hw : 0 ≤ rd ws i ∧ rd ws i ≤ 8
      · exact hw
      · rw [if_neg hw] at ht; simp at ht
    rw [if_pos hw] at ht hts
    have hsh : (tog 0 (ws.drop (i + 1).toNat)).2 = true ∧ (tog 0 (ws.drop (i + 1).toNat)).1 + rd ws i = s.size := by
      have h1 := tog_shift (ws.drop (i + 1).toNat) (0 + rd ws i) (-(rd ws i)) ht
      have e : (0 + rd ws i + -(rd ws i)) = 0 := by omega
      rw [e] at h1
      exact ⟨h1.1, by rw [h1.2]; omega⟩
    have h0 := (tog_all _ _ hsh.1).1
    simp only [fields_Cut.l0]
    rw [if_pos (by omega), if_pos hi, if_pos (by omega), if_pos hw.1, if_pos (by omega), get_eq _ k (by omega)]
    simp only [Option.bind_some, cutR]
    have e : wrap64 (i + 1) = i + 1 := by unfold wrap64; omega
    have eb : bytesOf (s.extract 0 (rd ws i).toNat) = (bytesOf s).take (rd ws i).toNat := by rw [bytes_extract]; simp
    have ed : bytesOf (s.extract (rd ws i).toNat s.size) = (bytesOf s).drop (rd ws i).toNat := by
      rw [bytes_extract, List.take_of_length_le]
      rw [List.length_drop, bytes_length]; omega
    rw [eb]
    by_cases h : (getL ((bytesOf s).take (rd ws i).toNat)).2 = 0
    · rw [if_pos h, if_pos h, if_pos (by omega), e, ih k _ _ (i + 1) (by omega) (by omega) (by simp; omega) (by omega) hsh.1 (by rw [ByteArray.size_extract]; omega), ed]
    · rw [if_neg h, if_neg h]
theorem cut_eq (s : ByteArray) (ws : List Int) (k : Nat) (hk : 40 ≤ k) : fields_Cut.f k s ws = some (cutS s ws) := by
  unfold fields_Cut.f cutS
  by_cases h16 : 16 < ws.length
  · rw [if_pos (by omega), if_pos h16]
  rw [if_neg (by omega), if_neg h16]
  unfold fields_together.f
  rw [together_l0 ws (by omega) ws.length k 0 0 (by omega) (by omega) (by omega) (by omega) (by omega)]
  simp only [Option.bind_some, Int.toNat_zero, List.drop_zero]
  by_cases ht : (tog 0 ws).2 = true
  · rw [if_pos ht, if_pos ht]
    by_cases hs : (tog 0 ws).1 = s.size
    · rw [if_pos hs, if_pos hs, cut_l0 ws (by omega) ws.length k s [] 0 (by omega) (by omega) (by simp; omega) (by omega) ht hs]
      rfl
    · rw [if_neg hs, if_neg hs]
  · rw [if_neg ht, if_neg ht]
theorem refCut_l1 (ws : List Int) (h16 : ws.length ≤ 16) (s : ByteArray) (hs : s.size ≤ 1000) (d : Nat) : ∀ (k : Nat) (out : List Int) (a i : Int), 0 ≤ i → 0 ≤ a → (ws.length : Int) - i = d → out.length + d ≤ 16 → d + 30 ≤ k → (tog a (ws.drop i.toNat)).2 = true → (tog a (ws.drop i.toNat)).1 = s.size →
    binderyref03_Cut.l1 k s ws out a i = some (cutR out ((bytesOf s).drop a.toNat) (ws.drop i.toNat)) := by
  induction d with
  | zero =>
    intro k out a i hi ha hd ho hk _ _
    obtain ⟨k, rfl⟩ : ∃ m, k = m + 1 := ⟨k - 1, by omega⟩
    have e0 : ws.drop i.toNat = [] := List.drop_of_length_le (by omega)
    rw [e0]
    simp only [binderyref03_Cut.l1]
    rw [if_neg (by omega)]
    rfl
  | succ d ih =>
    intro k out a i hi ha hd ho hk ht hts
    obtain ⟨k, rfl⟩ : ∃ m, k = m + 1 := ⟨k - 1, by omega⟩
    rw [drop_list ws i hi (by omega)] at ht hts ⊢
    simp only [tog] at ht hts
    have hw : 0 ≤ rd ws i ∧ rd ws i ≤ 8 := by
      by_cases hw : 0 ≤ rd ws i ∧ rd ws i ≤ 8
      · exact hw
      · rw [if_neg hw] at ht; simp at ht
    rw [if_pos hw] at ht hts
    have h0 := (tog_all _ _ ht).1
    have e2 : wrap64 (a + rd ws i) = a + rd ws i := by unfold wrap64; omega
    have e : wrap64 (i + 1) = i + 1 := by unfold wrap64; omega
    simp only [binderyref03_Cut.l1]
    rw [e2, if_pos (by omega), if_pos hi, if_pos ha, if_pos (by omega), if_pos (by omega), refGet_eq _ k (by omega)]
    simp only [Option.bind_some, cutR]
    have eb : bytesOf (s.extract a.toNat (a + rd ws i).toNat) = ((bytesOf s).drop a.toNat).take (rd ws i).toNat := by
      rw [bytes_extract]
      congr 1
      omega
    rw [eb]
    by_cases h : (getL (((bytesOf s).drop a.toNat).take (rd ws i).toNat)).2 = 0
    · have e5 : (a + rd ws i).toNat = a.toNat + (rd ws i).toNat := by omega
      rw [if_pos h, if_pos h, if_pos (by omega), e, ih k _ (a + rd ws i) (i + 1) (by omega) (by omega) (by omega) (by simp; omega) (by omega) ht hts, List.drop_drop, e5]
    · rw [if_neg h, if_neg h]
theorem refCut_l0 (ws : List Int) (h16 : ws.length ≤ 16) (s : ByteArray) (hs : s.size ≤ 140737488351232) (d : Nat) : ∀ (k : Nat) (a i : Int), 0 ≤ i → 0 ≤ a → a + 8 * d ≤ 128 → (ws.length : Int) - i = d → d + 60 ≤ k → (∀ b, b = tog a (ws.drop i.toNat) → b = tog 0 ws ∨ b.2 = false ∧ (tog 0 ws).2 = false) →
    binderyref03_Cut.l0 k s ws a i = some (cutE (tog a (ws.drop i.toNat)) s ws) := by
  induction d with
  | zero =>
    intro k a i hi ha ha2 hd hk hb
    obtain ⟨k, rfl⟩ : ∃ m, k = m + 1 := ⟨k - 1, by omega⟩
    have hb0 := hb _ rfl
    rw [List.drop_of_length_le (by omega)] at hb0 ⊢
    simp only [binderyref03_Cut.l0]
    rw [if_neg (by omega)]
    simp only [tog] at hb0
    show _ = some (if (a, true).2 = true then if (a, true).1 = (s.size : Int) then cutR [] (bytesOf s) ws else ([], 4) else ([], 2))
    rw [if_pos (show (a, true).2 = true from rfl)]
    by_cases h : a = s.size
    · have ht : (a, true) = tog 0 ws := by
        rcases hb0 with h | h
        · exact h
        · simp at h
      rw [if_pos h, if_pos (show (a, true).1 = (s.size : Int) from h), refCut_l1 ws h16 s (by omega) ws.length k [] 0 0 (by omega) (by omega) (by omega) (by simp; omega) (by omega) (by simp [← ht]) (by simp [← ht, h])]
      rfl
    · rw [if_neg h, if_neg (show ¬ (a, true).1 = (s.size : Int) from h)]
  | succ d ih =>
    intro k a i hi ha ha2 hd hk hb
    obtain ⟨k, rfl⟩ : ∃ m, k = m + 1 := ⟨k - 1, by omega⟩
    rw [drop_list ws i hi (by omega)] at hb ⊢
    rw [tog] at hb ⊢
    have e : wrap64 (i + 1) = i + 1 := by unfold wrap64; omega
    simp only [binderyref03_Cut.l0]
    rw [if_pos (by omega), if_pos hi]
    by_cases hw : 0 ≤ rd ws i ∧ rd ws i ≤ 8
    · have e2 : wrap64 (a + rd ws i) = a + rd ws i := by unfold wrap64; omega
      rw [if_pos hw] at hb ⊢
      rw [if_neg (by omega), if_neg (by omega), e, e2]
      exact ih k _ (i + 1) (by omega) (by omega) (by omega) (by omega) (by omega) hb
    · rw [if_neg hw]
      by_cases h1 : rd ws i < 0
      · rw [if_pos h1]; rfl
      · rw [if_neg h1, if_pos (by omega)]; rfl
theorem refCut_eq (s : ByteArray) (hs : s.size ≤ 140737488351232) (ws : List Int) (k : Nat) (hk : 100 ≤ k) : binderyref03_Cut.f k s ws = some (cutS s ws) := by
  unfold binderyref03_Cut.f cutS
  by_cases h16 : 16 < ws.length
  · rw [if_pos (by omega), if_pos h16]
  rw [if_neg (by omega), if_neg h16, refCut_l0 ws (by omega) s hs ws.length k 0 0 (by omega) (by omega) (by omega) (by omega) (by omega) (fun b hb => .inl hb)]
  rfl
theorem cutR_length (ws : List Int) : ∀ out bs, (cutR out bs ws).1.length ≤ out.length + ws.length := by
  induction ws with
  | nil => intro out bs; simp [cutR]
  | cons w ws ih =>
    intro out bs
    simp only [cutR]
    split
    · have := ih (out ++ [(getL (bs.take w.toNat)).1]) (bs.drop w.toNat)
      simp at this ⊢
      omega
    · simp
theorem cutS_length (s : ByteArray) (ws : List Int) : (cutS s ws).1.length ≤ 16 := by
  unfold cutS
  split
  · simp
  split
  · split
    · have := cutR_length ws [] (bytesOf s)
      simp at this
      omega
    · simp
  · simp
end Go.Proofs.Ythgjlpibefghhaa.H
