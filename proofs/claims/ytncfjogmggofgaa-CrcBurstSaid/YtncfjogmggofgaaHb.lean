/- Plain law of the sum: the document's answer, step by step, comes to the same. -/
import Derived.Test.YtncfjogmggofgaaHa
import Derived.Test.YtncfjogmggofgaaQx2
namespace Go.Proofs.Ytncfjogmggofgaa.H
set_option linter.unusedVariables false
set_option linter.unusedSimpArgs false
open Go.RowKit Go.Proofs.Ytncfjogmggofgaa.G Go.Proofs.Ytncfjogmggofgaa.Q Go.Proofs.YtncfjogmggofgaaW.PrintWords Go.Proofs.YtncfjogmggofgaaW.PrintLast

theorem bytes_length (s : ByteArray) : (bytesOf s).length = s.size := bytesOf_length s
theorem drop_bytes (s : ByteArray) (i : Int) (h0 : 0 ≤ i) (h1 : i < s.size) : (bytesOf s).drop i.toNat = bt s i :: (bytesOf s).drop (i + 1).toNat := by
  have hl : i.toNat < (bytesOf s).length := by rw [bytes_length]; omega
  rw [List.drop_eq_getElem_cons hl]
  have e : (i + 1).toNat = i.toNat + 1 := by omega
  rw [e, ← rd_bytesOf]
  unfold rd
  rw [List.getD_eq_getElem?_getD, List.getElem?_eq_getElem hl]
  rfl
theorem lsb_zero (x : Int) (h0 : 0 ≤ x) (h1 : x < 4294967296) : (U x).getLsbD 0 = decide (x % 2 = 1) := by
  have e : ((U x).toNat : Int) = x := I_U x h0 h1
  rw [BitVec.getLsbD, Nat.testBit_zero]
  congr 1
  exact propext ⟨fun h => by omega, fun h => by omega⟩
theorem halve_eq (x : Int) (h0 : 0 ≤ x) (h1 : x < 4294967296) : binderyref04_halve.f x = some (I (hv (U x))) := by
  unfold binderyref04_halve.f hv
  have e1 : Int.tmod x 2 = x % 2 := Int.tmod_eq_emod_of_nonneg h0
  have e2 : Int.tdiv x 2 = x / 2 := Int.tdiv_eq_ediv_of_nonneg h0
  have e3 : x / 2 % 4294967296 = x / 2 := by omega
  have e4 : U (x / 2) = U x >>> 1 := U_shr x 1 h0 h1
  have eP : U 3988292384 = Pl := by decide
  rw [e1, e2, e3, lsb_zero x h0 h1]
  by_cases h : x % 2 = 1
  · rw [if_pos h, xor_eq, e4, eP]
    simp [h]
  · rw [if_neg h]
    simp only [h, decide_false, Bool.false_eq_true, if_false, BitVec.xor_zero]
    rw [← e4, I_U _ (by omega) (by omega)]
theorem step_l0 (d : Nat) : ∀ (k : Nat) (x i : Int), 0 ≤ x → x < 4294967296 → 0 ≤ i → 8 - i = d → d < k → binderyref04_step.l0 k x i = some (I (it hv d (U x))) := by
  induction d with
  | zero =>
    intro k x i h0 h1 hi hd hk
    obtain ⟨k, rfl⟩ : ∃ m, k = m + 1 := ⟨k - 1, by omega⟩
    simp only [binderyref04_step.l0]
    rw [if_neg (by omega)]
    exact congrArg some (I_U x h0 h1).symm
  | succ d ih =>
    intro k x i h0 h1 hi hd hk
    obtain ⟨k, rfl⟩ : ∃ m, k = m + 1 := ⟨k - 1, by omega⟩
    simp only [binderyref04_step.l0]
    have e : wrap64 (i + 1) = i + 1 := by unfold wrap64; omega
    have r := I_range (hv (U x))
    rw [if_pos (by omega), halve_eq x h0 h1, e]
    simp only [Option.bind_some]
    rw [ih k _ (i + 1) r.1 r.2 (by omega) (by omega) (by omega), U_I]
    rfl
theorem rstep_eq (k : Nat) (hk : 9 ≤ k) (x c : Int) : binderyref04_step.f k x c = some (I (L (U x ^^^ U c))) := by
  unfold binderyref04_step.f
  have r := I_range (U x ^^^ U (c % 4294967296))
  rw [xor_eq, step_l0 8 k _ 0 r.1 r.2 (by omega) (by omega) (by omega), U_I, U_mod]
  rfl
def Ff : B := U 4294967295
def bs (s : ByteArray) : List B := (bytesOf s).map U
theorem max_eq : IntKind.u32.max = 4294967295 := by decide
theorem runB_cons (x c : B) (l : List B) : runB x (c :: l) = runB (L (x ^^^ c)) l := rfl
theorem refSum_l0 (s : ByteArray) (hs : s.size ≤ 140737488351232) (d : Nat) : ∀ (k : Nat) (x i : Int), 0 ≤ x → x < 4294967296 → 0 ≤ i → (s.size : Int) - i = d → d + 10 ≤ k →
    binderyref04_Sum.l0 k s x i = some (I (runB (U x) (((bytesOf s).drop i.toNat).map U) ^^^ Ff)) := by
  induction d with
  | zero =>
    intro k x i h0 h1 hi hd hk
    obtain ⟨k, rfl⟩ : ∃ m, k = m + 1 := ⟨k - 1, by omega⟩
    rw [List.drop_of_length_le (by rw [bytes_length]; omega)]
    simp only [binderyref04_Sum.l0]
    rw [if_neg (by omega), xor_eq, wrap_I]
    rfl
  | succ d ih =>
    intro k x i h0 h1 hi hd hk
    obtain ⟨k, rfl⟩ : ∃ m, k = m + 1 := ⟨k - 1, by omega⟩
    rw [drop_bytes s i hi (by omega)]
    simp only [binderyref04_Sum.l0]
    have e : wrap64 (i + 1) = i + 1 := by unfold wrap64; omega
    have r := I_range (L (U x ^^^ U (bt s i)))
    rw [if_pos (by omega), if_pos hi, rstep_eq k (by omega), e]
    simp only [Option.bind_some]
    rw [ih k _ (i + 1) r.1 r.2 (by omega) (by omega) (by omega), U_I]
    rfl
theorem refSum_eq (s : ByteArray) (hs : s.size ≤ 140737488351232) (k : Nat) (hk : s.size + 10 ≤ k) : binderyref04_Sum.f k s = some (I (runB Ff (bs s) ^^^ Ff)) := by
  unfold binderyref04_Sum.f
  rw [refSum_l0 s hs s.size k 4294967295 0 (by omega) (by omega) (by omega) (by omega) hk]
  rfl
theorem refMore_l0 (s : ByteArray) (hs : s.size ≤ 140737488351232) (d : Nat) : ∀ (k : Nat) (x i : Int), 0 ≤ x → x < 4294967296 → 0 ≤ i → (s.size : Int) - i = d → d + 10 ≤ k →
    binderyref04_More.l0 k s x i = some (I (runB (U x) (((bytesOf s).drop i.toNat).map U) ^^^ Ff), 0) := by
  induction d with
  | zero =>
    intro k x i h0 h1 hi hd hk
    obtain ⟨k, rfl⟩ : ∃ m, k = m + 1 := ⟨k - 1, by omega⟩
    rw [List.drop_of_length_le (by rw [bytes_length]; omega)]
    simp only [binderyref04_More.l0]
    rw [if_neg (by omega), xor_eq, wrap_I]
    rfl
  | succ d ih =>
    intro k x i h0 h1 hi hd hk
    obtain ⟨k, rfl⟩ : ∃ m, k = m + 1 := ⟨k - 1, by omega⟩
    rw [drop_bytes s i hi (by omega)]
    simp only [binderyref04_More.l0]
    have e : wrap64 (i + 1) = i + 1 := by unfold wrap64; omega
    have r := I_range (L (U x ^^^ U (bt s i)))
    rw [if_pos (by omega), if_pos hi, rstep_eq k (by omega), e]
    simp only [Option.bind_some]
    rw [ih k _ (i + 1) r.1 r.2 (by omega) (by omega) (by omega), U_I]
    rfl
def moreS (a : Int) (s : ByteArray) : Int × Int := if 0 ≤ a ∧ a ≤ 4294967295 then (I (runB (U a ^^^ Ff) (bs s) ^^^ Ff), 0) else (0, 3)
def joinS (a b n : Int) : Int × Int := if (0 ≤ a ∧ a ≤ 4294967295) ∧ (0 ≤ b ∧ b ≤ 4294967295) ∧ 0 ≤ n then (I (it L n.toNat (U a) ^^^ U b), 0) else (0, 3)
theorem is_eq (a : Int) : crc_is.f a = some (decide (0 ≤ a ∧ a ≤ 4294967295)) := by
  unfold crc_is.f
  by_cases h : 0 ≤ a
  · rw [if_pos (by omega)]; simp [h]
  · rw [if_neg (by omega)]; simp [h]
theorem ris_eq (a : Int) : binderyref04_is.f a = some (decide (0 ≤ a ∧ a ≤ 4294967295)) := by
  unfold binderyref04_is.f
  by_cases h : 0 ≤ a
  · rw [if_pos (by omega)]; simp [h]
  · rw [if_neg (by omega)]; simp [h]
theorem crun_eq (x : Int) (s : ByteArray) (hs : s.size ≤ 140737488351232) (h0 : 0 ≤ x) (h1 : x < 4294967296) : crc_run.f x s = some (I (runB (U x) (bs s))) := by
  unfold crc_run.f
  rw [if_pos (by omega), run_eq _ _ h0 h1]
  rfl
theorem more_eq (a : Int) (s : ByteArray) (hs : s.size ≤ 140737488351232) : crc_More.f a s = some (moreS a s) := by
  unfold crc_More.f moreS
  rw [is_eq]
  simp only [Option.bind_some]
  by_cases h : 0 ≤ a ∧ a ≤ 4294967295
  · have r := I_range (U IntKind.u32.max ^^^ U (a % 4294967296))
    rw [if_pos (by simpa using h), if_pos h, xor_eq, crun_eq _ _ hs r.1 r.2, U_I, U_mod]
    simp only [Option.bind_some]
    rw [xor_eq, U_I, wrap_I, max_eq, BitVec.xor_comm (U 4294967295) (U a), BitVec.xor_comm (U 4294967295)]
    rfl
  · rw [if_neg (by simpa using h), if_neg h]
theorem refMore_eq (a : Int) (s : ByteArray) (hs : s.size ≤ 140737488351232) (k : Nat) (hk : s.size + 10 ≤ k) : binderyref04_More.f k a s = some (moreS a s) := by
  unfold binderyref04_More.f moreS
  rw [ris_eq]
  simp only [Option.bind_some]
  by_cases h : 0 ≤ a ∧ a ≤ 4294967295
  · have r := I_range (U (a % 4294967296) ^^^ U 4294967295)
    rw [if_pos (by simpa using h), if_pos h, xor_eq, refMore_l0 s hs s.size k _ 0 r.1 r.2 (by omega) (by omega) hk, U_I, U_mod]
    rfl
  · rw [if_neg (by simpa using h), if_neg h]
theorem join_f (a b n : Int) (hn : n < 9223372036854775808) : crc_Join.f a b n = some (joinS a b n) := by
  unfold crc_Join.f joinS
  rw [if_pos hn]
  by_cases h : (0 ≤ a ∧ a ≤ 4294967295) ∧ (0 ≤ b ∧ b ≤ 4294967295) ∧ 0 ≤ n
  · rw [if_pos h, Join_ok a b n h.1 h.2.1 h.2.2 hn]
  · rw [if_neg h, Join_no a b n h]
theorem refJoin_l0 (b n : Int) (hn : n < 9223372036854775807) (d : Nat) : ∀ (k : Nat) (x i : Int), 0 ≤ x → x < 4294967296 → 0 ≤ i → i ≤ n → n - i = d → d + 10 ≤ k →
    binderyref04_Join.l0 k b n x i = some (I (it L d (U x) ^^^ U b), 0) := by
  induction d with
  | zero =>
    intro k x i h0 h1 hi hin hd hk
    obtain ⟨k, rfl⟩ : ∃ m, k = m + 1 := ⟨k - 1, by omega⟩
    simp only [binderyref04_Join.l0]
    rw [if_neg (by omega), xor_eq, wrap_I, U_mod]
    rfl
  | succ d ih =>
    intro k x i h0 h1 hi hin hd hk
    obtain ⟨k, rfl⟩ : ∃ m, k = m + 1 := ⟨k - 1, by omega⟩
    simp only [binderyref04_Join.l0]
    have e : wrap64 (i + 1) = i + 1 := by unfold wrap64; omega
    have e0 : U 0 = 0#32 := by decide
    have r := I_range (L (U x ^^^ U 0))
    rw [if_pos (by omega), rstep_eq k (by omega), e]
    simp only [Option.bind_some]
    rw [ih k _ (i + 1) r.1 r.2 (by omega) (by omega) (by omega) (by omega), U_I, e0, BitVec.xor_zero]
    rfl
theorem refJoin_eq (a b n : Int) (hn : n < 9223372036854775807) (k : Nat) (hk : n.toNat + 20 ≤ k) : binderyref04_Join.f k a b n = some (joinS a b n) := by
  have hj : ∀ q, ¬ n < 0 ∨ q = true → binderyref04_Join.j0 k a b n q = some (if q = true then (0, 3) else (I (it L n.toNat (U a) ^^^ U b), 0)) := by
    intro q hq
    obtain ⟨k, rfl⟩ : ∃ m, k = m + 1 := ⟨k - 1, by omega⟩
    simp only [binderyref04_Join.j0]
    by_cases h : q = true
    · rw [if_pos h, if_pos h]
    · have h0 : ¬ n < 0 := by rcases hq with hq | hq; exact hq; exact absurd hq h
      rw [if_neg h, if_neg h, refJoin_l0 b n hn n.toNat k _ 0 (Int.emod_nonneg _ (by decide)) (Int.emod_lt_of_pos _ (by decide)) (by omega) (by omega) (by omega) (by omega), U_mod]
  unfold binderyref04_Join.f joinS
  rw [ris_eq, ris_eq]
  simp only [Option.bind_some]
  by_cases ha : 0 ≤ a ∧ a ≤ 4294967295
  · rw [if_pos (by simpa using ha)]
    by_cases hb : 0 ≤ b ∧ b ≤ 4294967295
    · rw [if_pos (by simpa using hb)]
      by_cases h0 : n < 0
      · rw [decide_eq_true h0, hj true (.inr rfl), if_pos rfl, if_neg (by omega)]
      · rw [decide_eq_false h0, hj false (.inl h0), if_neg (by decide), if_pos ⟨ha, hb, by omega⟩]
    · rw [if_neg (by simpa using hb), hj true (.inr rfl), if_pos rfl, if_neg (fun h => hb h.2.1)]
  · rw [if_neg (by simpa using ha), hj true (.inr rfl), if_pos rfl, if_neg (fun h => ha h.1)]
end Go.Proofs.Ytncfjogmggofgaa.H
