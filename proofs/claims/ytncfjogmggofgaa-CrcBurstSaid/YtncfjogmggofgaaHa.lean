/- Plain law of the sum: bit vectors of 32, the step of a bit, linear; what run and Join of the program come to. -/
import Derived.Test.YtncfjogmggofgaaGe
import Derived.OpenShut
namespace Go.Proofs.Ytncfjogmggofgaa.H
set_option linter.unusedVariables false
set_option linter.unusedSimpArgs false
open Go.RowKit Go.Proofs.Ytncfjogmggofgaa.G Go.Proofs.YtncfjogmggofgaaW.PrintWords Go.Proofs.YtncfjogmggofgaaW.PrintLast

abbrev B := BitVec 32
def U (n : Int) : B := BitVec.ofInt 32 n
def I (b : B) : Int := (b.toNat : Int)
theorem I_range (b : B) : 0 ≤ I b ∧ I b < 4294967296 := by
  have := b.isLt
  unfold I
  omega
theorem U_I (b : B) : U (I b) = b := by
  unfold U I
  rw [BitVec.ofInt_natCast]
  simp
theorem I_U (x : Int) (h0 : 0 ≤ x) (h1 : x < 4294967296) : I (U x) = x := by
  obtain ⟨n, rfl⟩ := Int.eq_ofNat_of_zero_le h0
  unfold U I
  rw [BitVec.ofInt_natCast, BitVec.toNat_ofNat]
  omega
theorem U_mod (x : Int) : U (x % 4294967296) = U x := by
  apply BitVec.eq_of_toInt_eq
  unfold U
  rw [BitVec.toInt_ofInt, BitVec.toInt_ofInt]
  exact Int.emod_bmod ..
theorem I_inj {a b : B} (h : I a = I b) : a = b := by rw [← U_I a, h, U_I]
theorem xor_eq (x y : Int) : Go.bits .xor .u32 x y = I (U x ^^^ U y) := by
  show IntKind.u32.wrap ((BitVec.ofInt 32 x ^^^ BitVec.ofInt 32 y).toNat : Int) = _
  rw [IntKind.wrap_u32]
  have := (BitVec.ofInt 32 x ^^^ BitVec.ofInt 32 y).isLt
  unfold I U
  omega
theorem and_eq (x y : Int) : Go.bits .and .u32 x y = I (U x &&& U y) := by
  show IntKind.u32.wrap ((BitVec.ofInt 32 x &&& BitVec.ofInt 32 y).toNat : Int) = _
  rw [IntKind.wrap_u32]
  have := (BitVec.ofInt 32 x &&& BitVec.ofInt 32 y).isLt
  unfold I U
  omega
theorem U_shr (x : Int) (n : Nat) (h0 : 0 ≤ x) (h1 : x < 4294967296) : U (x / 2 ^ n) = U x >>> n := by
  obtain ⟨m, rfl⟩ := Int.eq_ofNat_of_zero_le h0
  have e : ((m : Int) / 2 ^ n) = ((m / 2 ^ n : Nat) : Int) := by simp
  rw [e]
  unfold U
  rw [BitVec.ofInt_natCast, BitVec.ofInt_natCast]
  apply BitVec.eq_of_toNat_eq
  rw [BitVec.toNat_ushiftRight, BitVec.toNat_ofNat, BitVec.toNat_ofNat, Nat.shiftRight_eq_div_pow]
  have hm : m < 4294967296 := by omega
  have hd : m / 2 ^ n ≤ m := Nat.div_le_self _ _
  rw [Nat.mod_eq_of_lt (by omega), Nat.mod_eq_of_lt (by omega)]

/-! ### one bit -/
def Pl : B := 0xEDB88320#32
def hv (x : B) : B := (x >>> 1) ^^^ (if x.getLsbD 0 then Pl else 0#32)
theorem xor_c1 (x y p : B) : x ^^^ y ^^^ p = x ^^^ p ^^^ y := by
  apply BitVec.eq_of_getLsbD_eq; intro i hi; simp only [BitVec.getLsbD_xor]; cases x.getLsbD i <;> cases y.getLsbD i <;> cases p.getLsbD i <;> rfl
theorem xor_c2 (x y p : B) : x ^^^ y = x ^^^ p ^^^ (y ^^^ p) := by
  apply BitVec.eq_of_getLsbD_eq; intro i hi; simp only [BitVec.getLsbD_xor]; cases x.getLsbD i <;> cases y.getLsbD i <;> cases p.getLsbD i <;> rfl
theorem hv_xor (a b : B) : hv (a ^^^ b) = hv a ^^^ hv b := by
  unfold hv
  rw [BitVec.ushiftRight_xor_distrib, BitVec.getLsbD_xor]
  cases a.getLsbD 0 <;> cases b.getLsbD 0
  · simp
  · simp [BitVec.xor_assoc]
  · simp only [Bool.xor_false, if_true, Bool.false_eq_true, if_false, BitVec.xor_zero]
    exact xor_c1 _ _ _
  · simp only [Bool.xor_self, Bool.false_eq_true, if_false, if_true, BitVec.xor_zero]
    exact xor_c2 _ _ _
theorem hv_zero : hv 0#32 = 0#32 := by decide
def it (f : B → B) : Nat → B → B
  | 0, x => x
  | n + 1, x => it f n (f x)
theorem it_add (f : B → B) (n m : Nat) : ∀ x, it f (n + m) x = it f m (it f n x) := by
  induction n with
  | zero => intro x; simp [it]
  | succ n ih => intro x; rw [Nat.succ_add]; simp only [it]; exact ih (f x)
theorem it_succ (f : B → B) (n : Nat) (x : B) : it f (n + 1) x = f (it f n x) := by rw [it_add f n 1]; rfl
structure Lin (f : B → B) : Prop where
  xor : ∀ a b, f (a ^^^ b) = f a ^^^ f b
theorem Lin.zero {f : B → B} (h : Lin f) : f 0#32 = 0#32 := by
  have := h.xor 0#32 0#32
  rw [BitVec.xor_self] at this
  rw [this, BitVec.xor_self]
theorem Lin.it {f : B → B} (h : Lin f) (n : Nat) : Lin (it f n) := by
  induction n with
  | zero => exact ⟨fun a b => rfl⟩
  | succ n ih => exact ⟨fun a b => by simp only [H.it]; rw [h.xor, ih.xor]⟩
theorem Lin.comp {f g : B → B} (hf : Lin f) (hg : Lin g) : Lin (fun x => f (g x)) := ⟨fun a b => by rw [hg.xor, hf.xor]⟩
theorem lin_hv : Lin hv := ⟨hv_xor⟩
theorem hv_shl (y : B) (h : y.toNat < 2147483648) : hv (y <<< 1) = y := by
  have h0 : (y <<< 1).getLsbD 0 = false := by simp
  unfold hv
  rw [h0]
  apply BitVec.eq_of_toNat_eq
  simp only [Bool.false_eq_true, if_false, BitVec.toNat_xor, BitVec.toNat_ushiftRight, BitVec.toNat_shiftLeft, BitVec.toNat_ofNat]
  rw [Nat.shiftLeft_eq, Nat.shiftRight_eq_div_pow, Nat.mod_eq_of_lt (by omega)]
  simp

/-! ### four bits by the table -/
def nibB (x : B) : B := it hv 4 x
theorem low_high (x : B) : x = (x &&& 15#32) ^^^ ((x >>> 4) <<< 4) := by
  have h15 : ∀ i, i < 32 → (15#32).getLsbD i = decide (i < 4) := by decide
  apply BitVec.eq_of_getLsbD_eq
  intro i hi
  rw [BitVec.getLsbD_xor, BitVec.getLsbD_and, BitVec.getLsbD_shiftLeft, BitVec.getLsbD_ushiftRight, h15 i hi]
  by_cases h : i < 4
  · simp [h]
  · have e : 4 + (i - 4) = i := by omega
    simp [h, hi, e]
theorem nib_high (y : B) (h : y.toNat < 268435456) : nibB (y <<< 4) = y := by
  have e1 : (y <<< 1).toNat = 2 * y.toNat := by rw [BitVec.toNat_shiftLeft, Nat.shiftLeft_eq]; omega
  have e2 : (y <<< 1 <<< 1).toNat = 4 * y.toNat := by rw [BitVec.toNat_shiftLeft, Nat.shiftLeft_eq, e1]; omega
  have e3 : (y <<< 1 <<< 1 <<< 1).toNat = 8 * y.toNat := by rw [BitVec.toNat_shiftLeft, Nat.shiftLeft_eq, e2]; omega
  have e4 : y <<< 4 = y <<< 1 <<< 1 <<< 1 <<< 1 := by
    rw [← BitVec.shiftLeft_add, ← BitVec.shiftLeft_add, ← BitVec.shiftLeft_add]
  rw [e4]
  unfold nibB
  simp only [it]
  rw [hv_shl _ (by omega), hv_shl _ (by omega), hv_shl _ (by omega), hv_shl _ (by omega)]
theorem nib_low (x : B) : nibB (x &&& 15#32) = U (tb (I (x &&& 15#32))) := by
  have hlt : (x &&& 15#32).toNat < 16 := by
    rw [BitVec.toNat_and]
    have := Nat.and_le_right (n := x.toNat) (m := (15#32).toNat)
    have e : (15#32 : B).toNat = 15 := by decide
    omega
  obtain ⟨n, hn⟩ : ∃ n, (x &&& 15#32).toNat = n := ⟨_, rfl⟩
  have e : x &&& 15#32 = BitVec.ofNat 32 n := by
    apply BitVec.eq_of_toNat_eq
    rw [hn, BitVec.toNat_ofNat]
    omega
  rw [e]
  rw [hn] at hlt
  have hall : ∀ i, i < 16 → nibB (BitVec.ofNat 32 i) = U (tb (I (BitVec.ofNat 32 i))) := by decide
  exact hall n hlt
theorem nib_eq (x : Int) (h0 : 0 ≤ x) (h1 : x < 4294967296) : nibI x = I (nibB (U x)) := by
  unfold nibI
  have e15 : U 15 = 15#32 := by decide
  have e16 : U (x / 16) = U x >>> 4 := U_shr x 4 h0 h1
  rw [and_eq, xor_eq, e15, e16]
  congr 1
  have hh : (U x >>> 4).toNat < 268435456 := by
    rw [BitVec.toNat_ushiftRight, Nat.shiftRight_eq_div_pow]
    have := (U x).isLt
    omega
  conv => rhs; rw [low_high (U x)]
  unfold nibB
  rw [(lin_hv.it 4).xor]
  show _ = nibB _ ^^^ nibB _
  rw [nib_high _ hh, nib_low]

/-! ### bytes -/
def L (x : B) : B := it hv 8 x
theorem lin_L : Lin L := lin_hv.it 8
def runB (x : B) (l : List B) : B := l.foldl (fun x c => L (x ^^^ c)) x
theorem step_eq (x c : Int) : stepI x c = I (L (U x ^^^ U c)) := by
  unfold stepI
  have r1 := I_range (U x ^^^ U c)
  rw [xor_eq, nib_eq _ r1.1 r1.2, U_I]
  have r2 := I_range (nibB (U x ^^^ U c))
  rw [nib_eq _ r2.1 r2.2, U_I]
  unfold nibB L
  rw [← it_add hv 4 4]
theorem run_eq (l : List Int) : ∀ x, 0 ≤ x → x < 4294967296 → runF x l = I (runB (U x) (l.map U)) := by
  induction l with
  | nil => intro x h0 h1; exact (I_U x h0 h1).symm
  | cons c l ih =>
    intro x h0 h1
    have r := I_range (L (U x ^^^ U c))
    show runF (stepI x c) l = _
    rw [step_eq, ih _ r.1 r.2, U_I]
    rfl
theorem runB_xor (l : List B) : ∀ x y, runB (x ^^^ y) l = runB x l ^^^ it L l.length y := by
  induction l with
  | nil => intro x y; rfl
  | cons c l ih =>
    intro x y
    show runB (L (x ^^^ y ^^^ c)) l = _
    have e : x ^^^ y ^^^ c = (x ^^^ c) ^^^ y := by rw [BitVec.xor_assoc, BitVec.xor_comm y c, ← BitVec.xor_assoc]
    rw [e, lin_L.xor, ih]
    rfl
theorem runB_append (x : B) (l m : List B) : runB x (l ++ m) = runB (runB x l) m := by simp [runB, List.foldl_append]

/-! ### tables of steps -/
structure Rep (m : List Int) (F : B → B) : Prop where
  len : m.length = 32
  lin : Lin F
  at_ : ∀ i, i < 32 → m.getD i 0 = I (F (1#32 <<< i))
theorem bit_split (x : B) (i : Nat) (hi : i < 32) : (x >>> i) <<< i = (if x.getLsbD i then 1#32 <<< i else 0#32) ^^^ ((x >>> (i + 1)) <<< (i + 1)) := by
  apply BitVec.eq_of_getLsbD_eq
  intro j hj
  rw [BitVec.getLsbD_xor, BitVec.getLsbD_shiftLeft, BitVec.getLsbD_shiftLeft, BitVec.getLsbD_ushiftRight, BitVec.getLsbD_ushiftRight]
  have h1 : (if x.getLsbD i then 1#32 <<< i else 0#32).getLsbD j = (x.getLsbD i && decide (j = i)) := by
    by_cases hx : x.getLsbD i
    · rw [if_pos hx, hx, BitVec.getLsbD_shiftLeft]
      by_cases hji : j = i
      · subst hji; simp [hj]
      · by_cases hlt : j < i
        · simp [hlt, hji]
        · have : ¬ j - i = 0 := by omega
          simp [hj, hlt, hji, BitVec.getLsbD_one, this]
    · rw [if_neg hx]; simp at hx; simp [hx]
  rw [h1]
  by_cases hlt : j < i
  · have : ¬ j = i := by omega
    have h3 : j < i + 1 := by omega
    simp [hj, hlt, this, h3]
  · by_cases hji : j = i
    · subst hji
      simp [hj]
    · have h3 : ¬ j < i + 1 := by omega
      have e1 : i + (j - i) = j := by omega
      have e2 : i + 1 + (j - (i + 1)) = j := by omega
      simp [hj, hlt, hji, h3, e1, e2]
theorem bit_eq (x : Int) (h0 : 0 ≤ x) (h1 : x < 4294967296) (i : Nat) (hi : i < 32) : (bitI x i = 1) ↔ (U x).getLsbD i = true := by
  unfold bitI
  rw [and_eq, U_shr x i h0 h1]
  have e1 : U 1 = 1#32 := by decide
  rw [e1]
  have e : U x >>> i &&& 1#32 = if (U x).getLsbD i then 1#32 else 0#32 := by
    apply BitVec.eq_of_getLsbD_eq
    intro j hj
    rw [BitVec.getLsbD_and, BitVec.getLsbD_ushiftRight]
    by_cases hj0 : j = 0
    · subst hj0
      by_cases h : (U x).getLsbD i <;> simp [h]
    · have : (1#32).getLsbD j = false := by simp [BitVec.getLsbD_one, hj0]
      rw [this]
      by_cases h : (U x).getLsbD i <;> simp [h, BitVec.getLsbD_one, hj0]
  rw [e]
  by_cases h : (U x).getLsbD i
  · rw [if_pos h]; simp [h, I]
  · rw [if_neg h]; simp [h, I]
theorem of_eq_aux {m : List Int} {F : B → B} (hm : Rep m F) (x : Int) (h0 : 0 ≤ x) (h1 : x < 4294967296) (d : Nat) : ∀ (i : Nat) (y : B), i + d = 32 → ofR x i (m.drop i) (I y) = I (y ^^^ F ((U x >>> i) <<< i)) := by
  induction d with
  | zero =>
    intro i y hi
    rw [List.drop_of_length_le (by have := hm.len; omega)]
    simp only [ofR]
    have e : (U x >>> i) <<< i = 0#32 := by
      have : i = 32 := by omega
      subst this
      apply BitVec.eq_of_getLsbD_eq
      intro j hj
      rw [BitVec.getLsbD_shiftLeft]
      simp [hj]
    rw [e, hm.lin.zero]
    simp
  | succ d ih =>
    intro i y hi
    have hlt : i < 32 := by omega
    have hl : i < m.length := by rw [hm.len]; exact hlt
    have hd : m.drop i = m.getD i 0 :: m.drop (i + 1) := by
      rw [List.drop_eq_getElem_cons hl, List.getD_eq_getElem?_getD, List.getElem?_eq_getElem hl]
      rfl
    rw [hd]
    simp only [ofR]
    rw [hm.at_ i hlt, bit_split (U x) i hlt, hm.lin.xor]
    by_cases hb : (U x).getLsbD i = true
    · rw [if_pos ((bit_eq x h0 h1 i hlt).mpr hb), if_pos hb, xor_eq, U_I, U_I, ih (i + 1) _ (by omega), BitVec.xor_assoc]
    · rw [if_neg (fun h => hb ((bit_eq x h0 h1 i hlt).mp h)), if_neg hb, ih (i + 1) _ (by omega), hm.lin.zero]
      simp
theorem of_eq {m : List Int} {F : B → B} (hm : Rep m F) (x : Int) (h0 : 0 ≤ x) (h1 : x < 4294967296) : ofR x 0 m 0 = I (F (U x)) := by
  have h := of_eq_aux hm x h0 h1 32 0 0#32 rfl
  have e0 : I 0#32 = 0 := by decide
  rw [e0] at h
  simpa using h
theorem rep_twice {m : List Int} {F : B → B} (hm : Rep m F) : Rep (twice m) (fun x => F (F x)) := by
  refine ⟨twice_len m, hm.lin.comp hm.lin, fun i hi => ?_⟩
  have e : (twice m).getD i 0 = ofR (m.getD i 0) 0 m 0 := by
    rw [twice, List.getD_eq_getElem?_getD, List.getElem?_map, List.getElem?_range hi]
    rfl
  have r := I_range (F (1#32 <<< i))
  rw [e, hm.at_ i hi, of_eq hm _ r.1 r.2, U_I]
theorem rep_bsteps : Rep bsteps L := by
  refine ⟨by simp [bsteps], lin_L, fun i hi => ?_⟩
  have e : bsteps.getD i 0 = bstep i := by
    rw [bsteps, List.getD_eq_getElem?_getD, List.getElem?_map, List.getElem?_range hi]
    rfl
  have hz : bytesOf (⟨#[0]⟩ : ByteArray) = [0] := by decide
  rw [e, bstep, hz, run_eq _ _ (Int.emod_nonneg _ (by decide)) (Int.emod_lt_of_pos _ (by decide)), U_mod]
  have eu : U (2 ^ i) = 1#32 <<< i := by
    have : ∀ j, j < 32 → U (2 ^ j) = 1#32 <<< j := by decide
    exact this i hi
  have e0 : U 0 = 0#32 := by decide
  show I (L (U (2 ^ i) ^^^ U 0)) = _
  rw [eu, e0]
  simp
theorem wraps_i64 (n : Int) (h0 : 0 ≤ n) (h1 : n < 2 ^ 63) : IntKind.i64.wrap n = n := by
  have : n < 9223372036854775808 := by simpa using h1
  rw [IntKind.wrap_i64]
  omega
theorem and1_i64 (n : Int) (h0 : 0 ≤ n) (h1 : n < 9223372036854775808) : Go.bits .and .i64 n 1 = n % 2 := by
  have h := bits_mask .i64 63 (by decide) wraps_i64 1 (by decide) n h0 (by simpa using h1)
  simpa using h
theorem it_two (F : B → B) (q : Nat) : ∀ x, it (fun x => F (F x)) q x = it F (2 * q) x := by
  induction q with
  | zero => intro x; rfl
  | succ q ih => intro x; rw [show 2 * (q + 1) = 2 * q + 1 + 1 by omega]; simp only [it]; exact ih _
theorem join_eq (k : Nat) : ∀ (n x : Int) (m : List Int) (F : B → B), Rep m F → 0 ≤ n → n < 2 ^ k → n < 9223372036854775808 → 0 ≤ x → x < 4294967296 → joinL k n x m = I (it F n.toNat (U x)) := by
  induction k with
  | zero =>
    intro n x m F hm h0 h1 h2 hx0 hx1
    have : n = 0 := by simp at h1; omega
    subst this
    exact (I_U x hx0 hx1).symm
  | succ k ih =>
    intro n x m F hm h0 h1 h2 hx0 hx1
    have e : (2 : Int) ^ (k + 1) = 2 ^ k * 2 := Int.pow_succ ..
    simp only [joinL]
    by_cases hn : 0 < n
    · rw [if_pos hn, and1_i64 n h0 h2]
      have hxx : (if n % 2 = 1 then ofR x 0 m 0 else x) = I (it F (n % 2).toNat (U x)) := by
        by_cases hb : n % 2 = 1
        · rw [if_pos hb, hb, of_eq hm x hx0 hx1]; rfl
        · have : n % 2 = 0 := by omega
          rw [if_neg hb, this]; exact (I_U x hx0 hx1).symm
      have r := I_range (it F (n % 2).toNat (U x))
      rw [hxx, ih (n / 2) _ _ _ (rep_twice hm) (by omega) (by omega) (by omega) r.1 r.2, U_I, it_two, ← it_add]
      congr 2
      omega
    · have : n = 0 := by omega
      subst this
      rw [if_neg hn]
      exact (I_U x hx0 hx1).symm
theorem wrap_I (b : B) : wrap64 (I b) = I b := by
  have := I_range b
  unfold wrap64
  omega
def okS (a : Int) : Prop := 0 ≤ a ∧ a ≤ 4294967295
theorem Join_ok (a b n : Int) (ha : 0 ≤ a ∧ a ≤ 4294967295) (hb : 0 ≤ b ∧ b ≤ 4294967295) (h0 : 0 ≤ n) (h1 : n < 9223372036854775808) :
    Join.f a b n = some (I (it L n.toNat (U a) ^^^ U b), 0) := by
  unfold Join.f
  rw [if_neg (by omega), if_neg (by omega), if_neg (by omega), if_neg (by omega), if_neg (by omega)]
  rw [join_eq 64 n (a % 4294967296) bsteps L rep_bsteps h0 (Int.lt_of_lt_of_le h1 (by decide)) h1 (Int.emod_nonneg _ (by decide)) (Int.emod_lt_of_pos _ (by decide)), xor_eq, U_I, U_mod, U_mod, wrap_I]
theorem Join_no (a b n : Int) (h : ¬ ((0 ≤ a ∧ a ≤ 4294967295) ∧ (0 ≤ b ∧ b ≤ 4294967295) ∧ 0 ≤ n)) : Join.f a b n = some (0, 3) := by
  unfold Join.f
  by_cases h1 : a < 0
  · rw [if_pos h1]
  rw [if_neg h1]
  by_cases h2 : 4294967295 < a
  · rw [if_pos h2]
  rw [if_neg h2]
  by_cases h3 : b < 0
  · rw [if_pos h3]
  rw [if_neg h3]
  by_cases h4 : 4294967295 < b
  · rw [if_pos h4]
  rw [if_neg h4, if_pos (by omega)]
end Go.Proofs.Ytncfjogmggofgaa.H
