/- The plain side of the table statements, part 1: what the mirrors of Same, Equal, after and Vacant compute. -/
import Derived.Test.YtnneppnjofneoaaRx5
import Derived.KernelRfl
namespace Go.Proofs.Ytnneppnjofneoaa.R
open Go Go.RowKit Go.Proofs.Ytnneppnjofneoaa.V Go.Proofs.YtnneppnjofneoaaW.PrintWords Go.Proofs.YtnneppnjofneoaaW.PrintLast Go.Proofs.YtnneppnjofneoaaW.PrintMore
set_option linter.unusedVariables false
set_option linter.unusedSimpArgs false
instance : DecidableEq S38 := fun x y => decidable_of_iff (x.f0 = y.f0 ∧ x.f1 = y.f1 ∧ x.f2 = y.f2) (by cases x; cases y; simp)
instance : DecidableEq S48 := fun x y => decidable_of_iff (x.f0 = y.f0 ∧ x.f1 = y.f1) (by cases x; cases y; simp)
theorem tables_20 : binderylaw21_tables.f 20 = some true := by kernel_rfl
theorem tables_ok : ∀ k, 20 ≤ k → binderylaw21_tables.f k = some true := by
  intro k hk
  obtain ⟨d, rfl⟩ := Nat.exists_eq_add_of_le hk
  induction d with
  | zero => exact tables_20
  | succ d ih => exact binderylaw21_tables.mono _ _ (ih (by omega))
theorem wadd (i : Nat) (hi : i ≤ 100000) : wrap64 ((i : Int) + 1) = ((i + 1 : Nat) : Int) := by unfold wrap64; omega
theorem rdn (xs : List S38) (i : Nat) : rd_T38 xs (i : Int) = xs.getD i z38 := by simp [rd_T38]
theorem rd48n (xs : List S48) (i : Nat) : rd_T48 xs (i : Int) = xs.getD i z48 := by simp [rd_T48]
theorem ne38 (x y : S38) : ((!(x.f0 == y.f0) || (!(x.f1 == y.f1) || (!(x.f2 == y.f2)))) = true) ↔ x ≠ y := by
  cases x; cases y
  simp
  omega
theorem drop_cons (a : List S38) (i : Nat) (h : i < a.length) : a.drop i = a.getD i z38 :: a.drop (i + 1) := by
  rw [List.drop_eq_getElem_cons h, List.getD_eq_getElem?_getD, List.getElem?_eq_getElem h]
  rfl
theorem same_l0 (a b : List S38) (hab : a.length = b.length) (hn : a.length ≤ 1000) : ∀ d k i, a.length - i = d → i ≤ a.length → d < k → binderyref21_Same.l0 k a b (i : Int) = some (decide (a.drop i = b.drop i)) := by
  intro d
  induction d with
  | zero =>
    intro k i hd hi hk
    obtain ⟨k, rfl⟩ := Nat.exists_eq_succ_of_ne_zero (by omega : k ≠ 0)
    have e : i = a.length := by omega
    subst e
    simp only [binderyref21_Same.l0]
    rw [if_neg (by omega), List.drop_length, hab, List.drop_length]
    rfl
  | succ d ih =>
    intro k i hd hi hk
    obtain ⟨k, rfl⟩ := Nat.exists_eq_succ_of_ne_zero (by omega : k ≠ 0)
    simp only [binderyref21_Same.l0]
    rw [if_pos (by omega), if_pos (by omega), if_pos (by omega), rdn, rdn, wadd i (by omega), drop_cons a i (by omega), drop_cons b i (by omega)]
    by_cases h : a.getD i z38 = b.getD i z38
    · rw [if_neg (by rw [ne38]; exact fun c => c h), ih k (i + 1) (by omega) (by omega) (by omega), h]
      simp only [List.cons.injEq, true_and]
    · rw [if_pos ((ne38 _ _).2 h)]
      simp only [List.cons.injEq, h, false_and, decide_false]
theorem same_f (a b : List S38) (hn : a.length ≤ 1000) (k : Nat) (hk : 1000 < k) : binderyref21_Same.f k a b = some (decide (a = b)) := by
  unfold binderyref21_Same.f
  by_cases h : a.length = b.length
  · rw [if_pos (by exact_mod_cast h)]
    have := same_l0 a b h hn _ k 0 rfl (by omega) (by omega)
    simpa using this
  · rw [if_neg (by exact_mod_cast h)]
    have : a ≠ b := fun e => h (by rw [e])
    simp [this]
theorem equal_l0 (a b : List S38) : ∀ k (i : Int), api_Entry_30.l0 k a b (a.length : Int) i = binderyref21_Same.l0 k a b i := by
  intro k
  induction k with
  | zero => intro i; rfl
  | succ k ih =>
    intro i
    simp only [api_Entry_30.l0, binderyref21_Same.l0, ih]
    by_cases h : i < (a.length : Int)
    · simp only [h, if_true]
    · simp only [h, if_false]
theorem equal_f (a b : List S38) (k : Nat) : api_Entry_30.f k a b = binderyref21_Same.f k a b := by
  unfold api_Entry_30.f binderyref21_Same.f
  rw [equal_l0]
/-- The first vacant number in [j, j + d); 0: none. -/
def nxd (t : List S38) : Nat → Nat → Int
  | 0, _ => 0
  | d + 1, j => if free j (t.getD j z38) then (j : Int) else nxd t d (j + 1)
/-- The vacant numbers in [j, j + d). -/
def vr (t : List S38) : Nat → Nat → List Int
  | 0, _ => []
  | d + 1, j => if free j (t.getD j z38) then (j : Int) :: vr t d (j + 1) else vr t d (j + 1)
def aft (t : List S38) (n : Nat) : Int := nxd t (t.length - (n + 1)) (n + 1)
theorem free_zero (x : S38) : free 0 x = false := rfl
theorem vac_vr (t : List S38) : ∀ d k, vac t k ++ vr t d k = vac t (k + d) := by
  intro d
  induction d with
  | zero => intro k; simp [vr]
  | succ d ih =>
    intro k
    rw [show k + (d + 1) = (k + 1) + d by omega, ← ih (k + 1)]
    simp only [vac, vr]
    by_cases h : free k (t.getD k z38) = true
    · rw [if_pos h, if_pos h]; simp
    · rw [if_neg h, if_neg h]
theorem vac_all (t : List S38) : vac t t.length = vr t t.length 0 := by
  have := vac_vr t t.length 0
  simp only [vac, List.nil_append, Nat.zero_add] at this
  exact this.symm
theorem vacant_f (t : List S38) (j : Nat) (hj : j < t.length) : binderyref21_vacant.f t (j : Int) = some (free j (t.getD j z38)) := by
  unfold binderyref21_vacant.f free
  rw [rdn]
  by_cases h0 : j = 0
  · subst h0; simp
  · rw [if_pos (by omega), if_pos (by omega), if_pos (by omega)]
    generalize t.getD j z38 = x
    by_cases h1 : x.f0 = 0
    · rw [if_pos h1]; simp [h0, h1]
    · rw [if_neg h1]; simp [h0, h1]
theorem after_l0 (t : List S38) (hn : t.length ≤ 500) : ∀ d k j, t.length - j = d → d < k → j ≤ 1000 → binderyref21_after.l0 k t (j : Int) = some (nxd t d j) := by
  intro d
  induction d with
  | zero =>
    intro k j hd hk hj
    obtain ⟨k, rfl⟩ := Nat.exists_eq_succ_of_ne_zero (by omega : k ≠ 0)
    simp only [binderyref21_after.l0]
    rw [if_neg (by omega)]
    rfl
  | succ d ih =>
    intro k j hd hk hj
    obtain ⟨k, rfl⟩ := Nat.exists_eq_succ_of_ne_zero (by omega : k ≠ 0)
    simp only [binderyref21_after.l0]
    rw [if_pos (by omega), vacant_f t j (by omega), Option.bind_some, wadd j (by omega), ih k (j + 1) (by omega) (by omega) (by omega)]
    simp only [nxd]
    by_cases h : free j (t.getD j z38) = true
    · rw [if_pos h, if_pos h]
    · rw [if_neg h, if_neg h]
theorem after_f (t : List S38) (hn : t.length ≤ 500) (k j : Nat) (hk : 500 < k) (hj : j < t.length ∨ j = 0) : binderyref21_after.f k t (j : Int) = some (aft t j) := by
  unfold binderyref21_after.f aft
  rw [wadd j (by omega), after_l0 t hn _ k (j + 1) rfl (by omega) (by omega)]
/-- How the first is found, and the rest behind it. -/
theorem vr_find (t : List S38) : ∀ d j, (nxd t d j = 0 ∧ vr t d j = []) ∨ ∃ m, j ≤ m ∧ m < j + d ∧ 1 ≤ m ∧ free m (t.getD m z38) = true ∧ nxd t d j = (m : Int) ∧ vr t d j = (m : Int) :: vr t (j + d - (m + 1)) (m + 1) := by
  intro d
  induction d with
  | zero => intro j; exact .inl ⟨rfl, rfl⟩
  | succ d ih =>
    intro j
    simp only [nxd, vr]
    by_cases h : free j (t.getD j z38) = true
    · rw [if_pos h, if_pos h]
      have h1 : j ≠ 0 := by rintro rfl; cases h
      exact .inr ⟨j, Nat.le_refl _, by omega, by omega, h, rfl, by rw [show j + (d + 1) - (j + 1) = d by omega]⟩
    · rw [if_neg h, if_neg h]
      rcases ih (j + 1) with h1 | ⟨m, a, b, c, e, f, g⟩
      · exact .inl h1
      · exact .inr ⟨m, by omega, by omega, c, e, f, by rw [g, show j + 1 + d = j + (d + 1) by omega]⟩
theorem Vacant_l0 (t : List S38) (hn : t.length ≤ 500) : ∀ d k j acc, t.length - j = d → j ≤ t.length → 501 + d < k → acc.length ≤ j → binderyref21_Vacant.l0 k t acc (nxd t d j) = some (acc ++ vr t d j) := by
  intro d
  induction d using Nat.strongRecOn with
  | _ d ih =>
    intro k j acc hd hj hk ha
    obtain ⟨k, rfl⟩ := Nat.exists_eq_succ_of_ne_zero (by omega : k ≠ 0)
    simp only [binderyref21_Vacant.l0]
    rcases vr_find t d j with ⟨h1, h2⟩ | ⟨m, a, b, c, e, f, g⟩
    · rw [h1, h2, if_neg (by omega), List.append_nil]
    · rw [f, g, if_pos (by omega), if_pos (by omega), after_f t hn k m (by omega) (by omega), Option.bind_some]
      have := ih (t.length - (m + 1)) (by omega) k (m + 1) (acc ++ [(m : Int)]) rfl (by omega) (by omega) (by simp; omega)
      unfold aft
      rw [this, show j + d - (m + 1) = t.length - (m + 1) by omega]
      simp
theorem Vacant_f (t : List S38) (hn : t.length ≤ 500) (k : Nat) (hk : 1100 < k) : binderyref21_Vacant.f k t = some (vac t t.length) := by
  unfold binderyref21_Vacant.f
  have h0 := after_f t hn k 0 (by omega) (.inr rfl)
  rw [show ((0 : Nat) : Int) = 0 from rfl] at h0
  rw [h0, Option.bind_some, vac_all]
  unfold aft
  by_cases ht : t.length = 0
  · have e : t = [] := List.length_eq_zero_iff.1 ht
    subst e
    obtain ⟨k, rfl⟩ := Nat.exists_eq_succ_of_ne_zero (by omega : k ≠ 0)
    rfl
  · rw [Vacant_l0 t hn (t.length - (0 + 1)) k (0 + 1) [] rfl (by omega) (by omega) (by simp)]
    obtain ⟨n, hl⟩ : ∃ n, t.length = n + 1 := ⟨t.length - 1, by omega⟩
    rw [hl]
    simp [vr, free_zero]

theorem nxd_zero_free (t : List S38) : ∀ d j, nxd t d j = 0 → ∀ i, j ≤ i → i < j + d → free i (t.getD i z38) = false := by
  intro d
  induction d with
  | zero => intro j _ i h1 h2; omega
  | succ d ih =>
    intro j h i h1 h2
    simp only [nxd] at h
    by_cases hf : free j (t.getD j z38) = true
    · rw [if_pos hf] at h
      have h0 : j ≠ 0 := by rintro rfl; cases hf
      omega
    · rw [if_neg hf] at h
      by_cases e : i = j
      · subst e; simpa using hf
      · exact ih (j + 1) h i (by omega) (by omega)

end Go.Proofs.Ytnneppnjofneoaa.R
