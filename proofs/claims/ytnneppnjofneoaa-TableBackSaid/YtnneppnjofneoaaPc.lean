/- The plain side of the table statements, part 3: the laws TableLinks and TableChecks over the mirrors. -/
import Derived.Test.YtnneppnjofneoaaPb
import Derived.Test.YtnneppnjofneoaaRx6
namespace Go.Proofs.Ytnneppnjofneoaa.R
open Go Go.RowKit Go.Proofs.Ytnneppnjofneoaa.V Go.Proofs.YtnneppnjofneoaaW.PrintWords Go.Proofs.YtnneppnjofneoaaW.PrintLast Go.Proofs.YtnneppnjofneoaaW.PrintMore
set_option linter.unusedVariables false
set_option linter.unusedSimpArgs false
theorem wint (i : Int) (h0 : 0 ≤ i) (h : i ≤ 100000) : wrap64 (i + 1) = i + 1 := by unfold wrap64; omega
theorem rdInt (xs : List Int) (i : Nat) : rd xs (i : Int) = xs.getD i 0 := by simp [rd]
theorem same3_l0 (a : List Int) (hn : a.length ≤ 1000) : ∀ d k i, a.length - i = d → i ≤ a.length → d < k → binderyref03_Same.l0 k a a (i : Int) = some true := by
  intro d
  induction d with
  | zero =>
    intro k i hd hi hk
    obtain ⟨k, rfl⟩ := Nat.exists_eq_succ_of_ne_zero (by omega : k ≠ 0)
    simp only [binderyref03_Same.l0]
    rw [if_neg (by omega)]
  | succ d ih =>
    intro k i hd hi hk
    obtain ⟨k, rfl⟩ := Nat.exists_eq_succ_of_ne_zero (by omega : k ≠ 0)
    simp only [binderyref03_Same.l0]
    rw [if_pos (by omega), if_pos (by omega), if_pos (by omega), if_true, wadd i (by omega), ih k (i + 1) (by omega) (by omega) (by omega)]
theorem same3_f (a : List Int) (hn : a.length ≤ 1000) (k : Nat) (hk : 1000 < k) : binderyref03_Same.f k a a = some true := by
  unfold binderyref03_Same.f
  rw [if_pos rfl]
  have := same3_l0 a hn _ k 0 rfl (by omega) (by omega)
  simpa using this
theorem aft_eq (t : List S38) (n : Nat) : aft t n = nxd t (t.length - (n + 1)) (n + 1) := rfl
theorem refLinked_l0 (t : List S38) (hn : t.length ≤ 500) : ∀ d k j, t.length - j = d → j ≤ t.length → 501 + d < k → binderyref21_Linked.l0 k t ((List.range j).map (entK t t.length)) (j : Int) = some (rl t) := by
  intro d
  induction d with
  | zero =>
    intro k j hd hj hk
    obtain ⟨k, rfl⟩ := Nat.exists_eq_succ_of_ne_zero (by omega : k ≠ 0)
    simp only [binderyref21_Linked.l0]
    rw [if_neg (by omega), show j = t.length by omega]
    rfl
  | succ d ih =>
    intro k j hd hj hk
    obtain ⟨k, rfl⟩ := Nat.exists_eq_succ_of_ne_zero (by omega : k ≠ 0)
    have next : ∀ x : S38, x = entK t t.length j → binderyref21_Linked.l0 k t ((List.range j).map (entK t t.length) ++ [x]) (wrap64 ((j : Int) + 1)) = some (rl t) := by
      intro x hx
      rw [hx, wadd j (by omega), ← ih k (j + 1) (by omega) (by omega) (by omega), List.range_succ, List.map_append]
      rfl
    have hl : ((List.range j).map (entK t t.length)).length < 5864062014805 := by simp; omega
    simp only [binderyref21_Linked.l0]
    rw [if_pos (by omega), if_pos (by omega)]
    by_cases h0 : j = 0
    · subst h0
      have ha := after_f t hn k 0 (by omega) (.inr rfl)
      simp only [Int.natCast_zero] at ha ⊢
      simp only [if_true]
      rw [ha, Option.bind_some, if_pos hl]
      exact next _ (by simp [entK, aft_eq])
    · rw [if_neg (by omega), vacant_f t j (by omega), Option.bind_some]
      by_cases hf : free j (t.getD j z38) = true
      · rw [if_pos hf, after_f t hn k j (by omega) (.inl (by omega)), Option.bind_some, if_pos hl, rdn]
        exact next _ (by simp only [entK, if_neg h0, if_pos hf, aft_eq])
      · rw [if_neg hf, rdn]
        by_cases hk : (t.getD j z38).f0 = 0
        · rw [if_pos hk, if_pos hl]
          exact next _ (by simp only [entK, if_neg h0, if_neg hf, clr, if_pos hk])
        · rw [if_neg hk, if_pos hl]
          exact next _ (by simp only [entK, if_neg h0, if_neg hf, clr, if_neg hk])
theorem refLinked_f (t : List S38) (hn : t.length ≤ 500) (k : Nat) (hk : 1100 < k) : binderyref21_Linked.f k t = some (rl t) := by
  unfold binderyref21_Linked.f
  have := refLinked_l0 t hn _ k 0 rfl (by omega) (by omega)
  simpa using this
theorem rl_length (t : List S38) : (rl t).length = t.length := rowK_length _ _
theorem linked_f (t : List S38) (hn : t.length ≤ 500) : table_Linked.f t = some (rl t) := by
  unfold table_Linked.f
  rw [if_pos hn, linked_rl]
theorem same_self (a : List S38) (hn : a.length ≤ 1000) (k : Nat) (hk : 1000 < k) : binderyref21_Same.f k a a = some true := by
  rw [same_f a a hn k hk]; simp
theorem vac_len (t : List S38) : (vac t t.length).length ≤ t.length := vac_length t t.length
theorem TableLinks_all (t : List S38) (k : Nat) (hk : 1200 < k) : binderylaw21_TableLinks.f k t = some true := by
  unfold binderylaw21_TableLinks.f
  rw [tables_ok k (by omega), Option.bind_some, if_pos rfl]
  obtain ⟨k, rfl⟩ := Nat.exists_eq_succ_of_ne_zero (by omega : k ≠ 0)
  by_cases hn : t.length ≤ 500
  · rw [if_neg (by omega)]
    simp only [binderylaw21_TableLinks.j0]
    have hv := vac_len t
    unfold binderylaw21_vacant.f table_New.f binderyref21_New.f
    rw [if_neg (by decide), if_pos hn, Option.bind_some, Vacant_f t hn k (by omega), Option.bind_some, same3_f _ (by omega) k (by omega), Option.bind_some, if_pos rfl, linked_f t hn, Option.bind_some, refLinked_f t hn k (by omega), Option.bind_some,
      same_self _ (by rw [rl_length]; omega) k (by omega), Option.bind_some, if_pos rfl, Option.bind_some, Option.bind_some, same_self _ (by simp) k (by omega), Option.bind_some]
  · rw [if_pos (by omega)]
    simp only [binderylaw21_TableLinks.j0, if_true]
def rightS (x : S38) : Int :=
  if x.f0 < 0 ∨ 2 < x.f0 then 10 else if x.f2 < 0 ∨ 65535 < x.f2 then 3 else if x.f0 ≠ 0 ∧ (x.f1 < 0 ∨ 67108864 < x.f1) then 3 else 0
theorem right_f (x : S38) (k : Nat) (hk : 3 < k) : table_right.f k x.f0 x.f1 x.f2 = some (rightS x) := by
  obtain ⟨k, rfl⟩ := Nat.exists_eq_succ_of_ne_zero (by omega : k ≠ 0)
  obtain ⟨k, rfl⟩ := Nat.exists_eq_succ_of_ne_zero (by omega : k ≠ 0)
  unfold rightS table_right.f
  simp only [table_right.j0, table_right.j1]
  have hb : (x.f0 != 2) = decide (x.f0 ≠ 2) := by rw [Bool.eq_iff_iff]; simp
  rw [hb]
  simp only [decide_eq_true_eq]
  repeat' split
  all_goals first | rfl | omega | (exfalso; simp_all; omega) | simp_all
def chk (t : List S38) : Nat → Nat → Int
  | 0, _ => if t = rl t then 0 else 15
  | d + 1, j => if rightS (t.getD j z38) = 0 then chk t d (j + 1) else rightS (t.getD j z38)
theorem check_l0 (t : List S38) (hn : t.length ≤ 500) : ∀ d k j, t.length - j = d → j ≤ t.length → 1100 + d < k → table_Check.l0 k t t (t.length : Int) (j : Int) = some (chk t d j) := by
  intro d
  induction d with
  | zero =>
    intro k j hd hj hk
    obtain ⟨k, rfl⟩ := Nat.exists_eq_succ_of_ne_zero (by omega : k ≠ 0)
    simp only [table_Check.l0]
    rw [if_neg (by omega), linked_f t hn, Option.bind_some, equal_f, same_f t (rl t) (by omega) k (by omega), Option.bind_some]
    simp only [chk, decide_eq_true_eq]
    split <;> rfl
  | succ d ih =>
    intro k j hd hj hk
    obtain ⟨k, rfl⟩ := Nat.exists_eq_succ_of_ne_zero (by omega : k ≠ 0)
    simp only [table_Check.l0]
    rw [if_pos (by omega), if_pos (by omega), if_pos (by omega), rdn, right_f _ k (by omega), Option.bind_some, wadd j (by omega), ih k (j + 1) (by omega) (by omega) (by omega)]
    simp only [chk]
    split <;> rfl
theorem refCheck_l0 (t : List S38) (hn : t.length ≤ 500) : ∀ d k j, t.length - j = d → j ≤ t.length → 1200 + 2 * d < k → binderyref21_Check.l0 k t (j : Int) = some (chk t d j) := by
  intro d
  induction d with
  | zero =>
    intro k j hd hj hk
    obtain ⟨k, rfl⟩ := Nat.exists_eq_succ_of_ne_zero (by omega : k ≠ 0)
    simp only [binderyref21_Check.l0]
    rw [if_neg (by omega), refLinked_f t hn k (by omega), Option.bind_some, same_f t (rl t) (by omega) k (by omega), Option.bind_some]
    simp only [chk, decide_eq_true_eq]
    split <;> rfl
  | succ d ih =>
    intro k j hd hj hk
    obtain ⟨k, rfl⟩ := Nat.exists_eq_succ_of_ne_zero (by omega : k ≠ 0)
    obtain ⟨k, rfl⟩ := Nat.exists_eq_succ_of_ne_zero (by omega : k ≠ 0)
    simp only [binderyref21_Check.l0, binderyref21_Check.j1]
    rw [if_pos (by omega), if_pos (by omega), rdn, wadd j (by omega), ih k (j + 1) (by omega) (by omega) (by omega)]
    simp only [chk]
    generalize t.getD j z38 = x
    unfold rightS
    simp only [decide_eq_true_eq]
    repeat' split
    all_goals first | rfl | omega | (exfalso; simp_all; omega) | simp_all
theorem TableChecks_all (t : List S38) (k : Nat) (hk : 2300 < k) : binderylaw21_TableChecks.f k t = some true := by
  unfold binderylaw21_TableChecks.f
  rw [tables_ok k (by omega)]
  by_cases hn : t.length ≤ 500
  · rw [if_neg (by omega)]
    have e1 : table_Check.f k t = binderyref21_Check.f k t := by
      unfold table_Check.f binderyref21_Check.f
      have h1 := check_l0 t hn _ k 0 rfl (by omega) (by omega)
      have h2 := refCheck_l0 t hn _ k 0 rfl (by omega) (by omega)
      simp only [Int.natCast_zero] at h1 h2
      rw [h1, h2]
    have e2 : ∃ r, binderyref21_Check.f k t = some r := by
      unfold binderyref21_Check.f
      have h2 := refCheck_l0 t hn _ k 0 rfl (by omega) (by omega)
      simp only [Int.natCast_zero] at h2
      rw [h2]
      split
      · exact ⟨_, rfl⟩
      · split <;> exact ⟨_, rfl⟩
    obtain ⟨r, hr⟩ := e2
    rw [e1, hr]
    simp
  · rw [if_pos (by omega)]
    rfl

end Go.Proofs.Ytnneppnjofneoaa.R
