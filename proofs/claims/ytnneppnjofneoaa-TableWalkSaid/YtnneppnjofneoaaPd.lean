/- The plain side of the table statements, part 4: the law TableWalk over the mirrors. -/
import Derived.Test.YtnneppnjofneoaaPc
import Derived.Test.YtnneppnjofneoaaRx7
namespace Go.Proofs.Ytnneppnjofneoaa.R
open Go Go.RowKit Go.Proofs.Ytnneppnjofneoaa.V Go.Proofs.YtnneppnjofneoaaW.PrintWords Go.Proofs.YtnneppnjofneoaaW.PrintLast Go.Proofs.YtnneppnjofneoaaW.PrintMore
set_option linter.unusedVariables false
set_option linter.unusedSimpArgs false
theorem rl_get (t : List S38) (n : Nat) (h : n < t.length) : (rl t).getD n z38 = entK t t.length n := rowK_get t _ n h
theorem free_rl (t : List S38) (n : Nat) (h : n < t.length) : free n ((rl t).getD n z38) = free n (t.getD n z38) := by
  rw [rl_get t n h]
  by_cases h0 : n = 0
  · subst h0; rfl
  · unfold entK
    rw [if_neg h0]
    by_cases hf : free n (t.getD n z38) = true
    · rw [if_pos hf]; rfl
    · rw [if_neg hf]
      unfold free clr
      split <;> simp_all
theorem nxd_rl (t : List S38) : ∀ d j, j + d ≤ t.length → nxd (rl t) d j = nxd t d j := by
  intro d
  induction d with
  | zero => intro j _; rfl
  | succ d ih => intro j h; simp only [nxd]; rw [free_rl t j (by omega), ih (j + 1) (by omega)]
theorem vr_rl (t : List S38) : ∀ d j, j + d ≤ t.length → vr (rl t) d j = vr t d j := by
  intro d
  induction d with
  | zero => intro j _; rfl
  | succ d ih => intro j h; simp only [vr]; rw [free_rl t j (by omega), ih (j + 1) (by omega)]
theorem rl_rl (t : List S38) : rl (rl t) = rl t := by
  show (List.range (rl t).length).map (entK (rl t) (rl t).length) = (List.range t.length).map (entK t t.length)
  rw [rl_length]
  apply List.map_congr_left
  intro n hn
  have hn : n < t.length := by simpa using hn
  by_cases h0 : n = 0
  · subst h0
    simp only [entK, if_true]
    rw [nxd_rl t _ _ (by omega)]
  · simp only [entK, if_neg h0]
    rw [free_rl t n hn]
    by_cases hf : free n (t.getD n z38) = true
    · rw [if_pos hf, if_pos hf, nxd_rl t _ _ (by omega), rl_get t n hn]
      simp only [entK, if_neg h0, if_pos hf]
    · rw [if_neg hf, if_neg hf, rl_get t n hn]
      simp only [entK, if_neg h0, if_neg hf]
      unfold clr
      split <;> simp_all
theorem free_zero' (n : Nat) (x : S38) (h : free n x = true) : x.f0 = 0 ∧ x.f2 < 65535 := by
  unfold free at h
  simp at h
  exact h.2
theorem getD_append_at (p : List Int) (x : Int) (r : List Int) : (p ++ x :: r).getD p.length 0 = x := by simp [List.getD_eq_getElem?_getD]
theorem walk_l1 (t : List S38) (hn : t.length ≤ 500) (hpos : 0 < t.length) : ∀ d k j, t.length - j = d → 1 ≤ j → j ≤ t.length → (∀ i, 1 ≤ i → i < j → (t.getD i z38).f0 = 0 ∧ 0 ≤ (t.getD i z38).f2 ∧ (t.getD i z38).f2 ≤ 65535) → 2000 + d < k → binderylaw21_TableWalk.l1 k t (rl t) 0 (j : Int) = some true := by
  intro d
  induction d with
  | zero =>
    intro k j hd h1 hj hall hk
    obtain ⟨k, rfl⟩ := Nat.exists_eq_succ_of_ne_zero (by omega : k ≠ 0)
    simp only [binderylaw21_TableWalk.l1]
    rw [if_neg (by omega)]
    simp only [if_true]
    have hc : ∀ d i, (rl t).length - i = d → i ≤ t.length → chk (rl t) d i = 0 := by
      intro d
      induction d with
      | zero => intro i _ _; simp only [chk, rl_rl, if_true]
      | succ d ih =>
        intro i hd hi
        rw [rl_length] at hd
        simp only [chk]
        have hr : rightS ((rl t).getD i z38) = 0 := by
          rw [rl_get t i (by omega)]
          by_cases h0 : i = 0
          · subst h0
            unfold rightS
            simp [entK]
          · obtain ⟨a, b, c⟩ := hall i (by omega) (by omega)
            simp only [entK, if_neg h0]
            unfold rightS clr
            generalize t.getD i z38 = x at *
            by_cases hf : free i x = true
            · rw [if_pos hf]
              simp [a]
              omega
            · rw [if_neg hf, if_pos a]
              simp [a]
              omega
        rw [if_pos hr]
        exact ih (i + 1) (by rw [rl_length]; omega) (by omega)
    have h2 := check_l0 (rl t) (by rw [rl_length]; exact hn) _ k 0 rfl (by omega) (by rw [rl_length]; omega)
    unfold table_Check.f
    rw [if_neg (by rw [rl_length]; omega), if_neg (by rw [rl_length]; omega)]
    simp only [Int.natCast_zero] at h2
    rw [h2, hc _ 0 rfl (by omega)]
    rfl
  | succ d ih =>
    intro k j hd h1 hj hall hk
    obtain ⟨k, rfl⟩ := Nat.exists_eq_succ_of_ne_zero (by omega : k ≠ 0)
    simp only [binderylaw21_TableWalk.l1]
    rw [if_pos (by omega), if_pos (by omega), rdn]
    by_cases a : (t.getD j z38).f0 = 0
    · rw [if_pos a]
      by_cases b : (t.getD j z38).f2 < 0
      · rw [if_pos b]; rfl
      · rw [if_neg b]
        by_cases c : (t.getD j z38).f2 > 65535
        · rw [if_pos c]; rfl
        · rw [if_neg c, wadd j (by omega)]
          refine ih k (j + 1) (by omega) (by omega) (by omega) (fun i h1 h2 => ?_) (by omega)
          by_cases e : i = j
          · subst e; exact ⟨a, by omega, by omega⟩
          · exact hall i h1 (by omega)
    · rw [if_neg a]; rfl
theorem walk_l0 (t : List S38) (hn : t.length ≤ 500) (hpos : 0 < t.length) : ∀ d k j (pre : List Int), t.length - j = d → 1 ≤ j → j ≤ t.length → pre ++ vr t d j = vac t t.length → 2600 + d < k →
    binderylaw21_TableWalk.l0 k t (rl t) (vac t t.length) (nxd t d j) (pre.length : Int) = some true := by
  intro d
  induction d using Nat.strongRecOn with
  | _ d ih =>
    intro k j pre hd h1 hj hpre hk
    obtain ⟨k, rfl⟩ := Nat.exists_eq_succ_of_ne_zero (by omega : k ≠ 0)
    have hvl := vac_len t
    have hpl : pre.length ≤ (vac t t.length).length := by rw [← hpre]; simp
    simp only [binderylaw21_TableWalk.l0]
    rcases vr_find t d j with ⟨e1, e2⟩ | ⟨m, a, b, c, e, f, g⟩
    · rw [e2, List.append_nil] at hpre
      rw [← hpre, if_neg (by omega), e1]
      exact walk_l1 t hn hpos _ k 1 rfl (by omega) (by omega) (fun i _ _ => by omega) (by omega)
    · rw [g] at hpre
      have hlen : pre.length < (vac t t.length).length := by rw [← hpre]; simp
      have hat : (vac t t.length).getD pre.length 0 = (m : Int) := by rw [← hpre]; exact getD_append_at _ _ _
      obtain ⟨x0, x2⟩ := free_zero' _ _ e
      have hm : m < t.length := by omega
      have hm0 : m ≠ 0 := by omega
      have hent : (rl t).getD m z38 = ⟨(t.getD m z38).f0, nxd t (t.length - (m + 1)) (m + 1), (t.getD m z38).f2⟩ := by
        rw [rl_get t m hm]; simp only [entK, if_neg hm0, if_pos e]
      rw [if_pos (by omega), if_pos (by omega), rdInt, hat, f, if_pos rfl, if_neg (by omega), if_neg (by rw [rl_length]; omega), if_pos (by omega), if_pos (by rw [rl_length]; omega), rdn, hent]
      simp only []
      rw [if_pos x0, if_neg (by omega), wadd pre.length (by omega)]
      have := ih (t.length - (m + 1)) (by omega) k (m + 1) (pre ++ [(m : Int)]) rfl (by omega) (by omega) (by rw [← hpre, show j + d - (m + 1) = t.length - (m + 1) by omega]; simp) (by omega)
      rw [List.length_append] at this
      exact this
theorem vac_rl (t : List S38) : vac (rl t) t.length = vac t t.length := by
  have h := vac_all (rl t)
  rw [rl_length] at h
  rw [h, vac_all, vr_rl t _ _ (by omega)]
theorem TableWalk_all (t : List S38) (k : Nat) (hk : 3500 < k) : binderylaw21_TableWalk.f k t = some true := by
  unfold binderylaw21_TableWalk.f
  rw [tables_ok k (by omega), Option.bind_some, if_pos rfl]
  obtain ⟨k, rfl⟩ := Nat.exists_eq_succ_of_ne_zero (by omega : k ≠ 0)
  obtain ⟨k, rfl⟩ := Nat.exists_eq_succ_of_ne_zero (by omega : k ≠ 0)
  by_cases hn : t.length ≤ 500
  · rw [if_neg (by omega)]
    by_cases h0 : t.length = 0
    · rw [if_pos (by omega)]
      simp only [binderylaw21_TableWalk.j0, if_true]
    · rw [if_neg (by omega)]
      simp only [binderylaw21_TableWalk.j0, binderylaw21_TableWalk.j1]
      rw [if_neg (by decide), linked_f t hn, Option.bind_some, if_pos (by rw [rl_length]), linked_f _ (by rw [rl_length]; exact hn), Option.bind_some, rl_rl, same_self _ (by rw [rl_length]; omega) (k + 1) (by omega), Option.bind_some, if_neg (by decide)]
      unfold binderylaw21_vacant.f
      rw [if_pos (by rw [rl_length]; exact hn), Option.bind_some, rl_length, if_pos (by omega), vac_rl]
      have e1 : (rd_T38 (rl t) 0).f1 = nxd t (t.length - 1) 1 := by
        have := rdn (rl t) 0
        rw [Int.natCast_zero] at this
        rw [this, rl_get t 0 (by omega)]
        rfl
      rw [e1]
      have := walk_l0 t hn (by omega) (t.length - 1) k 1 [] rfl (by omega) (by omega) (by
        rw [vac_all, List.nil_append]
        obtain ⟨n, hl⟩ : ∃ n, t.length = n + 1 := ⟨t.length - 1, by omega⟩
        rw [hl]
        simp [vr, free_zero]) (by omega)
      simpa using this
  · rw [if_pos (by omega)]
    simp only [binderylaw21_TableWalk.j0, if_true]

end Go.Proofs.Ytnneppnjofneoaa.R
