/- The plain side of the table statements, part 2: the linked table, entry by entry. -/
import Derived.Test.YtnneppnjofneoaaPa
namespace Go.Proofs.Ytnneppnjofneoaa.R
open Go Go.RowKit Go.Proofs.Ytnneppnjofneoaa.V Go.Proofs.YtnneppnjofneoaaW.PrintWords Go.Proofs.YtnneppnjofneoaaW.PrintLast Go.Proofs.YtnneppnjofneoaaW.PrintMore
set_option linter.unusedVariables false
set_option linter.unusedSimpArgs false

/-! ### linked, entry by entry -/
def entK (t : List S38) (k n : Nat) : S38 :=
  if n = 0 then ⟨0, nxd t (k - 1) 1, 65535⟩ else if free n (t.getD n z38) then ⟨(t.getD n z38).f0, nxd t (k - (n + 1)) (n + 1), (t.getD n z38).f2⟩ else clr (t.getD n z38)
def rowK (t : List S38) (k : Nat) : List S38 := (List.range t.length).map (entK t k)
theorem rowK_length (t : List S38) (k : Nat) : (rowK t k).length = t.length := by simp [rowK]
theorem rowK_get (t : List S38) (k n : Nat) (h : n < t.length) : (rowK t k).getD n z38 = entK t k n := by
  simp [rowK, List.getD_eq_getElem?_getD, h]
theorem nxd_snoc (t : List S38) : ∀ d j, nxd t (d + 1) j = if nxd t d j = 0 then (if free (j + d) (t.getD (j + d) z38) then ((j + d : Nat) : Int) else 0) else nxd t d j := by
  intro d
  induction d with
  | zero => intro j; simp [nxd]
  | succ d ih =>
    intro j
    have e1 : ∀ d, nxd t (d + 1) j = if free j (t.getD j z38) then (j : Int) else nxd t d (j + 1) := fun _ => rfl
    rw [e1 (d + 1), e1 d]
    by_cases h : free j (t.getD j z38) = true
    · have hj : j ≠ 0 := by rintro rfl; cases h
      rw [if_pos h, if_pos h, if_neg (by omega)]
    · rw [if_neg h, if_neg h, ih (j + 1), show j + 1 + d = j + (d + 1) by omega]
def lastK (t : List S38) : Nat → Nat
  | 0 => 0
  | k + 1 => if free k (t.getD k z38) then k else lastK t k
theorem last_facts (t : List S38) : ∀ k, (lastK t k = 0 ∨ (lastK t k < k ∧ free (lastK t k) (t.getD (lastK t k) z38) = true)) ∧ (∀ i, lastK t k ≤ i → nxd t (k - (i + 1)) (i + 1) = 0) ∧ (∀ i, i < lastK t k → nxd t (k - (i + 1)) (i + 1) ≠ 0) := by
  intro k
  induction k with
  | zero => exact ⟨.inl rfl, fun i _ => by simp [nxd], fun i h => by simp [lastK] at h⟩
  | succ k ih =>
    obtain ⟨h1, h2, h3⟩ := ih
    have step : ∀ i, i < k → nxd t (k + 1 - (i + 1)) (i + 1) = if nxd t (k - (i + 1)) (i + 1) = 0 then (if free k (t.getD k z38) then (k : Int) else 0) else nxd t (k - (i + 1)) (i + 1) := by
      intro i hi
      rw [show k + 1 - (i + 1) = (k - (i + 1)) + 1 by omega, nxd_snoc, show i + 1 + (k - (i + 1)) = k by omega]
    by_cases h : free k (t.getD k z38) = true
    · have hk : k ≠ 0 := by rintro rfl; cases h
      simp only [lastK, if_pos h]
      refine ⟨.inr ⟨by omega, h⟩, fun i hi => ?_, fun i hi => ?_⟩
      · rw [show k + 1 - (i + 1) = 0 by omega]; rfl
      · rw [step i hi]
        split
        · first | omega | (rw [if_pos h]; omega)
        · assumption
    · simp only [lastK, if_neg h]
      refine ⟨?_, fun i hi => ?_, fun i hi => ?_⟩
      · rcases h1 with h1 | ⟨h1, h4⟩
        · exact .inl h1
        · exact .inr ⟨by omega, h4⟩
      · by_cases hik : i < k
        · rw [step i hik, if_pos (h2 i hi), if_neg h]
        · rw [show k + 1 - (i + 1) = 0 by omega]; rfl
      · have hik : i < k := by
          rcases h1 with h1 | ⟨h1, _⟩ <;> omega
        rw [step i hik, if_neg (h3 i hi)]
        exact h3 i hi
theorem lfold_rowK (t : List S38) (ht : t ≠ []) : ∀ k, k ≤ t.length → lfold t (vac t k) = (rowK t k, (lastK t k : Int)) := by
  intro k
  have hpos : 0 < t.length := List.length_pos_iff.2 ht
  induction k with
  | zero =>
    intro _
    unfold lfold
    simp only [vac, List.foldl_nil, lastK]
    congr 1
    apply List.ext_getElem
    · simp [rowK]
    · intro i h1 h2
      have hi : i < t.length := by simpa using h1
      have hg : t.getD i z38 = t[i] := by simp [List.getD_eq_getElem?_getD, hi]
      by_cases h0 : i = 0
      · subst h0
        simp [rowK, entK, nxd]
      · rw [List.getElem_set_ne (by omega)]
        simp only [rowK, List.getElem_map, List.getElem_range, entK, if_neg h0, hg]
        split
        · rename_i hf
          have : t[i].f0 = 0 := by simp [free] at hf; exact hf.2.1
          simp [clr, this, nxd]
        · rfl
  | succ k ih =>
    intro hk
    have ih := ih (by omega)
    obtain ⟨h1, h2, h3⟩ := last_facts t k
    have hlk : lastK t k < t.length := by rcases h1 with h1 | ⟨h1, _⟩ <;> omega
    by_cases h : free k (t.getD k z38) = true
    · have hk0 : k ≠ 0 := by rintro rfl; cases h
      simp only [vac, if_pos h, lastK]
      unfold lfold at ih ⊢
      rw [List.foldl_append, ih]
      simp only [List.foldl_cons, List.foldl_nil, lstep, Int.toNat_natCast]
      congr 1
      rw [rowK_get t k _ hlk]
      apply List.ext_getElem
      · simp [rowK]
      · intro i hi1 hi2
        have hi : i < t.length := by simpa [rowK] using hi2
        have step : ∀ i, i < k → nxd t (k + 1 - (i + 1)) (i + 1) = if nxd t (k - (i + 1)) (i + 1) = 0 then (k : Int) else nxd t (k - (i + 1)) (i + 1) := by
          intro i hi
          rw [show k + 1 - (i + 1) = (k - (i + 1)) + 1 by omega, nxd_snoc, show i + 1 + (k - (i + 1)) = k by omega, if_pos h]
        by_cases hil : i = lastK t k
        · subst hil
          have hlt : lastK t k < k := by rcases h1 with h1 | ⟨h1, _⟩ <;> omega
          rw [List.getElem_set_self]
          simp only [rowK, List.getElem_map, List.getElem_range]
          have hs := step _ hlt
          rw [if_pos (h2 _ (Nat.le_refl _))] at hs
          by_cases h0 : lastK t k = 0
          · simp only [h0, Nat.zero_add] at hs ⊢
            simp only [entK, if_true]
            rw [← hs]
          · obtain ⟨_, hf⟩ := h1.resolve_left h0
            simp only [entK, if_neg h0, if_pos hf]
            rw [hs]
        · rw [List.getElem_set_ne (Ne.symm hil)]
          simp only [rowK, List.getElem_map, List.getElem_range]
          have same : ∀ i, i ≠ lastK t k → (i = 0 ∨ free i (t.getD i z38) = true) → nxd t (k + 1 - (i + 1)) (i + 1) = nxd t (k - (i + 1)) (i + 1) := by
            intro i hne hfi
            by_cases hik : i < k
            · have hlt : i < lastK t k := by
                rcases Nat.lt_or_ge i (lastK t k) with hlt | hge
                · exact hlt
                · exfalso
                  rcases hfi with h0 | hfi
                  · omega
                  · have hz := h2 (lastK t k) (Nat.le_refl _)
                    have := nxd_zero_free t _ _ hz i (by omega) (by omega)
                    rw [hfi] at this; cases this
              rw [step i hik, if_neg (h3 i hlt)]
            · rw [show k + 1 - (i + 1) = 0 by omega, show k - (i + 1) = 0 by omega]
          by_cases h0 : i = 0
          · subst h0
            have := same 0 hil (.inl rfl)
            simp only [Nat.zero_add] at this
            simp only [entK, if_true, this]
          · by_cases hf : free i (t.getD i z38) = true
            · simp only [entK, if_neg h0, if_pos hf, same i hil (.inr hf)]
            · simp only [entK, if_neg h0, if_neg hf]
    · simp only [vac, if_neg h, lastK]
      rw [ih]
      congr 1
      unfold rowK
      apply List.map_congr_left
      intro i hi
      have step : ∀ i, nxd t (k + 1 - (i + 1)) (i + 1) = nxd t (k - (i + 1)) (i + 1) := by
        intro i
        by_cases hik : i < k
        · rw [show k + 1 - (i + 1) = (k - (i + 1)) + 1 by omega, nxd_snoc, show i + 1 + (k - (i + 1)) = k by omega, if_neg h]
          split
          · rename_i hz; exact hz.symm
          · rfl
        · rw [show k + 1 - (i + 1) = 0 by omega, show k - (i + 1) = 0 by omega]
      have h00 := step 0
      simp only [Nat.zero_add] at h00
      simp only [entK, step, h00]
/-- The table, entry by entry. -/
def rl (t : List S38) : List S38 := rowK t t.length
theorem linked_rl (t : List S38) : V.linked t = rl t := by
  unfold V.linked
  by_cases h : t = []
  · subst h; rfl
  · rw [if_neg h, lfold_rowK t h _ (Nat.le_refl _)]; rfl

end Go.Proofs.Ytnneppnjofneoaa.R
