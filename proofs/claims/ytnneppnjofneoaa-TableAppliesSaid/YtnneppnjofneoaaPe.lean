/- The plain side of the table statements, part 5: the laws TableApplies and TableBack over the mirrors. -/
import Derived.Test.YtnneppnjofneoaaPc
import Derived.Test.YtnneppnjofneoaaRx9
namespace Go.Proofs.Ytnneppnjofneoaa.R
open Go Go.RowKit Go.Proofs.Ytnneppnjofneoaa.V Go.Proofs.YtnneppnjofneoaaW.PrintWords Go.Proofs.YtnneppnjofneoaaW.PrintLast Go.Proofs.YtnneppnjofneoaaW.PrintMore
set_option linter.unusedVariables false
set_option linter.unusedSimpArgs false
theorem ne48 (x y : S48) : ((!(x.f0 == y.f0) || ((!(x.f1.f0 == y.f1.f0) || (!(x.f1.f1 == y.f1.f1) || (!(x.f1.f2 == y.f1.f2)))))) = true) ↔ x ≠ y := by
  obtain ⟨a, b, c, d⟩ := x; obtain ⟨a', b', c', d'⟩ := y
  simp
  omega
theorem sameRows_l0 (a : List S48) (hn : a.length ≤ 1000) : ∀ d k i, a.length - i = d → i ≤ a.length → d < k → binderyref21_SameRows.l0 k a a (i : Int) = some true := by
  intro d
  induction d with
  | zero =>
    intro k i hd hi hk
    obtain ⟨k, rfl⟩ := Nat.exists_eq_succ_of_ne_zero (by omega : k ≠ 0)
    simp only [binderyref21_SameRows.l0]
    rw [if_neg (by omega)]
  | succ d ih =>
    intro k i hd hi hk
    obtain ⟨k, rfl⟩ := Nat.exists_eq_succ_of_ne_zero (by omega : k ≠ 0)
    simp only [binderyref21_SameRows.l0]
    rw [if_pos (by omega), if_pos (by omega), if_pos (by omega), if_neg (by rw [ne48]; exact fun h => h rfl), wadd i (by omega), ih k (i + 1) (by omega) (by omega) (by omega)]
theorem sameRows_f (a : List S48) (hn : a.length ≤ 1000) (k : Nat) (hk : 1000 < k) : binderyref21_SameRows.f k a a = some true := by
  unfold binderyref21_SameRows.f
  rw [if_pos rfl]
  have := sameRows_l0 a hn _ k 0 rfl (by omega) (by omega)
  simpa using this
/-- Which entries of b are new, or others. -/
def dif (a b : List S38) : Nat → Nat → List S48
  | 0, _ => []
  | d + 1, j => if a.length ≤ j ∨ a.getD j z38 ≠ b.getD j z38 then ⟨(j : Int), b.getD j z38⟩ :: dif a b d (j + 1) else dif a b d (j + 1)
theorem dif_length (a b : List S38) : ∀ d j, (dif a b d j).length ≤ d := by
  intro d
  induction d with
  | zero => intro j; simp [dif]
  | succ d ih => intro j; simp only [dif]; have := ih (j + 1); split <;> simp <;> omega
theorem eta38 (x : S38) : (⟨x.f0, x.f1, x.f2⟩ : S38) = x := rfl
theorem Diff_l0 (a b : List S38) (hb : b.length ≤ 500) : ∀ d k j acc, b.length - j = d → j ≤ b.length → acc.length ≤ j → d < k → table_Diff.l0 k a acc b (b.length : Int) (j : Int) = some (acc ++ dif a b d j) := by
  intro d
  induction d with
  | zero =>
    intro k j acc hd hj ha hk
    obtain ⟨k, rfl⟩ := Nat.exists_eq_succ_of_ne_zero (by omega : k ≠ 0)
    simp only [table_Diff.l0]
    rw [if_neg (by omega)]
    simp [dif]
  | succ d ih =>
    intro k j acc hd hj ha hk
    obtain ⟨k, rfl⟩ := Nat.exists_eq_succ_of_ne_zero (by omega : k ≠ 0)
    have i1 := ih k (j + 1) (acc ++ [(⟨(j : Int), b.getD j z38⟩ : S48)]) (by omega) (by omega) (by simp; omega) (by omega)
    have i2 := ih k (j + 1) acc (by omega) (by omega) (by omega) (by omega)
    simp only [table_Diff.l0]
    rw [if_pos (by omega), if_pos (by omega), if_pos (by omega)]
    simp only [rdn, eta38, wadd j (by omega : j ≤ 100000), i1, i2, ne38]
    simp only [dif]
    by_cases h : a.length ≤ j
    · rw [if_pos (by omega), if_pos (by omega), if_pos (.inl h)]
      simp
    · rw [if_neg (by omega), if_pos (by omega)]
      by_cases e : a.getD j z38 = b.getD j z38
      · rw [if_neg (fun c => c e), if_neg (by rintro (c | c); exact h c; exact c e)]
      · rw [if_pos e, if_pos (by omega), if_pos (.inr e)]
        simp
theorem Diff_f (a b : List S38) (hb : b.length ≤ 500) (k : Nat) (hk : 600 < k) : table_Diff.f k a b = some (dif a b b.length 0) := by
  unfold table_Diff.f
  have := Diff_l0 a b hb _ k 0 [] rfl (by omega) (by simp) (by omega)
  simpa using this
theorem refDiff_l0 (a b : List S38) (hb : b.length ≤ 500) : ∀ d k j acc, b.length - j = d → j ≤ b.length → acc.length ≤ j → d < k → binderyref21_Diff.l0 k a b acc (j : Int) = some (acc ++ dif a b d j) := by
  intro d
  induction d with
  | zero =>
    intro k j acc hd hj ha hk
    obtain ⟨k, rfl⟩ := Nat.exists_eq_succ_of_ne_zero (by omega : k ≠ 0)
    simp only [binderyref21_Diff.l0]
    rw [if_neg (by omega)]
    simp [dif]
  | succ d ih =>
    intro k j acc hd hj ha hk
    obtain ⟨k, rfl⟩ := Nat.exists_eq_succ_of_ne_zero (by omega : k ≠ 0)
    have i1 := ih k (j + 1) (acc ++ [(⟨(j : Int), b.getD j z38⟩ : S48)]) (by omega) (by omega) (by simp; omega) (by omega)
    have i2 := ih k (j + 1) acc (by omega) (by omega) (by omega) (by omega)
    simp only [binderyref21_Diff.l0]
    rw [if_pos (by omega)]
    simp only [rdn, eta38, wadd j (by omega : j ≤ 100000), i1, i2, ne38]
    simp only [dif]
    by_cases h : a.length ≤ j
    · rw [if_pos (by omega), if_pos (by omega), if_pos (by omega), if_pos (.inl h)]
      simp
    · rw [if_neg (by omega), if_pos (by omega), if_pos (by omega)]
      by_cases e : a.getD j z38 = b.getD j z38
      · rw [if_neg (fun c => c e), if_neg (by rintro (c | c); exact h c; exact c e)]
      · rw [if_pos e, if_pos (by omega), if_pos (.inr e)]
        simp
theorem refDiff_f (a b : List S38) (hb : b.length ≤ 500) (k : Nat) (hk : 600 < k) : binderyref21_Diff.f k a b = some (dif a b b.length 0) := by
  unfold binderyref21_Diff.f
  have := refDiff_l0 a b hb _ k 0 [] rfl (by omega) (by simp) (by omega)
  simpa using this
/-- What rows make of a table. -/
def apl (out : List S38) (last : Int) : List S48 → List S38 × Int
  | [] => (out, 0)
  | x :: r => if x.f0 ≤ last then ([], 15) else if 8388607 < x.f0 then ([], 3) else if (out.length : Int) < x.f0 then ([], 4) else
      if x.f0 < (out.length : Int) then apl (out.set x.f0.toNat x.f1) x.f0 r else apl (out ++ [x.f1]) x.f0 r
theorem drop48 (a : List S48) (i : Nat) (h : i < a.length) : a.drop i = a.getD i z48 :: a.drop (i + 1) := by
  rw [List.drop_eq_getElem_cons h, List.getD_eq_getElem?_getD, List.getElem?_eq_getElem h]
  rfl
theorem eta38b (x : S48) : (⟨x.f1.f0, x.f1.f1, x.f1.f2⟩ : S38) = x.f1 := rfl
theorem Apply_l0 (rows : List S48) (hr : rows.length ≤ 500) : ∀ d k j (out : List S38) (last : Int), rows.length - j = d → j ≤ rows.length → -1 ≤ last → out.length ≤ 1000 + j → d < k → table_Apply.l0 k out last rows (rows.length : Int) (j : Int) = some (apl out last (rows.drop j)) := by
  intro d
  induction d with
  | zero =>
    intro k j out last hd hj hl ho hk
    obtain ⟨k, rfl⟩ := Nat.exists_eq_succ_of_ne_zero (by omega : k ≠ 0)
    simp only [table_Apply.l0]
    rw [if_neg (by omega), show j = rows.length by omega, List.drop_length]
    rfl
  | succ d ih =>
    intro k j out last hd hj hl ho hk
    obtain ⟨k, rfl⟩ := Nat.exists_eq_succ_of_ne_zero (by omega : k ≠ 0)
    simp only [table_Apply.l0]
    rw [if_pos (by omega), if_pos (by omega), if_pos (by omega)]
    simp only [rd48n, eta38b, wadd j (by omega : j ≤ 100000)]
    rw [drop48 rows j (by omega)]
    generalize rows.getD j z48 = x
    simp only [apl]
    by_cases h1 : x.f0 ≤ last
    · rw [if_pos h1, if_pos h1]
    · rw [if_neg h1, if_neg h1]
      by_cases h2 : 8388607 < x.f0
      · rw [if_pos h2, if_pos h2]
      · rw [if_neg h2, if_neg h2]
        by_cases h3 : (out.length : Int) < x.f0
        · rw [if_pos h3, if_pos h3]
        · rw [if_neg h3, if_neg h3]
          by_cases h4 : x.f0 < (out.length : Int)
          · rw [if_pos h4, if_pos h4, if_pos (by omega), ih k (j + 1) _ x.f0 (by omega) (by omega) (by omega) (by simp; omega) (by omega)]
          · rw [if_neg h4, if_neg h4, if_pos (by omega), ih k (j + 1) _ x.f0 (by omega) (by omega) (by omega) (by simp; omega) (by omega)]
theorem Apply_f (t : List S38) (rows : List S48) (ht : t.length ≤ 500) (hr : rows.length ≤ 500) (k : Nat) (hk : 600 < k) : table_Apply.f k t rows = some (apl t (-1) rows) := by
  unfold table_Apply.f api_Entry_27.f
  rw [if_pos (by omega), Option.bind_some]
  have := Apply_l0 rows hr _ k 0 t (-1) rfl (by omega) (by omega) (by omega) (by omega)
  simpa using this
def lastOf (rows : List S48) (j : Nat) : Int := if j = 0 then -1 else (rows.getD (j - 1) z48).f0
theorem refApply_l0 (rows : List S48) (hr : rows.length ≤ 500) : ∀ d k j (out : List S38), rows.length - j = d → j ≤ rows.length → -1 ≤ lastOf rows j → out.length ≤ 1000 + j → 2 * d < k → binderyref21_Apply.l0 k rows out (j : Int) = some (apl out (lastOf rows j) (rows.drop j)) := by
  intro d
  induction d with
  | zero =>
    intro k j out hd hj hl ho hk
    obtain ⟨k, rfl⟩ := Nat.exists_eq_succ_of_ne_zero (by omega : k ≠ 0)
    simp only [binderyref21_Apply.l0]
    rw [if_neg (by omega), show j = rows.length by omega, List.drop_length]
    rfl
  | succ d ih =>
    intro k j out hd hj hl ho hk
    obtain ⟨k, rfl⟩ := Nat.exists_eq_succ_of_ne_zero (by omega : k ≠ 0)
    obtain ⟨k, rfl⟩ := Nat.exists_eq_succ_of_ne_zero (by omega : k ≠ 0)
    have hx : lastOf rows (j + 1) = (rows.getD j z48).f0 := by simp [lastOf]
    have e : binderyref21_Apply.l0 (k + 1 + 1) rows out (j : Int) = binderyref21_Apply.j1 (k + 1) rows out (j : Int) (rows.getD j z48).f0 (decide ((rows.getD j z48).f0 ≤ lastOf rows j)) := by
      rw [binderyref21_Apply.l0]
      rw [if_pos (by omega), if_pos (by omega), rd48n]
      by_cases h0 : j = 0
      · subst h0
        have : lastOf rows 0 = -1 := rfl
        rw [this]
        by_cases hn : (rows.getD 0 z48).f0 < 0
        · rw [if_pos hn, show decide ((rows.getD 0 z48).f0 ≤ -1) = true from decide_eq_true (by omega)]
        · rw [if_neg hn, if_neg (by omega), show decide ((rows.getD 0 z48).f0 ≤ -1) = false from decide_eq_false (by omega)]
      · have hw : wrap64 ((j : Int) - 1) = ((j - 1 : Nat) : Int) := by unfold wrap64; omega
        have hlo : lastOf rows j = (rows.getD (j - 1) z48).f0 := by simp [lastOf, h0]
        rw [hlo]
        rw [hlo] at hl
        by_cases hn : (rows.getD j z48).f0 < 0
        · rw [if_pos hn, show decide ((rows.getD j z48).f0 ≤ (rows.getD (j - 1) z48).f0) = true from decide_eq_true (by omega)]
        · rw [if_neg hn, if_pos (by omega), hw, if_pos (by omega), if_pos (by omega), rd48n]
    rw [show (k.succ.succ) = k + 1 + 1 from rfl, e]
    simp only [binderyref21_Apply.j1]
    simp only [rd48n, eta38b, wadd j (by omega : j ≤ 100000), decide_eq_true_eq]
    rw [drop48 rows j (by omega)]
    have i1 : ∀ out' : List S38, -1 ≤ (rows.getD j z48).f0 → out'.length ≤ 1000 + (j + 1) → binderyref21_Apply.l0 k rows out' ((j + 1 : Nat) : Int) = some (apl out' (rows.getD j z48).f0 (rows.drop (j + 1))) := by
      intro out' h1 h2
      rw [ih k (j + 1) out' (by omega) (by omega) (by rw [hx]; exact h1) h2 (by omega), hx]
    generalize rows.getD j z48 = x at *
    simp only [apl]
    by_cases h1 : x.f0 ≤ lastOf rows j
    · rw [if_pos h1, if_pos h1]
    · rw [if_neg h1, if_neg h1]
      by_cases h2 : 8388607 < x.f0
      · rw [if_pos h2, if_pos h2]
      · rw [if_neg h2, if_neg h2]
        by_cases h3 : (out.length : Int) < x.f0
        · rw [if_pos h3, if_pos h3]
        · rw [if_neg h3, if_neg h3]
          by_cases h4 : x.f0 < (out.length : Int)
          · rw [if_neg (by omega), if_pos h4, if_pos (by omega), if_pos (by omega), if_pos (by omega), if_pos h4, i1 _ (by omega) (by simp; omega)]
          · rw [if_pos (by omega), if_neg h4, if_pos (by omega), if_pos (by omega), if_pos (by omega), i1 _ (by omega) (by simp; omega)]
theorem refApply_f (t : List S38) (rows : List S48) (ht : t.length ≤ 500) (hr : rows.length ≤ 500) (k : Nat) (hk : 1100 < k) : binderyref21_Apply.f k t rows = some (apl t (-1) rows) := by
  unfold binderyref21_Apply.f
  rw [Option.bind_some, if_pos (by simp; omega)]
  have := refApply_l0 rows hr _ k 0 ([] ++ t) rfl (by omega) (by simp [lastOf]) (by simp; omega) (by omega)
  simpa [lastOf] using this
theorem apl_length (rows : List S48) : ∀ (out : List S38) (last : Int), (apl out last rows).1.length ≤ out.length + rows.length := by
  induction rows with
  | nil => intro out last; simp [apl]
  | cons x r ih =>
    intro out last
    simp only [apl, List.length_cons]
    have h1 := ih (out.set x.f0.toNat x.f1) x.f0
    have h2 := ih (out ++ [x.f1]) x.f0
    simp only [List.length_set, List.length_append, List.length_cons, List.length_nil] at h1 h2
    repeat' split
    all_goals first | omega | (simp only [List.length_nil]; omega)
theorem TableApplies_all (a b : List S38) (rows : List S48) (k : Nat) (hk : 1200 < k) : binderylaw21_TableApplies.f k a b rows = some true := by
  unfold binderylaw21_TableApplies.f
  obtain ⟨k, rfl⟩ := Nat.exists_eq_succ_of_ne_zero (by omega : k ≠ 0)
  have ht := tables_ok k (by omega)
  have hj : ∀ c : Bool, (c = false → a.length ≤ 500 ∧ b.length ≤ 500 ∧ rows.length ≤ 500) → binderylaw21_TableApplies.j0 (k + 1) a b rows c = some true := by
    intro c hc
    simp only [binderylaw21_TableApplies.j0]
    rw [ht]
    cases c with
    | true => simp
    | false =>
      obtain ⟨h1, h2, h3⟩ := hc rfl
      have hl := dif_length a b b.length 0
      have ha := apl_length rows a (-1)
      rw [if_neg (by decide), Apply_f a rows h1 h3 k (by omega), refApply_f a rows h1 h3 k (by omega), Diff_f a b h2 k (by omega), refDiff_f a b h2 k (by omega)]
      simp only [Option.bind_some]
      rw [sameRows_f _ (by omega) k (by omega), Option.bind_some, if_pos rfl, same_self _ (by omega) k (by omega), Option.bind_some, if_pos rfl]
      simp
  by_cases h1 : a.length ≤ 500
  · rw [if_neg (by omega)]
    by_cases h2 : b.length ≤ 500
    · rw [if_neg (by omega)]
      refine hj _ (fun hc => ⟨h1, h2, ?_⟩)
      have := of_decide_eq_false hc
      omega
    · rw [if_pos (by omega)]
      exact hj _ (fun hc => by cases hc)
  · rw [if_pos (by omega)]
    exact hj _ (fun hc => by cases hc)
theorem set_mid (b a : List S38) (j : Nat) (hj : j < a.length) (hb : j < b.length) : (b.take j ++ a.drop j).set j (b.getD j z38) = b.take (j + 1) ++ a.drop (j + 1) := by
  have hg : b.getD j z38 = b[j] := by simp [List.getD_eq_getElem?_getD, hb]
  rw [List.set_append_right _ _ (by simp; omega), List.length_take, Nat.min_eq_left (by omega), Nat.sub_self, List.drop_eq_getElem_cons hj, List.set_cons_zero, hg, List.take_succ_eq_append_getElem hb, List.append_assoc]
  rfl
theorem apl_dif (a b : List S38) (hab : a.length ≤ b.length) (hb : b.length ≤ 500) : ∀ d j (last : Int), b.length - j = d → j ≤ b.length → last < (j : Int) → apl (b.take j ++ a.drop j) last (dif a b d j) = (b, 0) := by
  intro d
  induction d with
  | zero =>
    intro j last hd hj hl
    simp only [dif, apl]
    rw [show j = b.length by omega, List.take_length, List.drop_of_length_le (by omega), List.append_nil]
  | succ d ih =>
    intro j last hd hj hl
    have hjb : j < b.length := by omega
    have hg : b.getD j z38 = b[j] := by simp [List.getD_eq_getElem?_getD, hjb]
    simp only [dif]
    by_cases h : a.length ≤ j ∨ a.getD j z38 ≠ b.getD j z38
    · rw [if_pos h]
      have hlen : (b.take j ++ a.drop j).length = j + (a.length - j) := by simp; omega
      simp only [apl, hlen]
      rw [if_neg (by omega), if_neg (by omega), if_neg (by omega)]
      by_cases hja : j < a.length
      · rw [if_pos (by omega), Int.toNat_natCast, set_mid b a j hja hjb, ih (j + 1) (j : Int) (by omega) (by omega) (by omega)]
      · rw [if_neg (by omega)]
        have e : b.take j ++ a.drop j ++ [b.getD j z38] = b.take (j + 1) ++ a.drop (j + 1) := by
          rw [List.drop_of_length_le (by omega), List.drop_of_length_le (by omega), hg, List.take_succ_eq_append_getElem hjb]
          simp
        rw [e, ih (j + 1) (j : Int) (by omega) (by omega) (by omega)]
    · rw [if_neg h]
      have hja : j < a.length := by omega
      have he : a.getD j z38 = b.getD j z38 := by
        by_cases e : a.getD j z38 = b.getD j z38
        · exact e
        · exact absurd (.inr e) h
      have e : b.take j ++ a.drop j = b.take (j + 1) ++ a.drop (j + 1) := by
        have hga : a.getD j z38 = a[j] := by simp [List.getD_eq_getElem?_getD, hja]
        rw [List.drop_eq_getElem_cons hja, ← hga, he, hg, List.take_succ_eq_append_getElem hjb, List.append_assoc]
        rfl
      rw [e, ih (j + 1) last (by omega) (by omega) (by omega)]
theorem dif_self (a : List S38) : ∀ d j, j + d ≤ a.length → dif a a d j = [] := by
  intro d
  induction d with
  | zero => intro j _; rfl
  | succ d ih =>
    intro j h
    simp only [dif]
    rw [if_neg (by rintro (c | c); omega; exact c rfl), ih (j + 1) (by omega)]
theorem TableBack_all (a b : List S38) (k : Nat) (hk : 1200 < k) : binderylaw21_TableBack.f k a b = some true := by
  unfold binderylaw21_TableBack.f
  obtain ⟨k, rfl⟩ := Nat.exists_eq_succ_of_ne_zero (by omega : k ≠ 0)
  have ht := tables_ok k (by omega)
  have hj : ∀ c : Bool, (c = false → a.length ≤ 500 ∧ b.length ≤ 500 ∧ a.length ≤ b.length) → binderylaw21_TableBack.j0 (k + 1) a b c = some true := by
    intro c hc
    simp only [binderylaw21_TableBack.j0]
    rw [ht]
    cases c with
    | true => simp
    | false =>
      obtain ⟨h1, h2, h3⟩ := hc rfl
      have hl := dif_length a b b.length 0
      have hap := apl_dif a b h3 h2 b.length 0 (-1) (by omega) (by omega) (by omega)
      simp only [List.take_zero, List.drop_zero, List.nil_append] at hap
      rw [if_neg (by decide), Diff_f a b h2 k (by omega), Option.bind_some, Apply_f a _ h1 (by omega) k (by omega), Option.bind_some, hap]
      simp only []
      rw [same_self _ (by omega) k (by omega), Option.bind_some, if_pos rfl, Diff_f a a h1 k (by omega), Option.bind_some, dif_self a _ _ (by omega)]
      simp
  by_cases h1 : a.length ≤ 500
  · rw [if_neg (by omega)]
    by_cases h2 : b.length ≤ 500
    · rw [if_neg (by omega)]
      refine hj _ (fun hc => ⟨h1, h2, ?_⟩)
      have := of_decide_eq_false hc
      omega
    · rw [if_pos (by omega)]
      exact hj _ (fun hc => by cases hc)
  · rw [if_pos (by omega)]
    exact hj _ (fun hc => by cases hc)

end Go.Proofs.Ytnneppnjofneoaa.R
