/- FieldsBack: what is put is got, in the width that is needed and in no lesser one; what is a row is cut into its numbers, and the other way round. No conditions. -/
import Derived.Test.YthgjlpibefghhaaHc
namespace Go.Proofs.Ythgjlpibefghhaa.Pure
set_option linter.unusedVariables false
set_option linter.unusedSimpArgs false
open Go.RowKit Go.Proofs.Ythgjlpibefghhaa.Q Go.Proofs.Ythgjlpibefghhaa.H Go.Proofs.YthgjlpibefghhaaW.PrintWords Go.Proofs.YthgjlpibefghhaaW.PrintLast

theorem putS_zero {n w : Int} (h : (putS n w).2 = 0) : 0 ≤ w ∧ w ≤ 8 ∧ 0 ≤ n ∧ n < 256 ^ w.toNat ∧ (putS n w).1 = strOfNums (be n w.toNat) := by
  unfold putS at h ⊢
  by_cases h1 : w < 0
  · rw [if_pos h1] at h; simp at h
  rw [if_neg h1] at h ⊢
  by_cases h2 : 8 < w
  · rw [if_pos h2] at h; simp at h
  rw [if_neg h2] at h ⊢
  by_cases h3 : n < 0
  · rw [if_pos h3] at h; simp at h
  rw [if_neg h3] at h ⊢
  by_cases h4 : n < 256 ^ w.toNat
  · rw [if_pos h4]
    exact ⟨by omega, by omega, by omega, h4, rfl⟩
  · rw [if_neg h4] at h; simp at h
theorem putS_mk {n w : Int} (h1 : 0 ≤ w) (h2 : w ≤ 8) (h3 : 0 ≤ n) (h4 : n < 256 ^ w.toNat) : putS n w = (strOfNums (be n w.toNat), 0) := by
  unfold putS
  rw [if_neg (by omega), if_neg (by omega), if_neg (by omega), if_pos h4]
theorem getL_be {n : Int} {w : Nat} (hw : w ≤ 8) (h0 : 0 ≤ n) (h1 : n < 256 ^ w) (h2 : n < 9223372036854775808) : getL (be n w) = (n, 0) := by
  unfold getL getR
  rw [be_length, if_neg (by omega), val_be w n h0 h1, if_pos h2]
theorem row_cut (ns : List Int) : ∀ (ws acc : List Int) (a : ByteArray), ns.length = ws.length → (∀ n ∈ ns, n < 9223372036854775808) → rowR acc ns ws = (a, 0) →
    ∃ rest, a = strOfNums (acc ++ rest) ∧ (∀ x ∈ rest, 0 ≤ x ∧ x < 256) ∧ (∀ c, tog c ws = (c + (rest.length : Int), true)) ∧ ∀ out, cutR out rest ws = (out ++ ns, 0) := by
  induction ns with
  | nil =>
    intro ws acc a hl _ h
    obtain rfl := List.eq_nil_of_length_eq_zero hl.symm
    simp only [rowR, Prod.mk.injEq] at h
    exact ⟨[], by simp [h.1], by simp, by simp [tog], by simp [cutR]⟩
  | cons n ns ih =>
    intro ws acc a hl hn h
    match ws, hl with
    | w :: ws, hl =>
      simp only [rowR] at h
      by_cases hp : (putS n w).2 = 0
      · rw [if_pos hp] at h
        obtain ⟨a1, a2, a3, a4, a5⟩ := putS_zero hp
        rw [a5, bytes_str _ (be_range _ _)] at h
        obtain ⟨rest, r1, r2, r3, r4⟩ := ih ws _ a (by simpa using hl) (fun x hx => hn x (by simp [hx])) h
        refine ⟨be n w.toNat ++ rest, by rw [r1, List.append_assoc], ?_, ?_, ?_⟩
        · intro x hx
          rcases List.mem_append.1 hx with hx | hx
          · exact be_range _ _ x hx
          · exact r2 x hx
        · intro c
          rw [tog, if_pos ⟨a1, a2⟩, r3]
          simp [be_length]
          omega
        · intro out
          have t1 : (be n w.toNat ++ rest).take w.toNat = be n w.toNat := List.take_left' (be_length _ _)
          have t2 : (be n w.toNat ++ rest).drop w.toNat = rest := List.drop_left' (be_length _ _)
          rw [cutR, t1, t2, getL_be (by omega) a3 a4 (hn n (by simp)), if_pos rfl, r4]
          simp
      · rw [if_neg hp] at h
        simp only [Prod.mk.injEq] at h
        exact absurd h.2 hp
theorem cut_row (ws : List Int) : ∀ (out bs l : List Int), (∀ x ∈ bs, 0 ≤ x ∧ x < 256) → tog 0 ws = ((bs.length : Int), true) → cutR out bs ws = (l, 0) →
    ∃ ns, l = out ++ ns ∧ ns.length = ws.length ∧ (∀ n ∈ ns, n < 9223372036854775808) ∧ ∀ acc, rowR acc ns ws = (strOfNums (acc ++ bs), 0) := by
  induction ws with
  | nil =>
    intro out bs l hb ht h
    simp only [tog, Prod.mk.injEq] at ht
    obtain rfl : bs = [] := List.eq_nil_of_length_eq_zero (by omega)
    simp only [cutR, Prod.mk.injEq] at h
    exact ⟨[], by simp [h.1], rfl, by simp, by simp [rowR]⟩
  | cons w ws ih =>
    intro out bs l hb ht h
    rw [tog] at ht
    by_cases hw : 0 ≤ w ∧ w ≤ 8
    · rw [if_pos hw] at ht
      have hsh := tog_shift ws (0 + w) (-w) (by rw [ht])
      have e : (0 + w + -w) = 0 := by omega
      rw [e, ht] at hsh
      have h0 := (tog_all _ _ hsh.1).1
      simp only at hsh
      have hlen : w.toNat ≤ bs.length := by omega
      simp only [cutR] at h
      by_cases hg : (getL (bs.take w.toNat)).2 = 0
      · rw [if_pos hg] at h
        have hrest : tog 0 ws = (((bs.drop w.toNat).length : Int), true) := by
          apply Prod.ext
          · simp only [List.length_drop]; omega
          · exact hsh.1
        obtain ⟨ns, n1, n2, n3, n4⟩ := ih _ _ l (fun x hx => hb x (List.mem_of_mem_drop hx)) hrest h
        have htl : (bs.take w.toNat).length = w.toNat := by rw [List.length_take]; omega
        obtain ⟨v0, v1, v2⟩ := val_range w.toNat (bs.take w.toNat) htl (fun x hx => hb x (List.mem_of_mem_take hx))
        have hv : getL (bs.take w.toNat) = (val (bs.take w.toNat), 0) ∧ val (bs.take w.toNat) < 9223372036854775808 := by
          unfold getL getR at hg ⊢
          rw [htl, if_neg (by omega)] at hg ⊢
          by_cases hc : val (bs.take w.toNat) < 9223372036854775808
          · rw [if_pos hc]; exact ⟨rfl, hc⟩
          · rw [if_neg hc] at hg; simp at hg
        rw [hv.1] at n1
        refine ⟨val (bs.take w.toNat) :: ns, by rw [n1]; simp, by simp [n2], ?_, ?_⟩
        · intro x hx
          rcases List.mem_cons.1 hx with rfl | hx
          · exact hv.2
          · exact n3 x hx
        · intro acc
          rw [rowR, putS_mk hw.1 hw.2 v0 v1, if_pos rfl, v2, bytes_str _ (fun x hx => hb x (List.mem_of_mem_take hx)), n4]
          rw [List.append_assoc, List.take_append_drop]
      · rw [if_neg hg] at h
        simp only [Prod.mk.injEq] at h
        exact absurd h.2 hg
    · rw [if_neg hw] at ht
      simp at ht
theorem back_row (ns ws : List Int) (hn : ∀ n ∈ ns, n < 9223372036854775808) (h : (rowS ns ws).2 = 0) : cutS (rowS ns ws).1 ws = (ns, 0) := by
  unfold rowS at h ⊢
  by_cases hl : ns.length = ws.length ∧ ns.length ≤ 16
  · rw [if_pos hl] at h ⊢
    obtain ⟨rest, r1, r2, r3, r4⟩ := row_cut ns ws [] (rowR [] ns ws).1 hl.1 hn (Prod.ext rfl h)
    rw [r1, List.nil_append]
    unfold cutS
    have t := r3 0
    rw [if_neg (by omega), if_pos (by rw [t]), if_pos (by rw [t, str_size]; simp), bytes_str _ r2, r4]
    rfl
  · rw [if_neg hl] at h
    simp at h
theorem back_cut (s : ByteArray) (ws : List Int) (h : (cutS s ws).2 = 0) : rowS (cutS s ws).1 ws = (s, 0) ∧ ∀ n ∈ (cutS s ws).1, n < 9223372036854775808 := by
  unfold cutS at h ⊢
  by_cases h16 : 16 < ws.length
  · rw [if_pos h16] at h; simp at h
  rw [if_neg h16] at h ⊢
  by_cases ht : (tog 0 ws).2 = true
  · rw [if_pos ht] at h ⊢
    by_cases hs : (tog 0 ws).1 = s.size
    · rw [if_pos hs] at h ⊢
      obtain ⟨ns, n1, n2, n3, n4⟩ := cut_row ws [] (bytesOf s) (cutR [] (bytesOf s) ws).1 (bytes_range s) (Prod.ext (by rw [hs, bytes_length]) ht) (Prod.ext rfl h)
      rw [n1, List.nil_append]
      unfold rowS
      rw [if_pos ⟨n2, by omega⟩, n4, List.nil_append, str_bytes]
      exact ⟨rfl, n3⟩
    · rw [if_neg hs] at h; simp at h
  · rw [if_neg ht] at h; simp at h

theorem back_l0 (ns : List Int) (hn : ∀ n ∈ ns, n < 9223372036854775808) (h16 : ns.length ≤ 16) (d : Nat) : ∀ (k : Nat) (i : Int), 0 ≤ i → (ns.length : Int) - i = d → d + 30 ≤ k → binderylaw03_FieldsBack.l0 k ns i = some true := by
  induction d with
  | zero =>
    intro k i hi hd hk
    obtain ⟨k, rfl⟩ : ∃ m, k = m + 1 := ⟨k - 1, by omega⟩
    simp only [binderylaw03_FieldsBack.l0]
    rw [if_neg (by omega)]
    rfl
  | succ d ih =>
    intro k i hi hd hk
    obtain ⟨k, rfl⟩ : ∃ m, k = m + 1 := ⟨k - 1, by omega⟩
    have hm := hn _ (rd_mem ns i hi (by omega))
    have e : wrap64 (i + 1) = i + 1 := by unfold wrap64; omega
    have hnext := ih k (i + 1) (by omega) (by omega) (by omega)
    simp only [binderylaw03_FieldsBack.l0]
    rw [if_pos (by omega), if_pos hi, e]
    generalize rd ns i = n at hm
    have hneed : fields_Need.f [n] = some (if n < 0 then -1 else G.wd n) := by rw [← need_one]; rfl
    rw [hneed]
    simp only [Option.bind_some]
    have hw := G.wd_lo n
    by_cases h0 : n < 0
    · rw [if_pos h0, if_pos (by omega), if_neg (by omega)]
      exact hnext
    · rw [if_neg h0, if_neg (by omega)]
      have e1 : wrap64 (G.wd n - 1) = G.wd n - 1 := by unfold wrap64; omega
      have hok : (putS n (G.wd n)).2 = 0 := (putS_ok n (G.wd n) (by omega) hm hw.1 hw.2).mpr (by omega)
      obtain ⟨a1, a2, a3, a4, a5⟩ := putS_zero hok
      have hno : (putS n (G.wd n - 1)).2 ≠ 0 := by
        intro h
        obtain ⟨b1, b2, _, _, _⟩ := putS_zero h
        have := (putS_ok n (G.wd n - 1) (by omega) hm b1 b2).mp h
        omega
      rw [put_eq n _ hm, e1, put_eq n _ hm]
      simp only [Option.bind_some]
      rw [get_eq _ k (by omega)]
      simp only [Option.bind_some]
      rw [if_pos hok, a5, bytes_str _ (be_range _ _), getL_be (by omega) a3 a4 hm, if_pos rfl, if_pos rfl, if_neg hno]
      exact hnext

theorem FieldsBack : binderylaw03_FieldsBack.Pure := by
  intro l0 l1 a2 h0 h08 hw0 h1 h18 hw1 hs
  have hn : ∀ x ∈ l0, x < 9223372036854775808 := fun x hx => (wf_lt (hw0 x hx)).1
  have hj : ∀ b, ((b = false) → l0.length ≤ 16) → binderylaw03_FieldsBack.j0 203 l0 l1 a2 b = some true := by
    intro b hb
    simp only [binderylaw03_FieldsBack.j0]
    cases b with
    | true => simp [binderylaw03_wide.f]
    | false =>
      have h16 := hb rfl
      have hj2 : ∀ k, 60 ≤ k → binderylaw03_FieldsBack.j2 k l0 = some true := by
        intro k hk
        obtain ⟨k, rfl⟩ : ∃ m, k = m + 1 := ⟨k - 1, by omega⟩
        simp only [binderylaw03_FieldsBack.j2]
        exact back_l0 l0 hn h16 l0.length k 0 (by omega) (by omega) (by omega)
      have hj1 : ∀ k, 70 ≤ k → binderylaw03_FieldsBack.j1 k l0 l1 a2 = some true := by
        intro k hk
        obtain ⟨k, rfl⟩ : ∃ m, k = m + 1 := ⟨k - 1, by omega⟩
        simp only [binderylaw03_FieldsBack.j1]
        rw [cut_eq a2 l1 _ (by omega)]
        simp only [Option.bind_some]
        by_cases hc : (cutS a2 l1).2 = 0
        · obtain ⟨c1, c2⟩ := back_cut a2 l1 hc
          rw [if_pos hc, row_eq _ l1 c2 _ (by omega), c1]
          simp only [Option.bind_some, if_true]
          exact hj2 k (by omega)
        · rw [if_neg hc]
          exact hj2 k (by omega)
      rw [if_neg (by decide), row_eq l0 l1 hn _ (by omega)]
      simp only [Option.bind_some]
      by_cases hr : (rowS l0 l1).2 = 0
      · rw [if_pos hr, cut_eq _ l1 _ (by omega), back_row l0 l1 hn hr]
        simp only [Option.bind_some, if_true]
        rw [same_eq _ _ _ (by omega) (by omega)]
        simp only [Option.bind_some, decide_true, if_true]
        exact hj1 _ (by omega)
      · rw [if_neg hr]
        exact hj1 _ (by omega)
  refine ⟨203, ?_⟩
  unfold binderylaw03_FieldsBack.f
  split
  · exact hj _ (by simp)
  · split
    · exact hj _ (by simp)
    · exact hj _ (fun _ => by omega)
end Go.Proofs.Ythgjlpibefghhaa.Pure
