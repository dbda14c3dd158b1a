/- Parts of the proof: what the theorem reaches, put together by a program of this session. -/
import Derived.Sort.LotA
namespace Go.Proofs.Ytogpnkkoablmiaa.V
open Go.Sort
set_option linter.unusedVariables false
set_option linter.unusedSimpArgs false
section
variable {α : Type} [Inhabited α]
def seg (d : Array α) (a b : Nat) : List α := (List.range (b - a)).map fun i => d[a + i]!
theorem seg_len (d : Array α) (a b : Nat) : (seg d a b).length = b - a := by simp [seg]
theorem seg_get (d : Array α) (a b i : Nat) (h : i < (seg d a b).length) : (seg d a b)[i] = d[a + i]! := by simp [seg]
theorem seg_app (d : Array α) {a m b : Nat} (h1 : a ≤ m) (h2 : m ≤ b) : seg d a b = seg d a m ++ seg d m b := by
 apply List.ext_getElem
 · simp [seg_len]; omega
 · intro i h3 h4
   rw [seg_get]
   by_cases h : i < (seg d a m).length
   · rw [List.getElem_append_left h, seg_get]
   · rw [List.getElem_append_right (by omega), seg_get]
     have hl := seg_len d a m
     rw [hl]
     congr 1
     omega
theorem seg_eq {d d' : Array α} {a b a' b' : Nat} (hl : b - a = b' - a') (h : ∀ i, i < b - a → d[a + i]! = d'[a' + i]!) : seg d a b = seg d' a' b' := by
 apply List.ext_getElem
 · simp [seg_len]; omega
 · intro i h3 h4
   rw [seg_get, seg_get]
   exact h i (by rw [seg_len] at h3; exact h3)
theorem seg_mem {d : Array α} {a b : Nat} {x : α} : x ∈ seg d a b ↔ ∃ i, a ≤ i ∧ i < b ∧ d[i]! = x := by
 simp only [seg, List.mem_map, List.mem_range]
 constructor
 · rintro ⟨i, h, rfl⟩; exact ⟨a + i, by omega, by omega, rfl⟩
 · rintro ⟨i, h1, h2, rfl⟩; exact ⟨i - a, by omega, by congr 1; omega⟩
theorem seg_nil (d : Array α) {a b : Nat} (h : b ≤ a) : seg d a b = [] := by
 have : b - a = 0 := by omega
 simp [seg, this]
theorem seg_all (d : Array α) : seg d 0 d.size = d.toList := by
 apply List.ext_getElem
 · simp [seg_len]
 · intro i h1 h2
   rw [seg_get]
   simp at h2
   simp [h2]
structure Stab {β : Type} (q : β → α → Bool) (a b : Nat) (d d' : Array α) : Prop where
 size : d'.size = d.size
 out : ∀ t, t < a ∨ b ≤ t → d'[t]! = d[t]!
 cls : ∀ k, (seg d' a b).filter (q k) = (seg d a b).filter (q k)
variable {β : Type} {q : β → α → Bool} {lt : α → α → Bool}
theorem Stab.refl (a b : Nat) (d : Array α) : Stab q a b d d := ⟨rfl, fun _ _ => rfl, fun _ => rfl⟩
theorem Stab.trans {a b : Nat} {d d' d'' : Array α} (h : Stab q a b d d') (h' : Stab q a b d' d'') : Stab q a b d d'' :=
 ⟨h'.size.trans h.size, fun t ht => (h'.out t ht).trans (h.out t ht), fun k => (h'.cls k).trans (h.cls k)⟩
theorem Stab.widen {a b a' b' : Nat} {d d' : Array α} (h : Stab q a b d d') (h1 : a' ≤ a) (h2 : b ≤ b') (h3 : a ≤ b) : Stab q a' b' d d' := by
 refine ⟨h.size, fun t ht => h.out t (by omega), fun k => ?_⟩
 rw [seg_app d' h1 (by omega : a ≤ b'), seg_app d' h3 h2, seg_app d h1 (by omega : a ≤ b'), seg_app d h3 h2]
 simp only [List.filter_append]
 rw [h.cls k, seg_eq (d := d') (d' := d) (a := a') (b := a) (a' := a') (b' := a) rfl (fun i hi => h.out _ (.inl (by omega))), seg_eq (d := d') (d' := d) (a := b) (b := b') (a' := b) (b' := b') rfl (fun i hi => h.out _ (.inr (by omega)))]
theorem Stab.mem {a b : Nat} {d d' : Array α} (hq : ∀ x, ∃ k, q k x = true) (h : Stab q a b d d') {i : Nat} (h1 : a ≤ i) (h2 : i < b) : ∃ j, a ≤ j ∧ j < b ∧ d[j]! = d'[i]! := by
 obtain ⟨k, hk⟩ := hq d'[i]!
 have hm : d'[i]! ∈ (seg d' a b).filter (q k) := List.mem_filter.2 ⟨seg_mem.2 ⟨i, h1, h2, rfl⟩, hk⟩
 rw [h.cls k] at hm
 exact seg_mem.1 (List.mem_filter.1 hm).1
theorem seg_one (d : Array α) (a : Nat) : seg d a (a + 1) = [d[a]!] := by
 have : a + 1 - a = 1 := by omega
 simp [seg, this]
theorem Stab.swap {d : Array α} {a b j : Nat} (hq : ∀ k x y, lt x y = true → q k x = true → q k y = false) (h1 : a ≤ j) (h2 : j + 1 < b) (h3 : b ≤ d.size) (hl : lt d[j + 1]! d[j]! = true) : Stab q a b d (swp d (j + 1) j) := by
 have hg := swp_get d (show j + 1 < d.size by omega) (show j < d.size by omega)
 have key : Stab q j (j + 2) d (swp d (j + 1) j) := by
  refine ⟨swp_size _ _ _, fun t ht => by rw [hg, if_neg (by omega), if_neg (by omega)], fun k => ?_⟩
  rw [seg_app _ (show j ≤ j + 1 by omega) (show j + 1 ≤ j + 2 by omega), seg_app d (show j ≤ j + 1 by omega) (show j + 1 ≤ j + 2 by omega), seg_one, seg_one, seg_one, seg_one, hg, hg, if_pos rfl, if_neg (by omega), if_pos rfl]
  have hk := hq k _ _ hl
  cases hx : q k d[j + 1]! <;> cases hy : q k d[j]! <;> simp [hx, hy]
  rw [hk hx] at hy
  cases hy
 exact key.widen h1 (by omega) (by omega)
theorem insInner_stab (hq : ∀ k x y, lt x y = true → q k x = true → q k y = false) (a b : Nat) : ∀ (i : Nat) (d : Array α), i < b → b ≤ d.size → Stab q a b d (insInner lt a i d) := by
 intro i
 induction i with
 | zero => intro d _ _; exact Stab.refl _ _ _
 | succ j ih =>
   intro d h1 h2
   rw [insInner]
   split
   · rename_i h
     simp only [gt_iff_lt, Bool.and_eq_true, decide_eq_true_eq] at h
     exact (Stab.swap hq (by omega) h1 h2 h.2).trans (ih _ (by omega) (by rw [swp_size]; exact h2))
   · exact Stab.refl _ _ _
theorem insOuter_stab (hq : ∀ k x y, lt x y = true → q k x = true → q k y = false) (a b : Nat) : ∀ (r i : Nat) (d : Array α), b - i ≤ r → b ≤ d.size → Stab q a b d (insOuter lt a b i d) := by
 intro r
 induction r with
 | zero => intro i d h1 h2; rw [insOuter, if_neg (by omega)]; exact Stab.refl _ _ _
 | succ r ih =>
   intro i d h1 h2
   rw [insOuter]
   split
   · rename_i h
     have hs := insInner_stab hq a b i d h h2
     exact hs.trans (ih _ _ (by omega) (by rw [hs.size]; exact h2))
   · exact Stab.refl _ _ _
theorem insertionSort_stab (hq : ∀ k x y, lt x y = true → q k x = true → q k y = false) (d : Array α) (a b : Nat) (h : b ≤ d.size) : Stab q a b d (insertionSort lt d a b) := insOuter_stab hq a b _ _ d (Nat.le_refl _) h
structure SwR (a b i : Nat) (d d' : Array α) : Prop where
 size : d'.size = d.size
 get : ∀ t, d'[t]! = if a ≤ t ∧ t < a + i then d[t - a + b]! else if b ≤ t ∧ t < b + i then d[t - b + a]! else d[t]!
theorem SwR.zero (a b : Nat) (d : Array α) : SwR a b 0 d d := ⟨rfl, fun t => by rw [if_neg (by omega), if_neg (by omega)]⟩
theorem SwR.step {a b i : Nat} {d d' : Array α} (h : SwR a b i d d') (h1 : a + i < b) (h2 : b + i < d.size) : SwR a b (i + 1) d (swp d' (a + i) (b + i)) := by
 have hs := h.size
 refine ⟨(swp_size _ _ _).trans hs, fun t => ?_⟩
 rw [swp_get d' (by omega) (by omega), h.get (a + i), h.get (b + i), h.get t]
 repeat' split
 all_goals first | rfl | (exfalso; omega) | (congr 1; done) | (congr 1; omega)
structure RotR (a m b : Nat) (d d' : Array α) : Prop where
 size : d'.size = d.size
 get : ∀ t, d'[t]! = if a ≤ t ∧ t < a + (b - m) then d[t + (m - a)]! else if a + (b - m) ≤ t ∧ t < b then d[t - (b - m)]! else d[t]!
theorem RotR.same {m i : Nat} {d d' : Array α} (hi : i ≤ m) (h : SwR (m - i) m i d d') : RotR (m - i) m (m + i) d d' := by
 refine ⟨h.size, fun t => ?_⟩
 rw [h.get t]
 repeat' split
 all_goals first | rfl | (exfalso; omega) | (congr 1; done) | (congr 1; omega)
theorem RotR.left {m i j : Nat} {d d' d'' : Array α} (hi : i ≤ m) (hj : 0 < j) (hij : j < i) (h : SwR (m - i) m j d d') (h' : RotR (m - (i - j)) m (m + j) d' d'') : RotR (m - i) m (m + j) d d'' := by
 refine ⟨h'.size.trans h.size, fun t => ?_⟩
 rw [h'.get t, h.get t, h.get (t + (m - (m - (i - j)))), h.get (t - (m + j - m))]
 repeat' split
 all_goals first | rfl | (exfalso; omega) | (congr 1; done) | (congr 1; omega)
theorem RotR.right {m i j : Nat} {d d' d'' : Array α} (hi : i ≤ m) (h0 : 0 < i) (hij : i < j) (h : SwR (m - i) (m + j - i) i d d') (h' : RotR (m - i) m (m + (j - i)) d' d'') : RotR (m - i) m (m + j) d d'' := by
 refine ⟨h'.size.trans h.size, fun t => ?_⟩
 rw [h'.get t, h.get t, h.get (t + (m - (m - i))), h.get (t - (m + (j - i) - m))]
 repeat' split
 all_goals first | rfl | (exfalso; omega) | (congr 1; done) | (congr 1; omega)
theorem le_trans_of (hS : SWO lt) {x y z : α} (h1 : lt y x = false) (h2 : lt z y = false) : lt z x = false := by
 have _i : α := default
 exact hS.ntrans _ _ _ h2 h1
theorem lt_le_of (hS : SWO lt) {x y z : α} (h1 : lt x y = true) (h2 : lt z y = false) : lt x z = true := by
 have _i : α := default
 cases h : lt x z with
 | true => rfl
 | false => have := hS.ntrans x z y h h2; rw [h1] at this; cases this
theorem le_lt_of (hS : SWO lt) {x y z : α} (h1 : lt y x = false) (h2 : lt y z = true) : lt x z = true := by
 have _i : α := default
 cases h : lt x z with
 | true => rfl
 | false => have := hS.ntrans y x z h1 h; rw [h2] at this; cases this
structure Cut (lt : α → α → Bool) (a m b s : Nat) (d : Array α) : Prop where
 lo : a ≤ s
 hi : s ≤ m
 e1 : m ≤ (a + b) / 2 + m - s
 e2 : (a + b) / 2 + m - s ≤ b
 e3 : s ≤ (a + b) / 2
 le : a < s → (a + b) / 2 + m - s < b → lt d[(a + b) / 2 + m - s]! d[s - 1]! = false
 lt : s < m → m < (a + b) / 2 + m - s → lt d[(a + b) / 2 + m - s - 1]! d[s]! = true
theorem sorted_at {a b : Nat} {d : Array α} (hS : SWO lt) (h : SortedIn lt a b d) {i j : Nat} (h1 : a ≤ i) (h2 : i ≤ j) (h3 : j < b) : lt d[j]! d[i]! = false := by
 rcases Nat.lt_or_ge i j with h4 | h4
 · exact h i j h1 h4 h3
 · obtain rfl : i = j := by omega
   exact hS.irrefl _
theorem filt_swap (hq : ∀ k x y, lt x y = true → q k x = true → q k y = false) {xs ys : List α} (h : ∀ x ∈ xs, ∀ y ∈ ys, lt y x = true) (k : β) : (ys ++ xs).filter (q k) = (xs ++ ys).filter (q k) := by
 have _i : α := default
 simp only [List.filter_append]
 by_cases hy : ys.filter (q k) = []
 · rw [hy]; simp
 · obtain ⟨y, hy2⟩ := List.exists_mem_of_ne_nil _ hy
   have hy3 := List.mem_filter.1 hy2
   have : xs.filter (q k) = [] := by
    apply List.filter_eq_nil_iff.2
    intro x hx hqx
    have := hq k y x (h x hx y hy3.1) hy3.2
    rw [hqx] at this
    cases this
   rw [this]; simp
theorem Cut.rot (hS : SWO lt) (hq : ∀ k x y, lt x y = true → q k x = true → q k y = false) {a m b s : Nat} {d d' : Array α} (hc : Cut lt a m b s d) (ham : a ≤ m) (hmb : m ≤ b) (hb : b ≤ d.size)
 (s1 : SortedIn lt a m d) (s2 : SortedIn lt m b d) (hr : RotR s m ((a + b) / 2 + m - s) d d') :
 Stab q a b d d' ∧ SortedIn lt a s d' ∧ SortedIn lt s ((a + b) / 2) d' ∧ SortedIn lt ((a + b) / 2) ((a + b) / 2 + m - s) d' ∧ SortedIn lt ((a + b) / 2 + m - s) b d' ∧
 ∀ i j, a ≤ i → i < (a + b) / 2 → (a + b) / 2 ≤ j → j < b → lt d'[j]! d'[i]! = false := by
 obtain ⟨lo, hi, e1, e2, e3, cle, clt⟩ := hc
 generalize hmid : (a + b) / 2 = mid at *
 generalize he : mid + m - s = e at *
 have hmid2 : s + (e - m) = mid := by omega
 have g := hr.get
 have st : Stab q s e d d' := by
  refine ⟨hr.size, fun t ht => by rw [g t, if_neg (by omega), if_neg (by omega)], fun k => ?_⟩
  rw [seg_app d' (show s ≤ s + (e - m) by omega) (show s + (e - m) ≤ e by omega), seg_app d hi e1,
   seg_eq (d := d') (d' := d) (a := s) (b := s + (e - m)) (a' := m) (b' := e) (by omega) (fun i hi => by rw [g, if_pos (by omega)]; congr 1; omega),
   seg_eq (d := d') (d' := d) (a := s + (e - m)) (b := e) (a' := s) (b' := m) (by omega) (fun i hi => by rw [g, if_neg (by omega), if_pos (by omega)]; congr 1; omega)]
  refine filt_swap hq (fun x hx y hy => ?_) k
  obtain ⟨i, i1, i2, rfl⟩ := seg_mem.1 hx
  obtain ⟨j, j1, j2, rfl⟩ := seg_mem.1 hy
  have h1 := clt (by omega) (by omega)
  have h2 : lt d[e - 1]! d[j]! = false := sorted_at hS s2 j1 (by omega) (by omega)
  have h3 : lt d[i]! d[s]! = false := sorted_at hS s1 lo i1 i2
  exact lt_le_of hS (le_lt_of hS h2 h1) h3
 have A1 : ∀ t, t < s → d'[t]! = d[t]! := fun t ht => by rw [g t, if_neg (by omega), if_neg (by omega)]
 have B1 : ∀ t, s ≤ t → t < mid → d'[t]! = d[t + (m - s)]! := fun t h1 h2 => by rw [g t, if_pos (by omega)]
 have A2 : ∀ t, mid ≤ t → t < e → d'[t]! = d[t - (e - m)]! := fun t h1 h2 => by rw [g t, if_neg (by omega), if_pos (by omega)]
 have B2 : ∀ t, e ≤ t → d'[t]! = d[t]! := fun t h1 => by rw [g t, if_neg (by omega), if_neg (by omega)]
 refine ⟨st.widen lo e2 (by omega), fun i j h1 h2 h3 => ?_, fun i j h1 h2 h3 => ?_, fun i j h1 h2 h3 => ?_, fun i j h1 h2 h3 => ?_, fun i j h1 h2 h3 h4 => ?_⟩
 · rw [A1 i (by omega), A1 j h3]; exact s1 i j h1 h2 (by omega)
 · rw [B1 i h1 (by omega), B1 j (by omega) h3]; exact s2 _ _ (by omega) (by omega) (by omega)
 · rw [A2 i h1 (by omega), A2 j (by omega) h3]; exact s1 _ _ (by omega) (by omega) (by omega)
 · rw [B2 i h1, B2 j (by omega)]; exact s2 i j (by omega) h2 h3
 · by_cases hi1 : i < s
   · rw [A1 i hi1]
     by_cases hj1 : j < e
     · rw [A2 j h3 hj1]; exact s1 _ _ h1 (by omega) (by omega)
     · rw [B2 j (by omega)]
       have h5 := cle (by omega) (by omega)
       have h6 : lt d[s - 1]! d[i]! = false := sorted_at hS s1 h1 (by omega) (by omega)
       have h7 : lt d[j]! d[e]! = false := sorted_at hS s2 (by omega) (by omega) h4
       exact le_trans_of hS (le_trans_of hS h6 h5) h7
   · rw [B1 i (by omega) h2]
     by_cases hj1 : j < e
     · rw [A2 j h3 hj1]
       have h1' := clt (by omega) (by omega)
       have h2' : lt d[e - 1]! d[i + (m - s)]! = false := sorted_at hS s2 (by omega) (by omega) (by omega)
       have h3' : lt d[j - (e - m)]! d[s]! = false := sorted_at hS s1 lo (by omega) (by omega)
       exact hS.asymmA (lt_le_of hS (le_lt_of hS h2' h1') h3')
     · rw [B2 j (by omega)]; exact sorted_at hS s2 (by omega) (by omega) h4
theorem halves (hS : SWO lt) (hqx : ∀ x, ∃ k, q k x = true) {a mid b : Nat} {d d1 d2 : Array α} (h1 : a ≤ mid) (h2 : mid ≤ b) (hx : ∀ i j, a ≤ i → i < mid → mid ≤ j → j < b → lt d[j]! d[i]! = false)
 (t1 : Stab q a mid d d1) (t2 : Stab q mid b d1 d2) (s1 : SortedIn lt a mid d1) (s2 : SortedIn lt mid b d2) : Stab q a b d d2 ∧ SortedIn lt a b d2 := by
 refine ⟨(t1.widen (Nat.le_refl _) h2 h1).trans (t2.widen h1 (Nat.le_refl _) h2), fun i j h3 h4 h5 => ?_⟩
 by_cases hj : j < mid
 · rw [t2.out i (.inl (by omega)), t2.out j (.inl hj)]; exact s1 i j h3 h4 hj
 · by_cases hi : i < mid
   · obtain ⟨i', i1, i2, e1⟩ := t1.mem hqx h3 hi
     obtain ⟨j', j1, j2, e2⟩ := t2.mem hqx (show mid ≤ j by omega) h5
     rw [t2.out i (.inl hi), ← e1, ← e2, t1.out j' (.inr j1)]
     exact hx i' j' i1 i2 j1 j2
   · exact s2 i j (by omega) h4 h5
theorem swp_comm (d : Array α) {i j : Nat} (hi : i < d.size) (hj : j < d.size) : swp d i j = swp d j i := by
 refine Array.ext (by rw [swp_size, swp_size]) fun t h1 h2 => ?_
 have h3 := swp_get d hi hj t
 have h4 := swp_get d hj hi t
 rw [getElem!_pos _ t h1] at h3
 rw [getElem!_pos _ t h2] at h4
 rw [h3, h4]
 by_cases e1 : t = j
 · by_cases e2 : t = i
   · subst e1; subst e2; rfl
   · rw [if_pos e1, if_neg e2, if_pos e1]
 · by_cases e2 : t = i
   · rw [if_neg e1, if_pos e2, if_pos e2]
   · rw [if_neg e1, if_neg e2, if_neg e2, if_neg e1]
structure MvU (a k : Nat) (d d' : Array α) : Prop where
 size : d'.size = d.size
 get : ∀ t, d'[t]! = if a ≤ t ∧ t < k then d[t + 1]! else if t = k then d[a]! else d[t]!
theorem MvU.zero (a : Nat) (d : Array α) : MvU a a d d := by
 refine ⟨rfl, fun t => ?_⟩
 repeat' split
 all_goals first | rfl | (exfalso; omega) | (congr 1; done) | (congr 1; omega)
theorem MvU.g1 {a k : Nat} {d d' : Array α} (h : MvU a k d d') {t : Nat} (h1 : a ≤ t) (h2 : t < k) : d'[t]! = d[t + 1]! := by rw [h.get, if_pos ⟨h1, h2⟩]
theorem MvU.g2 {a k : Nat} {d d' : Array α} (h : MvU a k d d') {t : Nat} (h2 : t = k) : d'[t]! = d[a]! := by rw [h.get, if_neg (by omega), if_pos h2]
theorem MvU.g3 {a k : Nat} {d d' : Array α} (h : MvU a k d d') {t : Nat} (h1 : k < t) : d'[t]! = d[t]! := by rw [h.get, if_neg (by omega), if_neg (by omega)]
theorem MvU.step {a k : Nat} {d d' : Array α} (h : MvU a k d d') (h1 : a ≤ k) (h2 : k + 1 < d.size) : MvU a (k + 1) d (swp d' k (k + 1)) := by
 have hs := h.size
 refine ⟨(swp_size _ _ _).trans hs, fun t => ?_⟩
 rw [swp_get d' (by omega) (by omega), h.get k, h.get (k + 1), h.get t]
 repeat' split
 all_goals first | rfl | (exfalso; omega) | (congr 1; done) | (congr 1; omega)
theorem MvU.stab (hq : ∀ k x y, lt x y = true → q k x = true → q k y = false) {a k b : Nat} {d d' : Array α} (h : MvU a k d d') (hs : Stab q a b d d') (h1 : a ≤ k) (h2 : k + 1 < b) (h3 : b ≤ d.size) (hl : lt d[k + 1]! d[a]! = true) : Stab q a b d (swp d' k (k + 1)) := by
 rw [swp_comm d' (by rw [h.size]; omega) (by rw [h.size]; omega)]
 refine hs.trans (Stab.swap (lt := lt) hq h1 h2 (by rw [h.size]; exact h3) ?_)
 rw [h.get, h.get, if_neg (by omega), if_neg (by omega), if_neg (by omega), if_pos rfl]
 exact hl
theorem MvU.sorted (hS : SWO lt) {a i b : Nat} {d d' : Array α} (h : MvU a (i - 1) d d') (h1 : a < i) (h2 : i ≤ b) (s : SortedIn lt (a + 1) b d) (hl : a + 1 < i → lt d[i - 1]! d[a]! = true) (hr : i < b → lt d[i]! d[a]! = false) : SortedIn lt a b d' := by
 intro x y hx hxy hy
 by_cases x1 : x < i - 1
 · rw [h.g1 hx x1]
   by_cases y1 : y < i - 1
   · rw [h.g1 (by omega) y1]; exact s _ _ (by omega) (by omega) (by omega)
   · by_cases y2 : y = i - 1
     · rw [h.g2 y2]
       have h3 := hl (by omega)
       have h4 : lt d[i - 1]! d[x + 1]! = false := sorted_at hS s (by omega) (by omega) (by omega)
       exact hS.asymmA (le_lt_of hS h4 h3)
     · rw [h.g3 (by omega)]; exact s _ _ (by omega) (by omega) hy
 · rw [h.g3 (show i - 1 < y by omega)]
   by_cases x2 : x = i - 1
   · rw [h.g2 x2]
     exact le_trans_of hS (hr (by omega)) (sorted_at hS s (by omega) (by omega) hy)
   · rw [h.g3 (by omega)]; exact s _ _ (by omega) hxy hy
structure MvD (k m : Nat) (d d' : Array α) : Prop where
 size : d'.size = d.size
 get : ∀ t, d'[t]! = if k < t ∧ t ≤ m then d[t - 1]! else if t = k then d[m]! else d[t]!
theorem MvD.zero (m : Nat) (d : Array α) : MvD m m d d := by
 refine ⟨rfl, fun t => ?_⟩
 repeat' split
 all_goals first | rfl | (exfalso; omega) | (congr 1; done) | (congr 1; omega)
theorem MvD.g1 {k m : Nat} {d d' : Array α} (h : MvD k m d d') {t : Nat} (h1 : k < t) (h2 : t ≤ m) : d'[t]! = d[t - 1]! := by rw [h.get, if_pos ⟨h1, h2⟩]
theorem MvD.g2 {k m : Nat} {d d' : Array α} (h : MvD k m d d') {t : Nat} (h2 : t = k) : d'[t]! = d[m]! := by rw [h.get, if_neg (by omega), if_pos h2]
theorem MvD.g3 {k m : Nat} {d d' : Array α} (h : MvD k m d d') {t : Nat} (h1 : t < k) : d'[t]! = d[t]! := by rw [h.get, if_neg (by omega), if_neg (by omega)]
theorem MvD.step {k m : Nat} {d d' : Array α} (h : MvD (k + 1) m d d') (h1 : k + 1 ≤ m) (h2 : m < d.size) : MvD k m d (swp d' (k + 1) k) := by
 have hs := h.size
 refine ⟨(swp_size _ _ _).trans hs, fun t => ?_⟩
 rw [swp_get d' (by omega) (by omega), h.get k, h.get (k + 1), h.get t]
 repeat' split
 all_goals first | rfl | (exfalso; omega) | (congr 1; done) | (congr 1; omega)
theorem MvD.stab (hq : ∀ k x y, lt x y = true → q k x = true → q k y = false) {a k m : Nat} {d d' : Array α} (h : MvD (k + 1) m d d') (hs : Stab q a (m + 1) d d') (h1 : a ≤ k) (h2 : k + 1 ≤ m) (h3 : m < d.size) (hl : lt d[m]! d[k]! = true) : Stab q a (m + 1) d (swp d' (k + 1) k) := by
 refine hs.trans (Stab.swap (lt := lt) hq h1 (by omega) (by rw [h.size]; exact h3) ?_)
 rw [h.get, h.get, if_neg (by omega), if_pos rfl, if_neg (by omega), if_neg (by omega)]
 exact hl
theorem MvD.sorted (hS : SWO lt) {a i m : Nat} {d d' : Array α} (h : MvD i m d d') (h1 : a ≤ i) (h2 : i ≤ m) (s : SortedIn lt a m d) (hl : a < i → lt d[m]! d[i - 1]! = false) (hr : i < m → lt d[m]! d[i]! = true) : SortedIn lt a (m + 1) d' := by
 intro x y hx hxy hy
 by_cases x1 : x < i
 · rw [h.g3 x1]
   by_cases y1 : y < i
   · rw [h.g3 y1]; exact s _ _ hx hxy (by omega)
   · by_cases y2 : y = i
     · rw [h.g2 y2]
       have h4 : lt d[i - 1]! d[x]! = false := sorted_at hS s hx (by omega) (by omega)
       exact le_trans_of hS h4 (hl (by omega))
     · rw [h.g1 (by omega) (by omega)]
       exact sorted_at hS s hx (by omega) (by omega)
 · rw [h.g1 (show i < y by omega) (by omega)]
   by_cases x2 : x = i
   · rw [h.g2 x2]
     have h3 := hr (by omega)
     have h4 : lt d[y - 1]! d[i]! = false := sorted_at hS s (by omega) (by omega) (by omega)
     exact hS.asymmA (lt_le_of hS h3 h4)
   · rw [h.g1 (by omega) (by omega)]; exact s _ _ (by omega) (by omega) (by omega)
def BlkTo (lt : α → α → Bool) (c z : Nat) (d : Array α) : Prop := ∀ i j, i < j → j < c → i / z = j / z → lt d[j]! d[i]! = false
def BlkFrom (lt : α → α → Bool) (c n z : Nat) (d : Array α) : Prop := ∀ i j, c ≤ i → i < j → j < n → i / z = j / z → lt d[j]! d[i]! = false
theorem BlkTo.next {k z b : Nat} {d d' : Array α} (hz : 0 < z) (h : BlkTo lt (k * z) z d) (hs : Stab q (k * z) b d d') (so : SortedIn lt (k * z) b d') (hb : b ≤ k * z + z) : BlkTo lt b z d' := by
 intro i j hij hj he
 by_cases h1 : j < k * z
 · rw [hs.out i (.inl (by omega)), hs.out j (.inl h1)]; exact h i j hij h1 he
 · have e1 : j / z = k := Nat.div_eq_of_lt_le (by omega) (by rw [Nat.add_mul, Nat.one_mul]; omega)
   have e2 : k * z ≤ i := by rw [← e1, ← he]; exact Nat.div_mul_le_self i z
   exact so i j e2 hij hj
theorem BlkTo.all {n z : Nat} {d : Array α} (h : BlkTo lt n z d) (hz : n ≤ z) : SortedIn lt 0 n d := by
 intro i j _ hij hj
 exact h i j hij hj (by rw [Nat.div_eq_of_lt (by omega), Nat.div_eq_of_lt (by omega)])
theorem BlkTo.start {n z : Nat} {d : Array α} (h : BlkTo lt n z d) : BlkFrom lt 0 n z d := fun i j _ => h i j
theorem BlkFrom.left {k n z : Nat} {d : Array α} (hz : 0 < z) (h : BlkFrom lt (k * (2 * z)) n z d) {m : Nat} (h1 : m ≤ n) (h2 : m ≤ k * (2 * z) + z) : SortedIn lt (k * (2 * z)) m d := by
 intro i j hi hij hj
 have e : k * (2 * z) = (2 * k) * z := by rw [Nat.mul_comm 2 k, Nat.mul_assoc]
 refine h i j hi hij (by omega) ?_
 rw [Nat.div_eq_of_lt_le (k := 2 * k) (by omega) (by rw [Nat.add_mul, Nat.one_mul]; omega), Nat.div_eq_of_lt_le (k := 2 * k) (by omega) (by rw [Nat.add_mul, Nat.one_mul]; omega)]
theorem BlkFrom.right {k n z : Nat} {d : Array α} (hz : 0 < z) (h : BlkFrom lt (k * (2 * z)) n z d) {b : Nat} (h1 : b ≤ n) (h2 : b ≤ k * (2 * z) + 2 * z) : SortedIn lt (k * (2 * z) + z) b d := by
 intro i j hi hij hj
 have e : k * (2 * z) + z = (2 * k + 1) * z := by rw [Nat.add_mul, Nat.one_mul, Nat.mul_comm 2 k, Nat.mul_assoc]
 have e' : (2 * k + 1 + 1) * z = k * (2 * z) + 2 * z := by rw [Nat.add_mul, ← e, Nat.one_mul]; omega
 refine h i j (by omega) hij (by omega) ?_
 rw [Nat.div_eq_of_lt_le (k := 2 * k + 1) (by omega) (by omega), Nat.div_eq_of_lt_le (k := 2 * k + 1) (by omega) (by omega)]
theorem BlkFrom.next {c n z b : Nat} {d d' : Array α} (h : BlkFrom lt c n z d) {a : Nat} (hs : Stab q a b d d') (hb : c ≤ b) : BlkFrom lt b n z d' := by
 intro i j hi hij hj he
 rw [hs.out i (.inr hi), hs.out j (.inr (by omega))]
 exact h i j (by omega) hij hj he
theorem BlkTo.last {k n z : Nat} {d : Array α} (hz : 0 < z) (h : BlkTo lt (k * (2 * z)) (2 * z) d) (hf : BlkFrom lt (k * (2 * z)) n z d) (hn : n ≤ k * (2 * z) + z) : BlkTo lt n (2 * z) d :=
 BlkTo.next (q := fun (_ : Unit) (_ : α) => true) (by omega) h (Stab.refl _ _ _) (hf.left hz (Nat.le_refl _) hn) (by omega)
end
end Go.Proofs.Ytogpnkkoablmiaa.V
