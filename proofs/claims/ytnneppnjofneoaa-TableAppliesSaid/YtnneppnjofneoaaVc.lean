import Derived.Scope
import Derived.Test.YtnneppnjofneoaaVa
import Derived.Test.YtnneppnjofneoaaVb
import Derived.Test.YtnneppnjofneoaaQx3
namespace Go.Proofs.Ytnneppnjofneoaa.V
open Go.RowKit Go.Shelf Go.Proofs.Ytnneppnjofneoaa.Q Go.Proofs.YtnneppnjofneoaaW.PrintWords Go.Proofs.YtnneppnjofneoaaW.PrintLast Go.Proofs.YtnneppnjofneoaaW.PrintMore
set_option linter.unusedVariables false
set_option linter.unusedSimpArgs false
attribute [local go_sem] Oper.semAt_some
def clr (x : S38) : S38 := if x.f0 = 0 then ⟨x.f0, 0, x.f2⟩ else x
/-- k entries have been seen. -/
def clrN (k : Nat) (t : List S38) : List S38 := (t.take k).map clr ++ t.drop k
def lstep (s : List S38 × Int) (n : Int) : List S38 × Int := (s.1.set s.2.toNat ⟨(s.1.getD s.2.toNat z38).f0, n, (s.1.getD s.2.toNat z38).f2⟩, n)
def lfold (t : List S38) (p : List Int) : List S38 × Int := p.foldl lstep ((t.map clr).set 0 ⟨0, 0, 65535⟩, 0)
def linked (t : List S38) : List S38 := if t = [] then [] else (lfold t (vac t t.length)).1
theorem clrN_zero (t : List S38) : clrN 0 t = t := by simp [clrN]
theorem clrN_all (t : List S38) : clrN t.length t = t.map clr := by simp [clrN]
theorem clrN_length (k : Nat) (t : List S38) : (clrN k t).length = t.length := by simp [clrN]; omega
theorem clrN_get (k : Nat) (t : List S38) (hk : k < t.length) : (clrN k t).getD k z38 = t.getD k z38 := by
  simp [clrN, List.getD_eq_getElem?_getD]
  rw [List.getElem?_append_right (by simp; omega)]
  simp [List.length_take, Nat.min_eq_left (Nat.le_of_lt hk)]
theorem clrN_succ (k : Nat) (t : List S38) (hk : k < t.length) : clrN (k + 1) t = (clrN k t).set k (clr (t.getD k z38)) := by
  apply List.ext_getElem?
  intro i
  rw [List.getElem?_set]
  simp only [clrN, List.getElem?_append, List.length_map, List.length_take, List.getElem?_map, List.getElem?_take, List.getElem?_drop, List.length_append, List.length_drop]
  by_cases h1 : i < k
  · rw [if_pos (by omega), if_pos (by omega), if_neg (by omega), if_pos (by omega), if_pos (by omega)]
  · by_cases h2 : k = i
    · subst h2
      rw [if_pos (by omega), if_pos (by omega), if_pos rfl, if_pos (by omega)]
      simp [List.getD_eq_getElem?_getD, hk]
    · rw [if_neg (by omega), if_neg (by omega), if_neg (by omega)]
      congr 1
      omega
theorem clrN_same (k : Nat) (t : List S38) (hk : k < t.length) (h : clr (t.getD k z38) = t.getD k z38) : clrN (k + 1) t = clrN k t := by
  rw [clrN_succ k t hk, h]
  apply List.ext_getElem?
  intro i
  rw [List.getElem?_set]
  split
  · rename_i h1
    subst h1
    have := clrN_get k t hk
    rw [if_pos (by rw [clrN_length]; exact hk)]
    rw [← this, List.getD_eq_getElem?_getD]
    have h2 : k < (clrN k t).length := by rw [clrN_length]; exact hk
    rw [List.getElem?_eq_getElem h2]
    rfl
  · rfl
theorem lfold_ok (t : List S38) (ht : t ≠ []) (q : List (Num t.length)) : 0 ≤ (lfold t (ints q)).2 ∧ (lfold t (ints q)).2 < (t.length : Int) ∧ (lfold t (ints q)).1.length = t.length := by
  have key : ∀ (q : List (Num t.length)) (s : List S38 × Int), 0 ≤ s.2 → s.2 < (t.length : Int) → s.1.length = t.length → 0 ≤ ((ints q).foldl lstep s).2 ∧ ((ints q).foldl lstep s).2 < (t.length : Int) ∧ ((ints q).foldl lstep s).1.length = t.length := by
    intro q
    induction q with
    | nil => intro s h1 h2 h3; exact ⟨h1, h2, h3⟩
    | cons x q ih => intro s h1 h2 h3; exact ih (lstep s x.1) x.2.1 x.2.2 (by simp [lstep, h3])
  have hp : 0 < t.length := by cases t with | nil => exact absurd rfl ht | cons _ _ => simp
  exact key q (_, 0) (Int.le_refl _) (Int.ofNat_lt.2 hp) (by simp)
theorem lfold_snoc (t : List S38) (p : List Int) (n : Int) : lfold t (p ++ [n]) = lstep (lfold t p) n := by simp [lfold]
theorem row_at {W : World} {base g n cap : Nat} {ok : Nat → Prop} {xs : List S38} (HO : k38.R 38 W base ok (.slice (some ⟨g, 0, none⟩) n cap) xs) (i : Int) (h0 : 0 ≤ i) (hi : i < n) :
    W.cell? ⟨g, i.toNat * 3, none⟩ = some (.int .i64 (xs.getD i.toNat z38).f0) ∧ W.cell? ⟨g, i.toNat * 3 + 1, none⟩ = some (.int .i64 (xs.getD i.toNat z38).f1) ∧ W.cell? ⟨g, i.toNat * 3 + 2, none⟩ = some (.int .i64 (xs.getD i.toNat z38).f2) ∧
    W.frozen? ⟨g, i.toNat * 3, none⟩ = false ∧ W.frozen? ⟨g, i.toNat * 3 + 1, none⟩ = false ∧ W.frozen? ⟨g, i.toNat * 3 + 2, none⟩ = false := by
  obtain ⟨c, hcl, hM, hc, hf⟩ := Kd.R_elem HO z38 i h0 hi
  have hc' : ∀ j u, c[j]? = some u → W.cell? ⟨g, i.toNat * 3 + j, none⟩ = some u := hc
  have hf' : ∀ j, W.frozen? ⟨g, i.toNat * 3 + j, none⟩ = false := hf
  obtain rfl := k38_openM hM
  exact ⟨hc' 0 _ rfl, hc' 1 _ rfl, hc' 2 _ rfl, hf' 0, hf' 1, hf' 2⟩
/-- A field of an entry is written. -/
theorem row_setA {W : World} {base g n cap : Nat} {ok : Nat → Prop} {xs : List S38} (HO : k38.R 38 W base ok (.slice (some ⟨g, 0, none⟩) n cap) xs) (i : Int) (h0 : 0 ≤ i) (hi : i < n) (a : Int) :
    k38.R 38 (W.setCell ⟨g, i.toNat * 3 + 1, none⟩ (.int .i64 a)) base ok (.slice (some ⟨g, 0, none⟩) n cap) (xs.set i.toNat ⟨(xs.getD i.toNat z38).f0, a, (xs.getD i.toNat z38).f2⟩) ∧ W.grownBy (W.setCell ⟨g, i.toNat * 3 + 1, none⟩ (.int .i64 a)) (some g) := by
  obtain ⟨c, hcl, hM, hc, hf⟩ := Kd.R_elem HO z38 i h0 hi
  obtain rfl := k38_openM hM
  exact Kd.R_seg (seg := [.int .i64 a]) (j := 1) HO i h0 hi hcl hc (Nat.le_of_ble_eq_true rfl) (x' := ⟨(xs.getD i.toNat z38).f0, a, (xs.getD i.toNat z38).f2⟩) (k38_mkM W base _ ⟨(xs.getD i.toNat z38).f0, a, (xs.getD i.toNat z38).f2⟩) (fun _ hk => hk)
/-- An entry is written whole. -/
theorem row_setE {W : World} {base g n cap : Nat} {ok : Nat → Prop} {xs : List S38} (HO : k38.R 38 W base ok (.slice (some ⟨g, 0, none⟩) n cap) xs) (i : Int) (h0 : 0 ≤ i) (hi : i < n) (x : S38) :
    k38.R 38 (W.setCells g (i.toNat * 3) [.int .i64 x.f0, .int .i64 x.f1, .int .i64 x.f2]) base ok (.slice (some ⟨g, 0, none⟩) n cap) (xs.set i.toNat x) ∧ W.grownBy (W.setCells g (i.toNat * 3) [.int .i64 x.f0, .int .i64 x.f1, .int .i64 x.f2]) (some g) := by
  obtain ⟨c, hcl, hM, hc, hf⟩ := Kd.R_elem HO z38 i h0 hi
  obtain rfl := k38_openM hM
  exact Kd.R_seg (seg := [.int .i64 x.f0, .int .i64 x.f1, .int .i64 x.f2]) (j := 0) HO i h0 hi hcl hc (Nat.le_of_ble_eq_true rfl) (x' := x) (k38_mkM W base _ x) (fun _ hk => hk)
/-- A row of entries of one's own abides the turn of whatever is no cells. -/
theorem rown_own {β : Type} {base g n cap : Nat} {ok : Nat → Prop} (f : β → List S38) : Own (fun (s : β) W => k38.R 38 W base ok (.slice (some ⟨g, 0, none⟩) n cap) (f s)) := by
  rintro s X Y row hs hg hrow
  refine Kd.R_grown2 hs rfl hg ?_
  intro k hk e'
  obtain ⟨cells, hc⟩ := Kd.R_typed hs g (by simp [Value.ownBlock])
  obtain rfl : k = g := by simpa [Value.ownBlock] using e'
  obtain ⟨o, ho, hno⟩ := hrow k hk
  rw [hc] at ho
  cases ho
  cases hno
theorem Vacant_calls (v : Value) (w : World) (hv : ∃ A n c, v = .slice A n c) : Calls Try.prog 9 #[v] w fun e w' => ∃ b o, e = .returned (.func (.func 25) #[] #[.pointer (some b)]) ∧ w' = w.alloc o := by
  obtain ⟨A, n, c, rfl⟩ := hv
  refine ((callsIn_wide (n := 3)).1 (table_Vacant_in Fence.wide 3 trivial rfl _ _ _ _)).mono ?_
  rintro e w' ⟨rfl, rfl⟩
  exact ⟨_, _, rfl, rfl⟩
theorem wp_scope_body {P : Program} {fn : Func} {R : Ending → World → Prop} {a : Act} {w : World} {c : Code} (h : c.wp P (bodyPost P fn R) a w) : (Code.scope c).wp P (bodyPost P fn R) a w := by
  refine wp_scope_straight ?_
  refine wp_mono h ?_
  intro e a w h
  cases e <;> exact h
theorem func_not_nil (b : Addr) (w : World) : (binOp .eql 25 (.func (.func 25) #[] #[.pointer (some b)]) .nilFunc).run Try.prog w = .ok (.bool false) w := by
  have h : ∀ d : Nat, (Op.equalIn (d + 1) 25 (.func (.func 25) #[] #[.pointer (some b)]) .nilFunc).run Try.prog w = .ok false w := fun d => by
    simp [Op.equalIn, run_underlying Try.underlying25]
  simp only [binOp]
  simp [Op.equal, Op.maxDepth, h 9999]
theorem func_neq_nil (b : Addr) (w : World) : (binOp .neq 25 (.func (.func 25) #[] #[.pointer (some b)]) .nilFunc).run Try.prog w = .ok (.bool true) w := by
  have h : ∀ d : Nat, (Op.equalIn (d + 1) 25 (.func (.func 25) #[] #[.pointer (some b)]) .nilFunc).run Try.prog w = .ok false w := fun d => by
    simp [Op.equalIn, run_underlying Try.underlying25]
  simp only [binOp]
  simp [Op.equal, Op.maxDepth, h 9999]

set_option maxRecDepth 100000 in
set_option maxHeartbeats 4000000 in
theorem Linked_calls (A0 : Option Addr) (c0 : Nat) (l0 : List S38) (w : World) (hr0 : Kd.C k38 w A0 l0.length l0) (hc0 : l0.length ≤ c0) (hl : l0.length ≤ 500) :
    Calls Try.prog 14 #[.slice A0 l0.length c0] w fun e w' => ∃ v0_ : Value, e = .returned v0_ ∧ Kd.R k38 38 w' w.heap.size (fun _ => True) v0_ (linked l0) ∧ Below w.heap.size w w' := by
  have hu38 := Try.underlying38
  refine (callsIn_wide (n := 3)).1 ?_
  refine callsIn_of_wp_marks Try.func14 rfl trivial ?_ rfl
  simp only [Try.ntmps14, List.size_toArray, List.length_cons, List.length_nil, Nat.reduceAdd, Nat.reduceSub, Array.replicate_succ, Array.replicate_zero, List.push_toArray, List.append_toArray, List.nil_append, List.cons_append]
  refine wpIn_wide.2 ?_
  go_wp2_with fail
  refine (Clone_calls A0 c0 l0 w hr0 hc0 (by omega)).mono ?_
  rintro e w1 ⟨v0, rfl, hR, hB⟩
  by_cases he : l0 = []
  · subst he
    obtain ⟨A, c, hv0⟩ := Kd.R_slice hR
    simp only [List.length_nil] at hv0
    subst hv0
    go_wp2
    exact ⟨_, results_tmp rfl _ _ _, _, rfl, Kd.R_alloc hR _, hB.alloc hB.size _⟩
  · obtain ⟨g, cap, rfl, hbg, hgl, -⟩ := Kd.R_form hR (by cases l0 with | nil => exact absurd rfl he | cons _ _ => simp)
    have hp : 0 < l0.length := by cases l0 with | nil => exact absurd rfl he | cons _ _ => simp
    have bO := Boxed.new w1 22 (.slice (some ⟨g, 0, none⟩) l0.length cap)
    go_wp2
    go_loopw [15] (fun i wr => ∃ k : Nat, k ≤ l0.length ∧ i = .int .i64 k ∧ Boxed wr w1.heap.size 22 (.slice (some ⟨g, 0, none⟩) l0.length cap) ∧ Kd.R k38 38 wr w.heap.size (fun _ => True) (.slice (some ⟨g, 0, none⟩) l0.length cap) (clrN k l0) ∧ Below w.heap.size w wr)
      (fun i _ => l0.length - (intOf i).toNat)
    case atStart => exact ⟨0, Nat.zero_le _, rfl, bO, by rw [clrN_zero]; exact Kd.R_alloc hR _, hB.alloc hB.size _⟩
    case round =>
      obtain ⟨k, hk, rfl, hb, hO, hB2⟩ := hrel
      have hbc := hb.cell
      by_cases hlt : k < l0.length
      · obtain ⟨x0, x1, x2, f0, f1, f2⟩ := row_at hO (k : Int) (by omega) (by omega)
        obtain ⟨hO2, hg2⟩ := row_setA hO (k : Int) (by omega) (by omega) 0
        rw [Int.toNat_natCast] at x0 x1 x2 f0 f1 f2 hO2 hg2
        rw [clrN_get k l0 hlt] at x0 x1 x2 hO2
        have hs := clrN_succ k l0 hlt
        have hs' := clrN_same k l0 hlt
        generalize hx : l0.getD k z38 = x at *
        obtain ⟨y0, y1, y2⟩ := x
        simp only [clr] at hs hs'
        simp only [] at x0 x1 x2 hO2
        by_cases hz : y0 = 0
        · subst hz
          go_wp2
          refine ⟨⟨k + 1, by omega, by simp, hb.kept hg2 (by simp; omega), by rw [hs, if_pos rfl]; exact hO2, hB2.grown hg2 hB2.size (fun j e => by cases e; exact hbg)⟩, by simp [intOf]; omega⟩
        · go_wp2
          refine ⟨⟨k + 1, by omega, by simp, hb, by rw [clrN_same k l0 hlt (by rw [hx]; simp [clr, hz])]; exact hO, hB2⟩, by simp [intOf]; omega⟩
      · obtain rfl : k = l0.length := by omega
        go_wp2
        refine wp_mono (Q := Exit.then _ (fun _ _ _ => False)) ?_ (fun e a w h => by cases e <;> first | exact h | exact h.elim)
        refine start_ (n := 6) (S := (fun w' : World => Boxed w' w1.heap.size 22 (.slice (some ⟨g, 0, none⟩) l0.length cap) ∧ Kd.R k38 38 w' w.heap.size (fun _ => True) (.slice (some ⟨g, 0, none⟩) l0.length cap) (clrN l0.length l0) ∧ Below w.heap.size w w')) (ds := [5]) #[false, false, false, false, false, false] (by kernel_rfl) rfl rfl ⟨hb, Kd.R_drew hO, hB2.drew⟩ (fun hHeld => ?_)
        clear hbc hb hO hB2
        generalize wr.drew = w2 at hHeld ⊢
        refine take_ (i := 0) (N := some 29) (v := ?_) (a' := ?_) #[true, false, false, false, false, false] rfl rfl (by kernel_rfl) (fun _ _ _ h => h) (Or.inl ⟨by rfl, ?_⟩) hHeld ?_ ?_
        rotate_left
        · intro w' hS
          have hbc := hS.1.cell
          first | (go_simp; done) | (go_simp; with_reducible rfl)
        rotate_left
        · simp only [Act.put, List.setIfInBounds_toArray, List.set_cons_zero, List.set_cons_succ, i64_w, i32_w]
          rfl
        refine one_ (i := 1) (N := some 30) #[true, true, false, false, false, false] rfl rfl (by kernel_rfl) (by decide) (fun K hK => ?_)
        refine goes_ Try.func16 (by kernel_rfl) rfl #[] (by rfl) rfl rfl (by simp) ?_
        refine (table_New.calls _ w2 rfl).mono ?_
        rintro e w3 ⟨v3, rfl, hR3, hB3⟩
        obtain ⟨g3, cap3, rfl, hbg3, hgl3, -⟩ := Kd.R_form hR3 (by simp)
        obtain ⟨y0, y1, y2, -, -, -⟩ := row_at hR3 0 (by decide) (by decide)
        simp only [List.length_cons, List.length_nil, Nat.zero_add, Int.toNat_zero, Nat.zero_mul, List.getD_cons_zero] at y0 y1 y2 ⊢
        have hb3 : Boxed w3 w1.heap.size 22 (.slice (some ⟨g, 0, none⟩) l0.length cap) := (hB3.block _ hHeld.1.lt).trans hHeld.1
        have hO3 := Kd.R_below hHeld.2.1 hB3
        have hB4 := hHeld.2.2.trans (hB3.mono hHeld.2.2.size)
        refine ⟨_, rfl, ?_⟩
        refine hK.out _ _ ⟨hb3, hO3, hB4⟩ (fun hHeld => ?_)
        clear hK K
        refine norm_ (a' := ?_) ?_ ?_
        rotate_left
        · show Act.put _ (some 30) _ = _
          simp only [Act.put, List.setIfInBounds_toArray, List.set_cons_zero, List.set_cons_succ, i64_w, i32_w]
          rfl
        refine pure_ (i := 2) (N := some 31) (v := ?_) (a' := ?_) #[true, true, true, false, false, false] rfl rfl (by kernel_rfl) (fun _ _ _ h => h) (Or.inl ⟨by rfl, ?_⟩) ?_ ?_
        rotate_left
        · intro w'
          go_simp
          with_reducible rfl
        rotate_left
        · simp only [Act.put, List.setIfInBounds_toArray, List.set_cons_zero, List.set_cons_succ, i64_w, i32_w]
          rfl
        refine one_ (i := 3) (N := some 32) #[true, true, true, true, false, false] rfl rfl (by kernel_rfl) (by decide) (fun K hK => ?_)
        refine value_ (v := .agg #[.int .i64 0, .int .i64 0, .int .i64 65535]) (w1 := w3) (by rfl) rfl (by go_simp <;> rfl) ?_
        refine hK.out _ _ ⟨hb3, hO3, hB4⟩ (fun hHeld => ?_)
        clear hK K
        refine norm_ (a' := ?_) ?_ ?_
        rotate_left
        · show Act.put _ (some 32) _ = _
          simp only [Act.put, List.setIfInBounds_toArray, List.set_cons_zero, List.set_cons_succ, i64_w, i32_w]
          rfl
        refine pure_ (i := 4) (N := some 33) (v := ?_) (a' := ?_) #[true, true, true, true, true, false] rfl rfl (by kernel_rfl) (fun _ _ _ h => h) (Or.inl ⟨by rfl, ?_⟩) ?_ ?_
        rotate_left
        · intro w'
          go_simp
          with_reducible rfl
        rotate_left
        · simp only [Act.put, List.setIfInBounds_toArray, List.set_cons_zero, List.set_cons_succ, i64_w, i32_w]
          rfl
        obtain ⟨x0, x1, x2, f0, f1, f2⟩ := row_at hO3 0 (by decide) (by omega)
        obtain ⟨hO5, hg5⟩ := row_setE hO3 0 (by decide) (by omega) ⟨0, 0, 65535⟩
        simp only [Int.toNat_zero, Nat.zero_mul, Nat.zero_add] at x0 x1 x2 f0 f1 f2 hO5 hg5
        refine last_ (i := 5) (N := none) #[true, true, true, true, true, true] rfl rfl (by kernel_rfl) (by decide) (fun K hK => ?_)
        refine skip_ (w1 := ?_) (by rfl) rfl ?_ ?_
        rotate_left
        · go_simp
          rfl
        refine hK.out _ _ ?_
        clear hK K
        refine done_ (by kernel_rfl) ?_
        have e5 : ((w3.setCell ⟨g, 0, none⟩ (.int .i64 0)).setCell ⟨g, 1, none⟩ (.int .i64 0)).setCell ⟨g, 2, none⟩ (.int .i64 65535) = w3.setCells g 0 [.int .i64 0, .int .i64 0, .int .i64 65535] := rfl
        rw [e5]
        have hb5 := hb3.kept hg5 (by simp; omega)
        have hB5 := hB4.grown hg5 hB4.size (fun j e => by cases e; exact hbg)
        clear e5 hHeld x0 x1 x2 f0 f1 f2 hg5 hO3 hb3 hB4 hB3 y0 y1 y2 hR3
        rw [clrN_all] at hO5
        generalize w3.setCells g 0 [.int .i64 0, .int .i64 0, .int .i64 65535] = w5 at *
        clear hR hB bO
        have hsz5 := hb5.lt
        go_wp2_with fail
        refine ((callsIn_wide (n := 3)).1 (table_Vacant_in Fence.wide 3 trivial rfl _ _ _ _)).mono ?_
        rintro e w6 ⟨rfl, rfl⟩
        have bL := Boxed.new w5 3 (.int .i64 0)
        have bN := Boxed.new (w5.alloc (.cells #[.int .i64 0] 3)) 22 (.slice A0 l0.length c0)
        rw [World.size_alloc] at bN
        have bL6 := bL.alloc (.cells #[.slice A0 l0.length c0] 22)
        have hb6 := (hb5.alloc (.cells #[.int .i64 0] 3)).alloc (.cells #[.slice A0 l0.length c0] 22)
        have hO6 := Kd.R_alloc (Kd.R_alloc hO5 (.cells #[.int .i64 0] 3)) (.cells #[.slice A0 l0.length c0] 22)
        have hB6 := (hB5.alloc hB5.size (.cells #[.int .i64 0] 3)).alloc (by have := hB5.size; simp; omega) (.cells #[.slice A0 l0.length c0] 22)
        have hsz6 : ((w5.alloc (.cells #[.int .i64 0] 3)).alloc (.cells #[.slice A0 l0.length c0] 22)).heap.size = w5.heap.size + 2 := by simp
        go_wp2
        generalize (w5.alloc (.cells #[.int .i64 0] 3)).alloc (.cells #[.slice A0 l0.length c0] 22) = W0 at *
        refine (wpIn_wide (n := 3)).1 ?_
        refine wpIn_rangeFunc_ownG rfl (by decide) (gf := 25) (lb := #[.pointer (some ⟨w5.heap.size + 1, 0, none⟩)]) rfl trivial (enters_of Try.func25 (by kernel_rfl) rfl)
          (vacant_stopsN Fence.wide 2 trivial rfl (by decide) (w5.heap.size + 1) w.heap.size A0 c0 l0 (by omega) _ (by omega) hB6.size bN.cell (Kd.C_below hr0 hB6) (row_lt hr0)) belowK_t (belowK_b hB6.size) (Below.refl _ _) (fun _ => rfl)
          (fun q W => Boxed W w1.heap.size 22 (.slice (some ⟨g, 0, none⟩) l0.length cap) ∧ Boxed W w5.heap.size 3 (.int .i64 (lfold l0 (ints q)).2) ∧ Kd.R k38 38 W w.heap.size (fun _ => True) (.slice (some ⟨g, 0, none⟩) l0.length cap) (lfold l0 (ints q)).1 ∧ Below w.heap.size w W)
          (fun _ _ _ => False)
          ((boxed_own w1.heap.size 22 (fun _ => .slice (some ⟨g, 0, none⟩) l0.length cap)).from _ |>.and (((boxed_own w5.heap.size 3 (fun q => .int .i64 (lfold l0 (ints q)).2)).from _).and ((rown_own (fun q => (lfold l0 (ints q)).1)).from _ |>.and (ownFrom_below (Nat.le_refl _) hB6.size))))
          (fun _ _ _ _ _ hs _ _ => hs)
          ⟨hb6, bL6, hO6, hB6⟩
          ?a1 ?assign ?body ?done ?stop
        case assign =>
          intro l x W K hK
          gi_wp2
          exact hK
        case body =>
          rintro l q x W ⟨hb, hL, hO, hB⟩ hlt
          have hok := lfold_ok l0 he q
          have hnext := (congrArg (lfold l0) (ints_snoc q x)).trans (lfold_snoc l0 (ints q) x.1)
          generalize lfold l0 (ints q) = s at *
          obtain ⟨ys, y⟩ := s
          simp only [] at hL hO hok
          obtain ⟨hy0, hy1, hyl⟩ := hok
          obtain ⟨x0, x1, x2, f0, f1, f2⟩ := row_at hO y hy0 hy1
          obtain ⟨hO2, hg2⟩ := row_setA hO y hy0 hy1 x.1
          have hbc := hb.cell
          have hLc := hL.cell
          have hL2 := hL.kept hg2 (by simp; omega)
          have hb2 := hb.kept hg2 (by simp; omega)
          have hL2c := hL2.cell
          have hL2f := hL2.frozen
          have hL3 := hL2.set (.int .i64 x.1)
          have hb3 := hb2.other (B' := w5.heap.size) (by omega) (.int .i64 x.1)
          have hO3 : Kd.R k38 38 ((W.setCell ⟨g, y.toNat * 3 + 1, none⟩ (.int .i64 x.1)).setCell ⟨w5.heap.size, 0, none⟩ (.int .i64 x.1)) w.heap.size (fun _ => True) (.slice (some ⟨g, 0, none⟩) l0.length cap) _ := Kd.R_grown2 hO2 rfl (grownBy_setCell' _ _ _) (by intro k e e2; cases e; simp [Value.ownBlock] at e2; omega)
          have hBW : Below w.heap.size W ((W.setCell ⟨g, y.toNat * 3 + 1, none⟩ (.int .i64 x.1)).setCell ⟨w5.heap.size, 0, none⟩ (.int .i64 x.1)) := ((Below.refl _ W).grown hg2 hB.size (fun j e => by cases e; exact hbg)).setCell (p := ⟨w5.heap.size, 0, none⟩) hB5.size _
          gi_wp2
          refine ⟨((KeepsOthers.setCell _ _ _).trans (KeepsOthers.setCell _ _ _)).from _, hBW, hb3, ?_, ?_, hB.trans hBW⟩
          · rw [hnext]; exact hL3
          · rw [hnext]; exact hO3
        case done =>
          rintro D ys W hD hS ⟨hb, hL, hO, hB⟩ hK
          have hc := hb.cell
          have hR9 := (rown_own (fun (q : List (Num l0.length)) => (lfold l0 (ints q)).1)).putObj (s := ys) (.deferred none) hO hK rfl
          have hB9 := hB.trans (belowK_b (w := w) (Nat.le_refl _) W D _ (.deferred none) (by have := hB6.size; omega) hK rfl rfl)
          have hlk : linked l0 = (lfold l0 (ints ys)).1 := by rw [hS]; simp [linked, he]
          go_wp2
          refine ⟨by simp, .inl ⟨_, _, rfl, run_takeDeferred hK, ?_⟩⟩
          exact ⟨_, results_tmp rfl _ _ _, _, rfl, by rw [hlk]; exact hR9, hB9⟩
        case stop =>
          rintro D c pre W _ _ h _
          exact h.elim

end Go.Proofs.Ytnneppnjofneoaa.V
