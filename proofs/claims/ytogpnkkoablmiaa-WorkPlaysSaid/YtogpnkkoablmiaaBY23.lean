/- Parts of the proof: what the theorem reaches, put together by a program of this session. -/
import Derived.Test.YtogpnkkoablmiaaBY21
import Derived.Test.YtogpnkkoablmiaaBY22
section
namespace Go.Proofs.Ytogpnkkoablmiaa.V
open Go.Shelf Go.RowKit Go.Lib Go.Sort Go.Proofs.Ytogpnkkoablmiaa.Q Go.Proofs.YtogpnkkoablmiaaW.PrintWords Go.Proofs.YtogpnkkoablmiaaW.PrintLast Go.Proofs.YtogpnkkoablmiaaW.PrintMore
set_option linter.unusedVariables false
set_option linter.unusedSimpArgs false
def exD : List S89 := [⟨⟨#[66]⟩, ⟨2, 1, 0, ⟨#[]⟩, [], []⟩⟩, ⟨⟨#[65]⟩, ⟨0, 0, 0, ⟨#[]⟩, [], []⟩⟩, ⟨⟨#[66]⟩, ⟨2, 2, 0, ⟨#[]⟩, [], []⟩⟩]
def exW : List S89 := [⟨⟨#[66]⟩, ⟨2, 1, 0, ⟨#[]⟩, [], []⟩⟩, ⟨⟨#[67]⟩, ⟨7, 3, 1, ⟨#[]⟩, [], []⟩⟩]
theorem C35_nil (w : World) (A : Option Addr) : k35.C w A ([] : List S35).length [] := ⟨rfl, by simp, fun h => absurd h (by simp)⟩
theorem C89_nil (w : World) (A : Option Addr) : k89.C w A ([] : List S89).length [] := ⟨rfl, by simp, fun h => absurd h (by simp)⟩
theorem vcheck_calls (v : S35) (A4 : Option Addr) (c4 : Nat) (A5 : Option Addr) (c5 : Nat) (stream : Bool) (w : World) (la4 : v.f4.length ≤ c4) (ra4 : k35.C w A4 v.f4.length v.f4) (la5 : v.f5.length ≤ c5) (ra5 : k89.C w A5 v.f5.length v.f5) :
 Calls Try.prog 52 #[.agg #[.int .i64 v.f0, .int .i64 v.f1, .int .i64 v.f2, .string v.f3, .slice A4 v.f4.length c4, .slice A5 v.f5.length c5], .bool stream] w fun e w' => e = .returned (.int .i64 (chkV v stream 0)) ∧ RowKit.Below w.heap.size w w' := by
 have hu35 := Try.underlying35
 have H := Aside0.mk (check_all v A4 c4 A5 c5 stream 0 (w.alloc (.cells #[.int .i64 v.f0, .int .i64 v.f1, .int .i64 v.f2, .string v.f3, .slice A4 v.f4.length c4, .slice A5 v.f5.length c5] 35)) (by omega) (by omega) la4 (Kd.C_alloc ra4 _) la5 (Kd.C_alloc ra5 _))
 have HB := Aside0.mk (below_alloc (RowKit.Below.refl w.heap.size w) (.cells #[.int .i64 v.f0, .int .i64 v.f1, .int .i64 v.f2, .string v.f3, .slice A4 v.f4.length c4, .slice A5 v.f5.length c5] 35))
 clear ra4 ra5
 go_enter Try.func52, Try.ntmps52
 go_wp2_with fail
 refine Calls.mono H.out ?_
 rintro e w1 ⟨rfl, hb⟩
 have HB2 := Aside0.mk (below_step HB.out hb)
 clear hb HB H
 go_wp2
 go_ret
 exact ⟨rfl, HB2.out⟩
theorem rcheck_calls (v : S35) (A4 : Option Addr) (c4 : Nat) (A5 : Option Addr) (c5 : Nat) (stream : Bool) (w : World) (hs : szV v) (la4 : v.f4.length ≤ c4) (ra4 : k35.C w A4 v.f4.length v.f4) (la5 : v.f5.length ≤ c5) (ra5 : k89.C w A5 v.f5.length v.f5) :
 Calls Try.prog 53 #[.agg #[.int .i64 v.f0, .int .i64 v.f1, .int .i64 v.f2, .string v.f3, .slice A4 v.f4.length c4, .slice A5 v.f5.length c5], .bool stream] w fun e w' => e = .returned (.int .i64 (chkV v stream 0)) ∧ RowKit.Below w.heap.size w w' := by
 have hu35 := Try.underlying35
 have H := Aside0.mk (rcheck_all v A4 c4 A5 c5 stream 0 (w.alloc (.cells #[.int .i64 v.f0, .int .i64 v.f1, .int .i64 v.f2, .string v.f3, .slice A4 v.f4.length c4, .slice A5 v.f5.length c5] 35)) hs (by omega) (by omega) la4 (Kd.C_alloc ra4 _) la5 (Kd.C_alloc ra5 _))
 have HB := Aside0.mk (below_alloc (RowKit.Below.refl w.heap.size w) (.cells #[.int .i64 v.f0, .int .i64 v.f1, .int .i64 v.f2, .string v.f3, .slice A4 v.f4.length c4, .slice A5 v.f5.length c5] 35))
 clear ra4 ra5
 go_enter Try.func53, Try.ntmps53
 go_wp2_with fail
 refine Calls.mono H.out ?_
 rintro e w1 ⟨rfl, hb⟩
 have HB2 := Aside0.mk (below_step HB.out hb)
 clear hb HB H
 go_wp2
 go_ret
 exact ⟨rfl, HB2.out⟩
def VF (w : World) (gD : Addr) (a5 : Option Addr) (W : World) : Prop := k89.C W (some gD) 3 exD ∧ k89.C W a5 2 exW ∧ RowKit.Below w.heap.size w W
theorem VF.below {w : World} {gD : Addr} {a5 : Option Addr} {W W' : World} (h : VF w gD a5 W) (hb : RowKit.Below W.heap.size W W') : VF w gD a5 W' :=
 ⟨Kd.C_below h.1 hb, Kd.C_below h.2.1 hb, h.2.2.trans (hb.mono h.2.2.size)⟩
theorem VF.alloc {w : World} {gD : Addr} {a5 : Option Addr} {W : World} (h : VF w gD a5 W) (o : Obj) : VF w gD a5 (W.alloc o) := h.below (below_alloc (RowKit.Below.refl _ W) o)
theorem VF.drew {w : World} {gD : Addr} {a5 : Option Addr} {W : World} (h : VF w gD a5 W) : VF w gD a5 W.drew := h.below (RowKit.Below.refl _ W).drew
theorem VF.drewN {w : World} {gD : Addr} {a5 : Option Addr} {W : World} (h : VF w gD a5 W) (n : Nat) : VF w gD a5 (W.drewN n) := h.below (pw_below_drewN (RowKit.Below.refl _ W) n)
theorem VF.c1 {w : World} {gD : Addr} {a5 : Option Addr} {W : World} (h : VF w gD a5 W) : k89.C W (some gD) 3 exD := h.1
theorem VF.c2 {w : World} {gD : Addr} {a5 : Option Addr} {W : World} (h : VF w gD a5 W) : k89.C W a5 2 exW := h.2.1
end Go.Proofs.Ytogpnkkoablmiaa.V
end
section
namespace Go.Proofs.Ytogpnkkoablmiaa.V
open Go.Proofs.Ytogpnkkoablmiaa.P Go.RowKit Go.Shelf Go.Lib Go.Proofs.Ytogpnkkoablmiaa.Q Go.Proofs.YtogpnkkoablmiaaW.PrintWords Go.Proofs.YtogpnkkoablmiaaW.PrintLast Go.Proofs.YtogpnkkoablmiaaW.PrintMore
set_option linter.unusedVariables false
set_option linter.unusedSimpArgs false
attribute [local go_sem] Oper.semAt_some
end Go.Proofs.Ytogpnkkoablmiaa.V
end
section
namespace Go.Proofs.Ytogpnkkoablmiaa.V
open Go.Proofs.Ytogpnkkoablmiaa.P Go.Shelf Go.RowKit Go.Lib Go.Sort Go.Proofs.Ytogpnkkoablmiaa.Q Go.Proofs.YtogpnkkoablmiaaW.PrintWords Go.Proofs.YtogpnkkoablmiaaW.PrintLast Go.Proofs.YtogpnkkoablmiaaW.PrintMore
set_option linter.unusedVariables false
set_option linter.unusedSimpArgs false
def HasV (v : S35) (A4 : Option Addr) (c4 : Nat) (A5 : Option Addr) (c5 : Nat) (W : World) : Prop := v.f4.length ≤ c4 ∧ k35.C W A4 v.f4.length v.f4 ∧ v.f5.length ≤ c5 ∧ k89.C W A5 v.f5.length v.f5
theorem HasV.below {v : S35} {A4 : Option Addr} {c4 : Nat} {A5 : Option Addr} {c5 : Nat} {W W' : World} (h : HasV v A4 c4 A5 c5 W) (hb : RowKit.Below W.heap.size W W') : HasV v A4 c4 A5 c5 W' :=
 ⟨h.1, Kd.C_below h.2.1 hb, h.2.2.1, Kd.C_below h.2.2.2 hb⟩
def Stays (Q : World → Prop) : Prop := ∀ W W', Q W → RowKit.Below W.heap.size W W' → Q W'
theorem Stays.and {Q R : World → Prop} (h : Stays Q) (g : Stays R) : Stays (fun W => Q W ∧ R W) := fun W W' a b => ⟨h W W' a.1 b, g W W' a.2 b⟩
theorem Stays.alloc {Q : World → Prop} (h : Stays Q) {W : World} {o : Obj} (q : Q W) : Q (W.alloc o) := h _ _ q (below_alloc (RowKit.Below.refl _ W) o)
theorem Stays.drew {Q : World → Prop} (h : Stays Q) {W : World} (q : Q W) : Q W.drew := h _ _ q (RowKit.Below.refl _ W).drew
theorem Stays.drewN {Q : World → Prop} (h : Stays Q) {W : World} {n : Nat} (q : Q W) : Q (W.drewN n) := h _ _ q (pw_below_drewN (RowKit.Below.refl _ W) n)
theorem K_equal (v : S35) (A4 : Option Addr) (c4 : Nat) (A5 : Option Addr) (c5 : Nat) (x : S35) (B4 : Option Addr) (d4 : Nat) (B5 : Option Addr) (d5 : Nat) (W : World) (h : HasV v A4 c4 A5 c5 W) (h2 : HasV x B4 d4 B5 d5 W) : Calls Try.prog 58 #[.agg #[.int .i64 v.f0, .int .i64 v.f1, .int .i64 v.f2, .string v.f3, .slice A4 v.f4.length c4, .slice A5 v.f5.length c5], .agg #[.int .i64 x.f0, .int .i64 x.f1, .int .i64 x.f2, .string x.f3, .slice B4 x.f4.length d4, .slice B5 x.f5.length d5]] W fun e w' => e = .returned (.bool (eqB v x)) ∧ RowKit.Below W.heap.size W w' :=
 equal_all v x A4 c4 A5 c5 B4 d4 B5 d5 W h.1 h.2.1 h.2.2.1 h.2.2.2 h2.1 h2.2.1 h2.2.2.1 h2.2.2.2
theorem K_check (v : S35) (A4 : Option Addr) (c4 : Nat) (A5 : Option Addr) (c5 : Nat) (s : Bool) (W : World) (h : HasV v A4 c4 A5 c5 W) : Calls Try.prog 52 #[.agg #[.int .i64 v.f0, .int .i64 v.f1, .int .i64 v.f2, .string v.f3, .slice A4 v.f4.length c4, .slice A5 v.f5.length c5], .bool s] W fun e w' => e = .returned (.int .i64 (chkV v s 0)) ∧ RowKit.Below W.heap.size W w' :=
 vcheck_calls v A4 c4 A5 c5 s W h.1 h.2.1 h.2.2.1 h.2.2.2
theorem K_same (v : S35) (A4 : Option Addr) (c4 : Nat) (A5 : Option Addr) (c5 : Nat) (x : S35) (B4 : Option Addr) (d4 : Nat) (B5 : Option Addr) (d5 : Nat) (W : World) (hf : fewV v) (hg : fewV x) (h : HasV v A4 c4 A5 c5 W) (h2 : HasV x B4 d4 B5 d5 W) : Calls Try.prog 61 #[.agg #[.int .i64 v.f0, .int .i64 v.f1, .int .i64 v.f2, .string v.f3, .slice A4 v.f4.length c4, .slice A5 v.f5.length c5], .agg #[.int .i64 x.f0, .int .i64 x.f1, .int .i64 x.f2, .string x.f3, .slice B4 x.f4.length d4, .slice B5 x.f5.length d5]] W fun e w' => e = .returned (.bool (eqB (plain v) (plain x))) ∧ RowKit.Below W.heap.size W w' :=
 same_calls v x A4 c4 A5 c5 B4 d4 B5 d5 W hf hg h.1 h.2.1 h.2.2.1 h.2.2.2 h2.1 h2.2.1 h2.2.2.1 h2.2.2.2
def nzv (c : Int) : Int := if c = 0 then 1 else c
theorem nzv_of {c : Int} (h : ¬ c = 0) : nzv c = c := if_neg h
theorem nzv_ne (c : Int) : (nzv c = 0) = False := eq_false (by unfold nzv; split <;> omega)
theorem nzv_beq (c : Int) : (nzv c == 0) = false := by have h := nzv_ne c; simp at h; simpa using h
theorem nzv_bne (c : Int) : (nzv c != 0) = true := by rw [bne, nzv_beq]; rfl
attribute [local go_sem] nzv_ne nzv_beq nzv_bne
end Go.Proofs.Ytogpnkkoablmiaa.V
end
section
namespace Go.Proofs.Ytogpnkkoablmiaa.V
open Go.Proofs.Ytogpnkkoablmiaa.P Go.RowKit Go.Shelf Go.Lib Go.Proofs.Ytogpnkkoablmiaa.Q Go.Proofs.YtogpnkkoablmiaaW.PrintWords Go.Proofs.YtogpnkkoablmiaaW.PrintLast Go.Proofs.YtogpnkkoablmiaaW.PrintMore
set_option linter.unusedVariables false
set_option linter.unusedSimpArgs false
attribute [local go_sem] Oper.semAt_some
theorem own_lower9 {W : World} {b b' e size n : Nat} {v : Value} {xs : List Value} (h : W.ownsRow b e size v n xs) (hb : b' ≤ b) : W.ownsRow b' e size v n xs := by
 obtain ⟨h1, h2⟩ := h
 refine ⟨h1, ?_⟩
 rcases h2 with h2 | ⟨g, cap, cur, hv, hg, h3⟩
 · exact .inl h2
 · exact .inr ⟨g, cap, cur, hv, Nat.le_trans hb hg, h3⟩
theorem LI.start (w1 : World) (row : Array Value) : LI w1 row ((w1.alloc (.cells row 35)).alloc (.cells #[] 28)) (.slice (some ⟨w1.heap.size + 1, 0, none⟩) 0 0) [] := by
 refine ⟨below_alloc (below_alloc (RowKit.Below.refl _ _) _) _, blk_alloc (blk_new w1 _) _, w1.heap.size + 1, 0, rfl, ?_⟩
 have ow := World.ownsRow_lit (base := w1.heap.size + 1) (e := 28) (size := 2) (w1.alloc (.cells row 35)) #[] 0 (by simp) (by simp [maxLen]) (by simp)
 simpa [flat] using ow
end Go.Proofs.Ytogpnkkoablmiaa.V
end
section
namespace Go.Proofs.Ytogpnkkoablmiaa.V
open Go.Proofs.Ytogpnkkoablmiaa.P Go.Shelf Go.RowKit Go.Lib Go.Sort Go.Proofs.Ytogpnkkoablmiaa.Q Go.Proofs.YtogpnkkoablmiaaW.PrintWords Go.Proofs.YtogpnkkoablmiaaW.PrintLast Go.Proofs.YtogpnkkoablmiaaW.PrintMore
set_option linter.unusedVariables false
set_option linter.unusedSimpArgs false
def HasR (l : List (Int × Int)) (A : Option Addr) (c : Nat) (W : World) : Prop := l.length ≤ c ∧ k28.C W A l.length (refs l)
theorem refs_len (l : List (Int × Int)) : (refs l).length = l.length := by simp [refs]
theorem refs_at (l : List (Int × Int)) (k : Nat) (h : k < l.length) : (refs l).getD k z28 = ⟨(l.getD k (0, 0)).1, (l.getD k (0, 0)).2⟩ := by
 rw [List.getD_eq_getElem?_getD, List.getD_eq_getElem?_getD, List.getElem?_eq_getElem (by rw [refs_len]; exact h), List.getElem?_eq_getElem h]
 simp [refs]
theorem HasR.at {l : List (Int × Int)} {A : Option Addr} {c : Nat} {W : World} (h : HasR l A c W) (k : Nat) (hk : k < l.length) : ∃ ad, A = some ad ∧ W.cell? (ad.add (k * 2)) = some (.int .i64 (l.getD k (0, 0)).1) ∧ W.cell? ⟨(ad.add (k * 2)).block, (ad.add (k * 2)).off + 1, none⟩ = some (.int .i64 (l.getD k (0, 0)).2) := by
 obtain ⟨ad, e, h0, h1⟩ := at_T28 h.2 (k : Int) (by omega) (by omega)
 simp only [rd_T28, Int.toNat_natCast] at h0 h1
 rw [refs_at l k hk] at h0 h1
 exact ⟨ad, e, h0, h1⟩
theorem box2 {w : World} {b T : Nat} {c0 c1 : Value} (h : w.heap[b]? = some (.cells #[c0, c1] T (0, 0))) : w.cell? ⟨b, 0, none⟩ = some c0 ∧ w.cell? ⟨b, 1, none⟩ = some c1 := by
 refine ⟨?_, ?_⟩ <;> (rw [cell_of_row w b _ _ _ _ h]; rfl)
section
variable {P : Program} {ops : Array Oper} {Q : Exit → Act → World → Prop} {md : Region.Mode} {S : World → Prop} {ds : List Nat}
theorem pu_ (i N : Nat) {oi : Oper} {v : Value} {fuel : Nat} {l l' : Array Bool} {a a' : Act} {w : World} (h : wpAnyLast P md ops Q S ds fuel l' a' w)
 (hl : l.setIfInBounds i true = l' := by simp only [List.setIfInBounds_toArray, List.set_cons_zero, List.set_cons_succ]; rfl) (hi : ops[i]? = some oi := by rfl) (hN : oi.dst = some N := by rfl) (hc : anyB md ops l l' i = true := by kernel_rfl)
 (hQ : ∀ c a w, Q (.panic c) (a.put oi.dst v) w → Q (.panic c) a w := by exact fun _ _ _ h => h)
 (hy : Yields P ops oi v a := by first | exact Or.inl ⟨by rfl, by intro w'; go_simp; with_reducible rfl⟩ | exact Or.inr ⟨by rfl, rfl⟩)
 (ha : a.put (some N) v = a' := by simp only [Act.put, List.setIfInBounds_toArray, List.set_cons_zero, List.set_cons_succ]; rfl) : wpAnyLast P md ops Q S ds (fuel + 1) l a w := pure_ l' hi hN hc hQ hy ha h
theorem ta_ (i N : Nat) {oi : Oper} {v : Value} {fuel : Nat} {l l' : Array Bool} {a a' : Act} {w : World} (hS : S w) (h : wpAnyLast P md ops Q S ds fuel l' a' w)
 (hl : l.setIfInBounds i true = l' := by simp only [List.setIfInBounds_toArray, List.set_cons_zero, List.set_cons_succ]; rfl) (hi : ops[i]? = some oi := by rfl) (hN : oi.dst = some N := by rfl) (hc : takeB md ops ds l l' i = true := by kernel_rfl)
 (hQ : ∀ c a w, Q (.panic c) (a.put oi.dst v) w → Q (.panic c) a w := by exact fun _ _ _ h => h)
 (hy : YieldsIf P ops S oi v a := by exact Or.inl ⟨by rfl, by intro w' hSw; (try dsimp only at hSw); go_split_ands; go_simp; with_reducible rfl⟩)
 (ha : a.put (some N) v = a' := by simp only [Act.put, List.setIfInBounds_toArray, List.set_cons_zero, List.set_cons_succ]; rfl) : wpAnyLast P md ops Q S ds (fuel + 1) l a w := take_ l' hi hN hc hQ hy hS ha h
end
section
variable {P : Program} {ops : Array Oper} {Q : Exit → Act → World → Prop} {md : Region.Mode} {F : Fence} {n : Nat}
theorem ti_ (i : Nat) {oi : Oper} {v : Value} {fuel : Nat} {l : Array Bool} {a : Act} {w : World} (h : wpAnyIn F n P md ops Q fuel (l.setIfInBounds i true) (a.put oi.dst v) w)
 (hro : F.round = none := by rfl) (hi : ops[i]? = some oi := by rfl) (hs : Region.noSelect ops = true := by kernel_rfl) (hf : Region.free md ops l i = true := by kernel_rfl) (hr : (Region.ready md ops l).contains i = true := by kernel_rfl)
 (hQ : ∀ c a w, Q (.panic c) (a.put oi.dst v) w → Q (.panic c) a w := by exact fun _ _ _ h => h)
 (hy : YieldsFenced P ops oi v a := by exact ⟨Or.inl ⟨by rfl, by intro w'; go_simp; with_reducible rfl⟩, fun _ => rfl⟩) : wpAnyIn F n P md ops Q (fuel + 1) l a w :=
 wpAnyIn_take hro hi hs hf hr hQ hy h
end
section
variable {P : Program} {ops : Array Oper} {Q : Exit → Act → World → Prop} {md : Region.Mode} {S : World → Prop} {ds : List Nat}
theorem nm_ (N : Option Tmp) {fuel : Nat} {l : Array Bool} {a a' : Act} {v : Value} {w : World} (h : wpAnyLast P md ops Q S ds fuel l a' w) (ha : a.put N v = a' := by simp only [Act.put, List.setIfInBounds_toArray, List.set_cons_zero, List.set_cons_succ]; rfl) : wpAnyLast P md ops Q S ds fuel l (a.put N v) w := ha ▸ h
theorem on_ (i : Nat) (N : Option Tmp) {oi : Oper} {fuel : Nat} {l l' : Array Bool} {a : Act} {w : World}
 (h : ∀ K : Act → World → Prop, Shut (∀ a' w', S w' → (S w' → wpAnyLast P md ops Q S ds fuel l' a' w') → K a' w') → if Region.wanted oi (yielded ops a.tmps) = true then Oper.wp P oi a w K Q else K (a.put N undef) w)
 (hl : l.setIfInBounds i true = l' := by simp only [List.setIfInBounds_toArray, List.set_cons_zero, List.set_cons_succ]; rfl) (hi : ops[i]? = some oi := by rfl) (hN : oi.dst = N := by rfl) (hc : readyB md ops l l' i = true := by kernel_rfl) (hd : i ∉ ds := by decide) : wpAnyLast P md ops Q S ds (fuel + 1) l a w := one_ l' hi hN hc hd h
theorem cl_ {oi : Oper} {N : Option Tmp} {a : Act} {w : World} {K : Act → World → Prop} {f : FuncId} {fn : Func} {as_ : Array Operand} {ts : Array TypeId} (hf : P.funcs[f]? = some fn) (args : Array Value) (h : Calls P f args w fun e w' => ∃ v, e = .returned v ∧ K (a.put N v) w')
 (hname : (fn.name == "runtime.NumGoroutine") = false := by kernel_rfl) (hb : fn.body.isSome = true := by rfl) (hw : Region.wanted oi (yielded ops a.tmps) = true := by rfl) (hN : oi.dst = N := by rfl) (hop : oi.op = .call { callee := .value (.func f), args := as_, argTypes := ts } := by rfl)
 (hargs : as_.map a.eval = args := by first | rfl | (simp only [List.map_toArray, List.map_cons, List.map_nil]; rfl)) : if Region.wanted oi (yielded ops a.tmps) = true then Oper.wp P oi a w K Q else K (a.put N undef) w := goes_ hf hname hb args hw hN hop hargs h
end
theorem A_ {p : Prop} (h : p) : Aside0 p := ⟨h⟩
theorem ret_named {Q : Exit → Act → World → Prop} {x : Exit} {a : Act} {W : World} (W' : World) (e : W = W') (h : ∀ Wf, Wf = W' → Q x a Wf) : Q x a W := h W e
structure RS where
 x : S69
 a4 : Option Addr
 c4 : Nat
 a5 : Option Addr
 c5 : Nat
instance : Inhabited RS := ⟨⟨z69, none, 0, none, 0⟩⟩
def encS (y : RS) : List Value := [.int .i64 y.x.f0, .bool y.x.f1, .int .i64 y.x.f2.f0, .int .i64 y.x.f2.f1, .int .i64 y.x.f2.f2, .string y.x.f2.f3, .slice y.a4 y.x.f2.f4.length y.c4, .slice y.a5 y.x.f2.f5.length y.c5]
def flat8 (ls : List (List Value)) : List Value := ls.flatten
theorem flat8_len : ∀ {ls : List (List Value)}, (∀ l ∈ ls, l.length = 8) → (flat8 ls).length = ls.length * 8
 | [], _ => rfl
 | l :: r, h => by
   have h1 := h l (by simp)
   have h2 := flat8_len (ls := r) (fun y hy => h y (by simp [hy]))
   simp only [flat8, List.flatten_cons, List.length_append, List.length_cons] at *
   omega
theorem flat8_get : ∀ {ls : List (List Value)}, (∀ l ∈ ls, l.length = 8) → ∀ (i t : Nat), t < 8 → (flat8 ls)[i * 8 + t]? = (ls[i]?).bind (fun l => l[t]?)
 | [], _, i, t, ht => by simp [flat8]
 | l :: r, h, i, t, ht => by
   have h1 := h l (by simp)
   cases i with
   | zero => simp only [flat8, List.flatten_cons]; rw [List.getElem?_append_left (by omega)]; simp
   | succ i =>
     have ih := flat8_get (ls := r) (fun y hy => h y (by simp [hy])) i t ht
     simp only [flat8, List.flatten_cons] at *
     rw [List.getElem?_append_right (by omega), show (i + 1) * 8 + t - l.length = i * 8 + t by omega, ih]
     simp
theorem flat8_set : ∀ {ls : List (List Value)}, (∀ l ∈ ls, l.length = 8) → ∀ (i t : Nat) (u : Value) (l : List Value), t < 8 → ls[i]? = some l → (flat8 ls).set (i * 8 + t) u = flat8 (ls.set i (l.set t u))
 | [], _, i, t, u, l, ht, hl => by simp at hl
 | a :: r, h, i, t, u, l, ht, hl => by
   have h1 := h a (by simp)
   cases i with
   | zero =>
     simp at hl
     subst hl
     simp only [flat8, List.flatten_cons, List.set_cons_zero]
     rw [List.set_append_left _ _ (by omega)]
     simp
   | succ i =>
     have ih := flat8_set (ls := r) (fun y hy => h y (by simp [hy])) i t u l ht (by simpa using hl)
     simp only [flat8, List.flatten_cons, List.set_cons_succ] at *
     rw [List.set_append_right _ _ (by omega), show (i + 1) * 8 + t - a.length = i * 8 + t by omega, ih]
def flatS (rs : List RS) : List Value := flat8 (rs.map encS)
theorem flatS_all (rs : List RS) : ∀ l ∈ rs.map encS, l.length = 8 := by
 intro l hl
 obtain ⟨y, _, rfl⟩ := List.mem_map.1 hl
 rfl
theorem flatS_len (rs : List RS) : (flatS rs).length = rs.length * 8 := by unfold flatS; rw [flat8_len (flatS_all rs), List.length_map]
theorem flatS_get (rs : List RS) (i t : Nat) (hi : i < rs.length) (ht : t < 8) : (flatS rs)[i * 8 + t]? = (encS (rs.getD i default))[t]? := by
 unfold flatS
 rw [flat8_get (flatS_all rs) i t ht, List.getElem?_map, List.getD_eq_getElem?_getD, List.getElem?_eq_getElem hi]
 rfl
theorem flatS_app (a b : List RS) : flatS (a ++ b) = flatS a ++ flatS b := by simp [flatS, flat8]
theorem flatS_one (rs : List RS) : ∀ u ∈ flatS rs, u.oneCell' = true := by
 intro u hu
 simp only [flatS, flat8, List.mem_flatten, List.mem_map] at hu
 obtain ⟨l, ⟨y, _, rfl⟩, hu⟩ := hu
 simp only [encS, List.mem_cons, List.not_mem_nil, or_false] at hu
 rcases hu with rfl | rfl | rfl | rfl | rfl | rfl | rfl | rfl <;> rfl
def FV (M : Nat → Prop) (v : S35) (a4 : Option Addr) (c4 : Nat) (a5 : Option Addr) (c5 : Nat) (W : World) : Prop := v.f4.length ≤ c4 ∧ Kd.F k35 W M a4 v.f4.length v.f4 ∧ v.f5.length ≤ c5 ∧ Kd.F k89 W M a5 v.f5.length v.f5
def FS (M : Nat → Prop) (y : RS) (W : World) : Prop := FV M y.x.f2 y.a4 y.c4 y.a5 y.c5 W
theorem FV.has {M : Nat → Prop} {v : S35} {a4 : Option Addr} {c4 : Nat} {a5 : Option Addr} {c5 : Nat} {W : World} (h : FV M v a4 c4 a5 c5 W) : HasV v a4 c4 a5 c5 W := ⟨h.1, Kd.F_now h.2.1, h.2.2.1, Kd.F_now h.2.2.2⟩
theorem FV.below {M : Nat → Prop} {v : S35} {a4 : Option Addr} {c4 : Nat} {a5 : Option Addr} {c5 : Nat} {W W' : World} (h : FV M v a4 c4 a5 c5 W) (hb : RowKit.Below W.heap.size W W') : FV M v a4 c4 a5 c5 W' := ⟨h.1, Kd.F_below h.2.1 hb, h.2.2.1, Kd.F_below h.2.2.2 hb⟩
theorem FV.kept {M S : Nat → Prop} {v : S35} {a4 : Option Addr} {c4 : Nat} {a5 : Option Addr} {c5 : Nat} {W W' : World} (h : FV M v a4 c4 a5 c5 W) (hk : Kept W W' S) (hM : ∀ k, M k → ¬ S k) : FV M v a4 c4 a5 c5 W' := ⟨h.1, Kd.F_kept h.2.1 hk hM, h.2.2.1, Kd.F_kept h.2.2.2 hk hM⟩
theorem FV.mono {M M' : Nat → Prop} {v : S35} {a4 : Option Addr} {c4 : Nat} {a5 : Option Addr} {c5 : Nat} {W : World} (h : FV M v a4 c4 a5 c5 W) (hM : ∀ k, M k → M' k) : FV M' v a4 c4 a5 c5 W := ⟨h.1, Kd.F_mono h.2.1 hM, h.2.2.1, Kd.F_mono h.2.2.2 hM⟩
theorem FV.bound {M : Nat → Prop} {v : S35} {a4 : Option Addr} {c4 : Nat} {a5 : Option Addr} {c5 : Nat} {W : World} (h : FV M v a4 c4 a5 c5 W) : FV (fun k => M k ∧ k < W.heap.size) v a4 c4 a5 c5 W := ⟨h.1, Kd.F_bound h.2.1, h.2.2.1, Kd.F_bound h.2.2.2⟩
theorem FV.nil (M : Nat → Prop) (v : S35) (W : World) (h4 : v.f4 = []) (h5 : v.f5 = []) : FV M v none 0 none 0 W := by
 unfold FV
 rw [h4, h5]
 exact ⟨Nat.le_refl _, Kd.F_nil _ _ _, Nat.le_refl _, Kd.F_nil _ _ _⟩
structure WS where
 now : List S69
 rn : Int
 rg : Int
 base : List S69
 bn : Int
 bg : Int
 most : Int
structure WL where
 wb : Nat
 g : Nat
 c : Nat
 rs : List RS
 aB : Option Addr
 cB : Nat
 z : Nat → Prop
def WL.S (L : WL) (k : Nat) : Prop := k = L.wb ∨ k = L.g
def WL.N (L : WL) (k : Nat) : Prop := L.S k ∨ L.z k
def WL.cells (L : WL) (s : WS) : Array Value := #[.slice (some ⟨L.g, 0, none⟩) L.rs.length L.c, .int .i64 s.rn, .int .i64 s.rg, .slice L.aB s.base.length L.cB, .int .i64 s.bn, .int .i64 s.bg, .int .i64 s.most]
def WorkIs (b0 : Nat) (L : WL) (s : WS) (W : World) : Prop :=
 b0 ≤ L.wb ∧ b0 ≤ L.g ∧ L.wb ≠ L.g ∧ W.heap[L.wb]? = some (.cells (L.cells s) 123 (0, 0)) ∧ W.ownsRow b0 69 8 (.slice (some ⟨L.g, 0, none⟩) L.rs.length L.c) L.rs.length (flatS L.rs) ∧
 L.rs.map (·.x) = s.now ∧ (∀ y ∈ L.rs, FS (fun k => ¬ L.N k) y W) ∧ s.base.length ≤ L.cB ∧ Kd.F k69 W (fun k => ¬ L.N k) L.aB s.base.length s.base ∧ ∀ k, L.z k → k < W.heap.size ∧ ¬ L.S k
def Moves (b0 : Nat) (S : Nat → Prop) (W W' : World) : Prop := RowKit.Below b0 W W' ∧ Kept W W' S
theorem Moves.refl (b0 : Nat) (S : Nat → Prop) (W : World) : Moves b0 S W W := ⟨RowKit.Below.refl _ _, Kept.refl _ _⟩
theorem Moves.below {b0 : Nat} {S : Nat → Prop} {W X Y : World} (h : Moves b0 S W X) (h0 : b0 ≤ W.heap.size) (hb : RowKit.Below X.heap.size X Y) : Moves b0 S W Y :=
 ⟨h.1.trans (hb.mono (Nat.le_trans h0 h.1.size)), h.2.below hb⟩
theorem Moves.alloc {b0 : Nat} {S : Nat → Prop} {W X : World} (h : Moves b0 S W X) (h0 : b0 ≤ W.heap.size) (o : Obj) : Moves b0 S W (X.alloc o) := h.below h0 (below_alloc (RowKit.Below.refl _ X) o)
theorem Moves.set {b0 : Nat} {S : Nat → Prop} {W X : World} (h : Moves b0 S W X) {p : Addr} (hp : S p.block ∨ W.heap.size ≤ p.block) (hb : b0 ≤ p.block) (u : Value) : Moves b0 S W (X.setCell p u) := ⟨h.1.setCell hb u, h.2.setCell hp u⟩
theorem Moves.grown {b0 : Nat} {S : Nat → Prop} {W X Y : World} {row : Option Nat} (h : Moves b0 S W X) (hg : X.grownBy Y row) (hr : ∀ k, row = some k → S k ∨ W.heap.size ≤ k) (hB : ∀ k, row = some k → b0 ≤ k) (h0 : b0 ≤ W.heap.size) : Moves b0 S W Y :=
 ⟨h.1.grown hg (Nat.le_trans h0 h.1.size) hB, Kept.of_grown hg h.2 hr⟩
theorem Moves.then_ {b0 : Nat} {S S2 : Nat → Prop} {W X Y : World} (h : Moves b0 S W X) (k : Moves b0 S2 X Y) (hs : ∀ k, S2 k → S k ∨ W.heap.size ≤ k) : Moves b0 S W Y := ⟨h.1.trans k.1, h.2.then_ k.2 hs⟩
theorem WorkIs.lt {b0 : Nat} {L : WL} {s : WS} {W : World} (h : WorkIs b0 L s W) : L.wb < W.heap.size ∧ L.g < W.heap.size := ⟨blk_lt h.2.2.2.1, (h.2.2.2.2.1.lt _ rfl).2⟩
theorem WorkIs.below {b0 : Nat} {L : WL} {s : WS} {W W' : World} (h : WorkIs b0 L s W) (hb : RowKit.Below W.heap.size W W') : WorkIs b0 L s W' := by
 have hl := h.lt
 obtain ⟨h1, h2, h3, h4, h5, h6, h7, h8, h9, hz⟩ := h
 exact ⟨h1, h2, h3, blk_below h4 hb, own_move h5 (fun k hk => hb.block k (h5.lt k hk).2), h6, fun y hy => (h7 y hy).below hb, h8, Kd.F_below h9 hb, fun k hk => ⟨Nat.lt_of_lt_of_le (hz k hk).1 hb.size, (hz k hk).2⟩⟩
theorem WorkIs.alloc {b0 : Nat} {L : WL} {s : WS} {W : World} (h : WorkIs b0 L s W) (o : Obj) : WorkIs b0 L s (W.alloc o) := h.below (below_alloc (RowKit.Below.refl _ W) o)
theorem WorkIs.box {b0 : Nat} {L : WL} {s : WS} {W : World} (h : WorkIs b0 L s W) : W.cell? ⟨L.wb, 0, none⟩ = some (.slice (some ⟨L.g, 0, none⟩) L.rs.length L.c) ∧ W.cell? ⟨L.wb, 1, none⟩ = some (.int .i64 s.rn) ∧ W.cell? ⟨L.wb, 2, none⟩ = some (.int .i64 s.rg) ∧
 W.cell? ⟨L.wb, 3, none⟩ = some (.slice L.aB s.base.length L.cB) ∧ W.cell? ⟨L.wb, 4, none⟩ = some (.int .i64 s.bn) ∧ W.cell? ⟨L.wb, 5, none⟩ = some (.int .i64 s.bg) ∧ W.cell? ⟨L.wb, 6, none⟩ = some (.int .i64 s.most) := by
 have hb := h.2.2.2.1
 refine ⟨?_, ?_, ?_, ?_, ?_, ?_, ?_⟩ <;> (rw [cell_of_row W L.wb _ _ _ _ hb]; rfl)
theorem WorkIs.frz {b0 : Nat} {L : WL} {s : WS} {W : World} (h : WorkIs b0 L s W) (n : Nat) : W.frozen? ⟨L.wb, n, none⟩ = false := blk_frozen h.2.2.2.1 n
theorem WorkIs.len {b0 : Nat} {L : WL} {s : WS} {W : World} (h : WorkIs b0 L s W) : s.now.length = L.rs.length := by rw [← h.2.2.2.2.2.1]; simp
theorem WorkIs.slot {b0 : Nat} {L : WL} {s : WS} {W : World} (h : WorkIs b0 L s W) (i : Nat) (hi : i < L.rs.length) : ∃ y : RS, y = L.rs.getD i default ∧ y.x = s.now.getD i z69 ∧ y ∈ L.rs ∧
 W.cell? ⟨L.g, i * 8, none⟩ = some (.int .i64 y.x.f0) ∧ W.cell? ⟨L.g, i * 8 + 1, none⟩ = some (.bool y.x.f1) ∧ W.cell? ⟨L.g, i * 8 + 2, none⟩ = some (.int .i64 y.x.f2.f0) ∧ W.cell? ⟨L.g, i * 8 + 3, none⟩ = some (.int .i64 y.x.f2.f1) ∧
 W.cell? ⟨L.g, i * 8 + 4, none⟩ = some (.int .i64 y.x.f2.f2) ∧ W.cell? ⟨L.g, i * 8 + 5, none⟩ = some (.string y.x.f2.f3) ∧ W.cell? ⟨L.g, i * 8 + 6, none⟩ = some (.slice y.a4 y.x.f2.f4.length y.c4) ∧ W.cell? ⟨L.g, i * 8 + 7, none⟩ = some (.slice y.a5 y.x.f2.f5.length y.c5) := by
 have hc : ∀ t, t < 8 → W.cell? ⟨L.g, i * 8 + t, none⟩ = (encS (L.rs.getD i default))[t]? := fun t ht => by
  rw [h.2.2.2.2.1.cellAt (i * 8 + t) (by omega), flatS_get _ _ _ hi ht]
 refine ⟨_, rfl, ?_, getD_mem _ _ hi _, hc 0 (by omega), hc 1 (by omega), hc 2 (by omega), hc 3 (by omega), hc 4 (by omega), hc 5 (by omega), hc 6 (by omega), hc 7 (by omega)⟩
 rw [← h.2.2.2.2.2.1, List.getD_eq_getElem?_getD, List.getD_eq_getElem?_getD, List.getElem?_map, List.getElem?_eq_getElem hi]
 rfl
end Go.Proofs.Ytogpnkkoablmiaa.V
end
section
namespace Go.Proofs.Ytogpnkkoablmiaa.V
open Go.Proofs.Ytogpnkkoablmiaa.P Go.Shelf Go.RowKit Go.Lib Go.Sort Go.Proofs.Ytogpnkkoablmiaa.Q Go.Proofs.YtogpnkkoablmiaaW.PrintWords Go.Proofs.YtogpnkkoablmiaaW.PrintLast Go.Proofs.YtogpnkkoablmiaaW.PrintMore
set_option linter.unusedVariables false
set_option linter.unusedSimpArgs false
theorem own_max {W : World} {base e size n g c : Nat} {xs : List Value} (h : W.ownsRow base e size (.slice (some ⟨g, 0, none⟩) n c) n xs) : n ≤ 9223372036854775807 := by
 rcases h.2 with ⟨h1, _⟩ | ⟨g', cap, cur, h1, _, _, h2, h3, _⟩
 · cases h1
 · unfold maxLen at h3; omega
def findE (s : WS) (n g : Int) : Int := if n < 1 ∨ (s.now.length : Int) ≤ n then 12 else if (s.now.getD n.toNat z69).f1 = false then 12 else if (s.now.getD n.toNat z69).f0 ≠ g then 13 else 0
set_option maxHeartbeats 8000000 in
set_option maxRecDepth 100000 in
theorem slot_calls (b0 : Nat) (L : WL) (s : WS) (n g : Int) (w : World) (h : WorkIs b0 L s w) : Calls Try.prog 88 #[.pointer (some ⟨L.wb, 0, none⟩), .agg #[.int .i64 n, .int .i64 g]] w fun e w' => e = .returned (.tuple #[.pointer (if findE s n g = 0 then some ⟨L.g, n.toNat * 8, none⟩ else none), .int .i64 (findE s n g)]) ∧ RowKit.Below w.heap.size w w' := by
 have hu28 := Try.underlying28
 have hu23 := Try.underlying23
 have hu69 := Try.underlying69
 have hu120 := Try.underlying120
 have hu123 := Try.underlying123
 have hl := h.lt
 have hlt0 := hl.1
 have hlt1 := hl.2
 have B := A_ (below_alloc (RowKit.Below.refl w.heap.size w) (.cells #[.int .i64 n, .int .i64 g] 28))
 have hlen := h.len
 have hmax := h.2.2.2.2.1
 have H1 := h.alloc (.cells #[.int .i64 n, .int .i64 g] 28)
 obtain ⟨z0, z1⟩ := box2 (blk_new w (.cells #[.int .i64 n, .int .i64 g] 28))
 obtain ⟨u0, -⟩ := H1.box
 obtain ⟨N, hN⟩ : ∃ N, N = L.rs.length := ⟨_, rfl⟩
 rw [← hN] at u0 hlen
 generalize L.c = c at u0
 by_cases hA0 : n < 1
 · have hE : findE s n g = 12 := by unfold findE; rw [if_pos (.inl hA0)]
   have hA : decide (n < 1) = true := decide_eq_true hA0
   rw [hE, if_neg (by decide)]
   clear hE H1 hmax h hN hlen
   go_enter Try.func88, Try.ntmps88
   go_upto_region 3 with fail
   refine start_ (n := 28) (S := (fun w' => w'.cell? ⟨w.heap.size, 0, none⟩ = some (.int .i64 n) ∧ w'.cell? ⟨w.heap.size, 1, none⟩ = some (.int .i64 g) ∧ w'.cell? ⟨L.wb, 0, none⟩ = some (.slice (some ⟨L.g, 0, none⟩) N c))) (ds := [27]) #[false, false, false, false, false, false, false, false, false, false, false, false, false, false, false, false, false, false, false, false, false, false, false, false, false, false, false, false] (by kernel_rfl) rfl rfl (by refine ⟨?_, ?_, ?_⟩ <;> go_simp) (fun hHeld => ?_)
   have HH := A_ hHeld
   clear hHeld
   refine pu_ 0 10 ?_
   refine ta_ 1 11 HH.out ?_
   refine pu_ 2 12 ?_ (hy := Or.inl ⟨by rfl, by intro w'; go_simp; (try simp only [hA]); with_reducible rfl⟩)
   refine pu_ 3 13 ?_
   refine pu_ 4 14 ?_ (hy := Or.inr ⟨by rfl, rfl⟩)
   refine pu_ 5 15 ?_ (hy := Or.inr ⟨by rfl, rfl⟩)
   refine pu_ 6 16 ?_ (hy := Or.inr ⟨by rfl, rfl⟩)
   refine pu_ 7 17 ?_ (hy := Or.inr ⟨by rfl, rfl⟩)
   refine pu_ 8 18 ?_ (hy := Or.inr ⟨by rfl, rfl⟩)
   refine pu_ 9 19 ?_ (hy := Or.inr ⟨by rfl, rfl⟩)
   refine pu_ 10 20 ?_ (hy := Or.inr ⟨by rfl, rfl⟩)
   refine pu_ 11 21 ?_ (hy := Or.inr ⟨by rfl, rfl⟩)
   refine pu_ 12 22 ?_ (hy := Or.inr ⟨by rfl, rfl⟩)
   refine pu_ 13 23 ?_
   refine pu_ 14 24 ?_
   refine pu_ 15 25 ?_ (hy := Or.inr ⟨by rfl, rfl⟩)
   refine pu_ 16 26 ?_ (hy := Or.inr ⟨by rfl, rfl⟩)
   refine pu_ 17 27 ?_ (hy := Or.inr ⟨by rfl, rfl⟩)
   refine pu_ 18 28 ?_ (hy := Or.inr ⟨by rfl, rfl⟩)
   refine pu_ 19 29 ?_ (hy := Or.inr ⟨by rfl, rfl⟩)
   refine pu_ 20 30 ?_ (hy := Or.inr ⟨by rfl, rfl⟩)
   refine pu_ 21 31 ?_ (hy := Or.inr ⟨by rfl, rfl⟩)
   refine pu_ 22 32 ?_ (hy := Or.inr ⟨by rfl, rfl⟩)
   refine pu_ 23 33 ?_ (hy := Or.inr ⟨by rfl, rfl⟩)
   refine pu_ 24 34 ?_ (hy := Or.inr ⟨by rfl, rfl⟩)
   refine pu_ 25 35 ?_ (hy := Or.inr ⟨by rfl, rfl⟩)
   refine pu_ 26 36 ?_
   refine chain_ [27] _ _ _ _ (⟨_, _, rfl, rfl, rfl⟩) (by kernel_rfl) (by decide) ?_
   go_wp2
   exact bodyPost_ret (v := .tuple #[.pointer none, .int .i64 12]) (by simp [results, Try.results88, go_sem]) rfl ⟨rfl, B.out.drew⟩
 have hA : decide (n < 1) = false := decide_eq_false hA0
 by_cases hB0 : (N : Int) ≤ n
 · have hE : findE s n g = 12 := by unfold findE; rw [if_pos (.inr (by rw [hlen]; exact hB0))]
   have hB : decide ((N : Int) ≤ n) = true := decide_eq_true hB0
   rw [hE, if_neg (by decide)]
   clear hE H1 hmax h hN hlen
   go_enter Try.func88, Try.ntmps88
   go_upto_region 3 with fail
   refine start_ (n := 28) (S := (fun w' => w'.cell? ⟨w.heap.size, 0, none⟩ = some (.int .i64 n) ∧ w'.cell? ⟨w.heap.size, 1, none⟩ = some (.int .i64 g) ∧ w'.cell? ⟨L.wb, 0, none⟩ = some (.slice (some ⟨L.g, 0, none⟩) N c))) (ds := [27]) #[false, false, false, false, false, false, false, false, false, false, false, false, false, false, false, false, false, false, false, false, false, false, false, false, false, false, false, false] (by kernel_rfl) rfl rfl (by refine ⟨?_, ?_, ?_⟩ <;> go_simp) (fun hHeld => ?_)
   have HH := A_ hHeld
   clear hHeld
   refine pu_ 0 10 ?_
   refine ta_ 1 11 HH.out ?_
   refine pu_ 2 12 ?_ (hy := Or.inl ⟨by rfl, by intro w'; go_simp; (try simp only [hA]); with_reducible rfl⟩)
   refine pu_ 3 13 ?_
   refine pu_ 4 14 ?_
   refine ta_ 5 15 HH.out ?_
   refine pu_ 6 16 ?_
   refine pu_ 7 17 ?_
   refine pu_ 8 18 ?_
   refine pu_ 9 19 ?_
   refine ta_ 10 20 HH.out ?_
   refine pu_ 11 21 ?_
   refine pu_ 12 22 ?_ (hy := Or.inl ⟨by rfl, by intro w'; go_simp; (try simp only [hB]); with_reducible rfl⟩)
   refine pu_ 13 23 ?_
   refine pu_ 14 24 ?_
   refine pu_ 15 25 ?_ (hy := Or.inr ⟨by rfl, rfl⟩)
   refine pu_ 16 26 ?_ (hy := Or.inr ⟨by rfl, rfl⟩)
   refine pu_ 17 27 ?_ (hy := Or.inr ⟨by rfl, rfl⟩)
   refine pu_ 18 28 ?_ (hy := Or.inr ⟨by rfl, rfl⟩)
   refine pu_ 19 29 ?_ (hy := Or.inr ⟨by rfl, rfl⟩)
   refine pu_ 20 30 ?_ (hy := Or.inr ⟨by rfl, rfl⟩)
   refine pu_ 21 31 ?_ (hy := Or.inr ⟨by rfl, rfl⟩)
   refine pu_ 22 32 ?_ (hy := Or.inr ⟨by rfl, rfl⟩)
   refine pu_ 23 33 ?_ (hy := Or.inr ⟨by rfl, rfl⟩)
   refine pu_ 24 34 ?_ (hy := Or.inr ⟨by rfl, rfl⟩)
   refine pu_ 25 35 ?_ (hy := Or.inr ⟨by rfl, rfl⟩)
   refine pu_ 26 36 ?_
   refine chain_ [27] _ _ _ _ (⟨_, _, rfl, rfl, rfl⟩) (by kernel_rfl) (by decide) ?_
   go_wp2
   exact bodyPost_ret (v := .tuple #[.pointer none, .int .i64 12]) (by simp [results, Try.results88, go_sem]) rfl ⟨rfl, B.out.drew⟩
 have hB : decide ((N : Int) ≤ n) = false := decide_eq_false hB0
 obtain ⟨i, rfl⟩ : ∃ i : Nat, n = i := ⟨n.toNat, by omega⟩
 have hiN : i < N := by omega
 obtain ⟨y, hy, hyx, hym, s0, s1, -⟩ := H1.slot i (by omega)
 have hE : findE s i g = if y.x.f1 = false then 12 else if y.x.f0 ≠ g then 13 else 0 := by
  unfold findE
  rw [if_neg (by rw [hlen]; omega), Int.toNat_natCast, ← hyx]
 have hNm : N ≤ 9223372036854775807 := by rw [hN]; exact own_max h.2.2.2.2.1
 rw [Int.toNat_natCast]
 generalize y.x.f0 = x0 at *
 generalize y.x.f1 = lv at *
 clear H1 hmax h hN hlen hy hyx hym
 cases lv
 · rw [hE, if_pos rfl, if_neg (by decide)]
   clear hE
   go_enter Try.func88, Try.ntmps88
   go_upto_region 3 with fail
   refine start_ (n := 28) (S := (fun w' => w'.cell? ⟨w.heap.size, 0, none⟩ = some (.int .i64 (i : Int)) ∧ w'.cell? ⟨w.heap.size, 1, none⟩ = some (.int .i64 g) ∧ w'.cell? ⟨L.wb, 0, none⟩ = some (.slice (some ⟨L.g, 0, none⟩) N c) ∧ w'.cell? ⟨L.g, i * 8, none⟩ = some (.int .i64 x0) ∧ w'.cell? ⟨L.g, i * 8 + 1, none⟩ = some (.bool false))) (ds := [27]) #[false, false, false, false, false, false, false, false, false, false, false, false, false, false, false, false, false, false, false, false, false, false, false, false, false, false, false, false] (by kernel_rfl) rfl rfl (by refine ⟨?_, ?_, ?_, ?_, ?_⟩ <;> go_simp) (fun hHeld => ?_)
   have HH := A_ hHeld
   clear hHeld
   refine pu_ 0 10 ?_
   refine ta_ 1 11 HH.out ?_
   refine pu_ 2 12 ?_ (hy := Or.inl ⟨by rfl, by intro w'; go_simp; (try simp only [hA]); with_reducible rfl⟩)
   refine pu_ 3 13 ?_
   refine pu_ 4 14 ?_
   refine ta_ 5 15 HH.out ?_
   refine pu_ 6 16 ?_
   refine pu_ 7 17 ?_
   refine pu_ 8 18 ?_
   refine pu_ 9 19 ?_
   refine ta_ 10 20 HH.out ?_
   refine pu_ 11 21 ?_
   refine pu_ 12 22 ?_ (hy := Or.inl ⟨by rfl, by intro w'; go_simp; (try simp only [hB]); with_reducible rfl⟩)
   refine pu_ 13 23 ?_
   refine pu_ 14 24 ?_
   refine pu_ 15 25 ?_
   refine pu_ 16 26 ?_
   refine pu_ 17 27 ?_
   refine pu_ 18 28 ?_
   refine ta_ 19 29 HH.out ?_
   refine pu_ 20 30 ?_
   refine ta_ 21 31 HH.out ?_
   refine pu_ 22 32 ?_
   refine pu_ 23 33 ?_
   refine ta_ 24 34 HH.out ?_
   refine pu_ 25 35 ?_
   refine pu_ 26 36 ?_
   refine chain_ [27] _ _ _ _ (⟨_, _, rfl, rfl, rfl⟩) (by kernel_rfl) (by decide) ?_
   go_wp2
   exact bodyPost_ret (v := .tuple #[.pointer none, .int .i64 12]) (by simp [results, Try.results88, go_sem]) rfl ⟨rfl, B.out.drew⟩
 · by_cases hg : x0 = g
   · subst hg
     have hE2 : findE s i x0 = 0 := by rw [hE]; simp
     rw [hE2, if_pos rfl]
     clear hE hE2
     go_enter Try.func88, Try.ntmps88
     go_upto_region 3 with fail
     refine start_ (n := 28) (S := (fun w' => w'.cell? ⟨w.heap.size, 0, none⟩ = some (.int .i64 (i : Int)) ∧ w'.cell? ⟨w.heap.size, 1, none⟩ = some (.int .i64 x0) ∧ w'.cell? ⟨L.wb, 0, none⟩ = some (.slice (some ⟨L.g, 0, none⟩) N c) ∧ w'.cell? ⟨L.g, i * 8, none⟩ = some (.int .i64 x0) ∧ w'.cell? ⟨L.g, i * 8 + 1, none⟩ = some (.bool true))) (ds := [27]) #[false, false, false, false, false, false, false, false, false, false, false, false, false, false, false, false, false, false, false, false, false, false, false, false, false, false, false, false] (by kernel_rfl) rfl rfl (by refine ⟨?_, ?_, ?_, ?_, ?_⟩ <;> go_simp) (fun hHeld => ?_)
     have HH := A_ hHeld
     clear hHeld
     refine pu_ 0 10 ?_
     refine ta_ 1 11 HH.out ?_
     refine pu_ 2 12 ?_ (hy := Or.inl ⟨by rfl, by intro w'; go_simp; (try simp only [hA]); with_reducible rfl⟩)
     refine pu_ 3 13 ?_
     refine pu_ 4 14 ?_
     refine ta_ 5 15 HH.out ?_
     refine pu_ 6 16 ?_
     refine pu_ 7 17 ?_
     refine pu_ 8 18 ?_
     refine pu_ 9 19 ?_
     refine ta_ 10 20 HH.out ?_
     refine pu_ 11 21 ?_
     refine pu_ 12 22 ?_ (hy := Or.inl ⟨by rfl, by intro w'; go_simp; (try simp only [hB]); with_reducible rfl⟩)
     refine pu_ 13 23 ?_
     refine pu_ 14 24 ?_
     refine pu_ 15 25 ?_
     refine pu_ 16 26 ?_
     refine pu_ 17 27 ?_
     refine pu_ 18 28 ?_
     refine ta_ 19 29 HH.out ?_
     refine pu_ 20 30 ?_
     refine ta_ 21 31 HH.out ?_
     refine pu_ 22 32 ?_
     refine pu_ 23 33 ?_
     refine ta_ 24 34 HH.out ?_
     refine pu_ 25 35 ?_
     refine pu_ 26 36 ?_
     refine chain_ [27] _ _ _ _ (⟨_, _, rfl, rfl, rfl⟩) (by kernel_rfl) (by decide) ?_
     go_upto_region 5 with fail
     refine start_ (n := 14) (S := (fun w' => w'.cell? ⟨w.heap.size, 0, none⟩ = some (.int .i64 (i : Int)) ∧ w'.cell? ⟨w.heap.size, 1, none⟩ = some (.int .i64 x0) ∧ w'.cell? ⟨L.wb, 0, none⟩ = some (.slice (some ⟨L.g, 0, none⟩) N c) ∧ w'.cell? ⟨L.g, i * 8, none⟩ = some (.int .i64 x0) ∧ w'.cell? ⟨L.g, i * 8 + 1, none⟩ = some (.bool true))) (ds := [13]) #[false, false, false, false, false, false, false, false, false, false, false, false, false, false] (by kernel_rfl) rfl rfl (by refine ⟨?_, ?_, ?_, ?_, ?_⟩ <;> go_simp) (fun hHeld => ?_)
     have HH := A_ hHeld
     clear hHeld
     refine pu_ 0 38 ?_
     refine pu_ 1 39 ?_
     refine pu_ 2 40 ?_
     refine pu_ 3 41 ?_
     refine ta_ 4 42 HH.out ?_
     refine pu_ 5 43 ?_
     refine ta_ 6 44 HH.out ?_
     refine pu_ 7 45 ?_
     refine pu_ 8 46 ?_
     refine ta_ 9 47 HH.out ?_
     refine pu_ 10 48 ?_
     refine ta_ 11 49 HH.out ?_
     refine pu_ 12 50 ?_ (hy := Or.inl ⟨by rfl, by intro w'; go_simp; (try simp only [bne_self_eq_false]); with_reducible rfl⟩)
     refine chain_ [13] _ _ _ _ (⟨_, _, rfl, rfl, rfl⟩) (by kernel_rfl) (by decide) ?_
     go_upto_region 7 with fail
     refine start_ (n := 10) (S := (fun w' => w'.cell? ⟨w.heap.size, 0, none⟩ = some (.int .i64 (i : Int)) ∧ w'.cell? ⟨w.heap.size, 1, none⟩ = some (.int .i64 x0) ∧ w'.cell? ⟨L.wb, 0, none⟩ = some (.slice (some ⟨L.g, 0, none⟩) N c) ∧ w'.cell? ⟨L.g, i * 8, none⟩ = some (.int .i64 x0) ∧ w'.cell? ⟨L.g, i * 8 + 1, none⟩ = some (.bool true))) (ds := [8, 9]) #[false, false, false, false, false, false, false, false, false, false] (by kernel_rfl) rfl rfl (by refine ⟨?_, ?_, ?_, ?_, ?_⟩ <;> go_simp) (fun hHeld => ?_)
     have HH := A_ hHeld
     clear hHeld
     refine pu_ 0 51 ?_
     refine pu_ 1 52 ?_
     refine pu_ 2 53 ?_
     refine pu_ 3 54 ?_
     refine ta_ 4 55 HH.out ?_
     refine pu_ 5 56 ?_
     refine ta_ 6 57 HH.out ?_
     refine pu_ 7 58 ?_
     refine chain_ [8, 9] _ _ _ _ (⟨_, _, rfl, rfl, ⟨_, _, rfl, rfl, rfl⟩⟩) (by kernel_rfl) (by decide) ?_
     go_wp2
     exact bodyPost_ret (v := .tuple #[.pointer (some ⟨L.g, i * 8, none⟩), .int .i64 0]) (by simp [results, Try.results88, go_sem]) rfl ⟨rfl, B.out.drew.drew.drew⟩
   · have hE2 : findE s i g = 13 := by rw [hE]; simp [hg]
     rw [hE2, if_neg (by decide)]
     have hne : (x0 != g) = true := by simpa using hg
     clear hE hE2
     go_enter Try.func88, Try.ntmps88
     go_upto_region 3 with fail
     refine start_ (n := 28) (S := (fun w' => w'.cell? ⟨w.heap.size, 0, none⟩ = some (.int .i64 (i : Int)) ∧ w'.cell? ⟨w.heap.size, 1, none⟩ = some (.int .i64 g) ∧ w'.cell? ⟨L.wb, 0, none⟩ = some (.slice (some ⟨L.g, 0, none⟩) N c) ∧ w'.cell? ⟨L.g, i * 8, none⟩ = some (.int .i64 x0) ∧ w'.cell? ⟨L.g, i * 8 + 1, none⟩ = some (.bool true))) (ds := [27]) #[false, false, false, false, false, false, false, false, false, false, false, false, false, false, false, false, false, false, false, false, false, false, false, false, false, false, false, false] (by kernel_rfl) rfl rfl (by refine ⟨?_, ?_, ?_, ?_, ?_⟩ <;> go_simp) (fun hHeld => ?_)
     have HH := A_ hHeld
     clear hHeld
     refine pu_ 0 10 ?_
     refine ta_ 1 11 HH.out ?_
     refine pu_ 2 12 ?_ (hy := Or.inl ⟨by rfl, by intro w'; go_simp; (try simp only [hA]); with_reducible rfl⟩)
     refine pu_ 3 13 ?_
     refine pu_ 4 14 ?_
     refine ta_ 5 15 HH.out ?_
     refine pu_ 6 16 ?_
     refine pu_ 7 17 ?_
     refine pu_ 8 18 ?_
     refine pu_ 9 19 ?_
     refine ta_ 10 20 HH.out ?_
     refine pu_ 11 21 ?_
     refine pu_ 12 22 ?_ (hy := Or.inl ⟨by rfl, by intro w'; go_simp; (try simp only [hB]); with_reducible rfl⟩)
     refine pu_ 13 23 ?_
     refine pu_ 14 24 ?_
     refine pu_ 15 25 ?_
     refine pu_ 16 26 ?_
     refine pu_ 17 27 ?_
     refine pu_ 18 28 ?_
     refine ta_ 19 29 HH.out ?_
     refine pu_ 20 30 ?_
     refine ta_ 21 31 HH.out ?_
     refine pu_ 22 32 ?_
     refine pu_ 23 33 ?_
     refine ta_ 24 34 HH.out ?_
     refine pu_ 25 35 ?_
     refine pu_ 26 36 ?_
     refine chain_ [27] _ _ _ _ (⟨_, _, rfl, rfl, rfl⟩) (by kernel_rfl) (by decide) ?_
     go_upto_region 5 with fail
     refine start_ (n := 14) (S := (fun w' => w'.cell? ⟨w.heap.size, 0, none⟩ = some (.int .i64 (i : Int)) ∧ w'.cell? ⟨w.heap.size, 1, none⟩ = some (.int .i64 g) ∧ w'.cell? ⟨L.wb, 0, none⟩ = some (.slice (some ⟨L.g, 0, none⟩) N c) ∧ w'.cell? ⟨L.g, i * 8, none⟩ = some (.int .i64 x0) ∧ w'.cell? ⟨L.g, i * 8 + 1, none⟩ = some (.bool true))) (ds := [13]) #[false, false, false, false, false, false, false, false, false, false, false, false, false, false] (by kernel_rfl) rfl rfl (by refine ⟨?_, ?_, ?_, ?_, ?_⟩ <;> go_simp) (fun hHeld => ?_)
     have HH := A_ hHeld
     clear hHeld
     refine pu_ 0 38 ?_
     refine pu_ 1 39 ?_
     refine pu_ 2 40 ?_
     refine pu_ 3 41 ?_
     refine ta_ 4 42 HH.out ?_
     refine pu_ 5 43 ?_
     refine ta_ 6 44 HH.out ?_
     refine pu_ 7 45 ?_
     refine pu_ 8 46 ?_
     refine ta_ 9 47 HH.out ?_
     refine pu_ 10 48 ?_
     refine ta_ 11 49 HH.out ?_
     refine pu_ 12 50 ?_ (hy := Or.inl ⟨by rfl, by intro w'; go_simp; (try simp only [hne]); with_reducible rfl⟩)
     refine chain_ [13] _ _ _ _ (⟨_, _, rfl, rfl, rfl⟩) (by kernel_rfl) (by decide) ?_
     go_wp2
     exact bodyPost_ret (v := .tuple #[.pointer none, .int .i64 13]) (by simp [results, Try.results88, go_sem]) rfl ⟨rfl, B.out.drew.drew⟩
theorem flat8_mid {ls : List (List Value)} (h : ∀ l ∈ ls, l.length = 8) {i : Nat} {l l' : List Value} (hl : ls[i]? = some l) (hl' : l'.length = 8) : ∀ x ∈ ls.set i l', x.length = 8 := by
 intro x hx
 rcases List.mem_or_eq_of_mem_set hx with hx | rfl
 · exact h x hx
 · exact hl'
theorem moves_cells {b0 g : Nat} {S : Nat → Prop} {W : World} (hS : S g) (hb : b0 ≤ g) : ∀ (vs : List Value) (o : Nat) (X : World), Moves b0 S W X → Moves b0 S W (X.setCells g o vs)
 | [], _, _, h => h
 | v :: r, o, X, h => moves_cells hS hb r (o + 1) _ (h.set (p := ⟨g, o, none⟩) (.inl hS) hb v)
theorem take_set_succ {l : List Value} {t : Nat} {v : Value} (h : t < l.length) : (l.set t v).take (t + 1) = l.take t ++ [v] := by
 rw [List.take_set, List.take_succ_eq_append_getElem h, List.set_append_right _ _ (by simp; omega)]
 simp [Nat.min_eq_left (Nat.le_of_lt h)]
theorem own_store {b0 g n c : Nat} : ∀ (vs : List Value) (W : World) (ls : List (List Value)) (i t : Nat) (l : List Value), W.ownsRow b0 69 8 (.slice (some ⟨g, 0, none⟩) n c) n (flat8 ls) → (∀ l ∈ ls, l.length = 8) → ls[i]? = some l → t + vs.length ≤ 8 →
 (W.setCells g (i * 8 + t) vs).ownsRow b0 69 8 (.slice (some ⟨g, 0, none⟩) n c) n (flat8 (ls.set i (l.take t ++ vs ++ l.drop (t + vs.length))))
 | [], W, ls, i, t, l, h, hls, hi, ht => by
   have e : ls.set i (l.take t ++ [] ++ l.drop (t + 0)) = ls := by
    rw [List.append_nil, Nat.add_zero, List.take_append_drop]
    apply List.ext_getElem?
    intro j
    rw [List.getElem?_set]
    split
    · rename_i hj; subst hj; split
      · rw [hi]
      · rw [List.getElem?_eq_none (by omega)]
    · rfl
   simp only [List.length_nil]
   rw [e]
   exact h
 | v :: r, W, ls, i, t, l, h, hls, hi, ht => by
   simp only [List.length_cons] at ht
   have hl8 : l.length = 8 := hls l (List.mem_of_getElem? hi)
   have hlt : i < ls.length := (List.getElem?_eq_some_iff.1 hi).1
   have h1 := (h.stored (i * 8 + t) v).1
   rw [flat8_set hls i t v l (by omega) hi] at h1
   have h2 := own_store r _ (ls.set i (l.set t v)) i (t + 1) (l.set t v) h1 (flat8_mid hls hi (by simp [hl8])) (by rw [List.getElem?_set_self hlt]) (by omega)
   rw [List.set_set] at h2
   have e : (l.set t v).take (t + 1) ++ r ++ (l.set t v).drop (t + 1 + r.length) = l.take t ++ v :: r ++ l.drop (t + (r.length + 1)) := by
    rw [List.drop_set_of_lt (by omega), take_set_succ (by omega)]
    simp [List.append_assoc, Nat.add_assoc, Nat.add_comm, Nat.add_left_comm]
   rw [e] at h2
   exact h2
theorem cells_other {W : World} {g b : Nat} (hb : b ≠ g) (hl : b < W.heap.size) (vs : List Value) (o : Nat) : (W.setCells g o vs).heap[b]? = W.heap[b]? :=
 (moves_cells (b0 := 0) (S := fun k => k = g) rfl (Nat.zero_le _) vs o W (Moves.refl _ _ _)).2.2 b hl hb
theorem WorkIs.store {b0 : Nat} {L : WL} {s : WS} {W : World} (h : WorkIs b0 L s W) (i : Nat) (hi : i < L.rs.length) (y' : RS) (t : Nat) (vs : List Value) (ht : t + vs.length ≤ 8)
 (he : encS y' = (encS (L.rs.getD i default)).take t ++ vs ++ (encS (L.rs.getD i default)).drop (t + vs.length)) (hy : FS (fun k => ¬ L.N k) y' W) :
 WorkIs b0 { L with rs := L.rs.set i y' } { s with now := s.now.set i y'.x } (W.setCells L.g (i * 8 + t) vs) ∧ Moves b0 L.S W (W.setCells L.g (i * 8 + t) vs) := by
 have hl := h.lt
 obtain ⟨h1, h2, h3, h4, h5, h6, h7, h8, h9, hz⟩ := h
 have hm : Moves b0 L.S W (W.setCells L.g (i * 8 + t) vs) := moves_cells (.inr rfl) h2 vs _ W (Moves.refl _ _ _)
 refine ⟨⟨h1, h2, h3, ?_, ?_, ?_, ?_, h8, Kd.F_kept h9 hm.2 (fun k hk e => hk (.inl e)), fun k hk => ⟨Nat.lt_of_lt_of_le (hz k hk).1 hm.2.1, (hz k hk).2⟩⟩, hm⟩
 · show (W.setCells L.g (i * 8 + t) vs).heap[L.wb]? = _
   rw [cells_other h3 hl.1, h4]
   simp only [WL.cells, List.length_set]
 · have h := own_store vs W (L.rs.map encS) i t (encS (L.rs.getD i default)) h5 (flatS_all _) (by rw [List.getElem?_map, List.getD_eq_getElem?_getD, List.getElem?_eq_getElem hi]; rfl) ht
   rw [← he, ← List.map_set] at h
   simp only [List.length_set]
   exact h
 · show (L.rs.set i y').map (·.x) = s.now.set i y'.x
   rw [List.map_set, h6]
 · intro y hy2
   rcases List.mem_or_eq_of_mem_set hy2 with hy2 | rfl
   · exact FV.kept (h7 y hy2) hm.2 (fun k hk e => hk (.inl e))
   · exact FV.kept hy hm.2 (fun k hk e => hk (.inl e))
theorem WorkIs.setRoot {b0 : Nat} {L : WL} {s : WS} {W : World} (h : WorkIs b0 L s W) (n g : Int) :
 WorkIs b0 L { s with rn := n, rg := g } ((W.setCell ⟨L.wb, 1, none⟩ (.int .i64 n)).setCell ⟨L.wb, 2, none⟩ (.int .i64 g)) ∧ Moves b0 L.S W ((W.setCell ⟨L.wb, 1, none⟩ (.int .i64 n)).setCell ⟨L.wb, 2, none⟩ (.int .i64 g)) := by
 have hl := h.lt
 obtain ⟨h1, h2, h3, h4, h5, h6, h7, h8, h9, hz⟩ := h
 have hm : Moves b0 L.S W ((W.setCell ⟨L.wb, 1, none⟩ (.int .i64 n)).setCell ⟨L.wb, 2, none⟩ (.int .i64 g)) := ((Moves.refl _ _ _).set (p := ⟨L.wb, 1, none⟩) (.inl (.inl rfl)) h1 _).set (p := ⟨L.wb, 2, none⟩) (.inl (.inl rfl)) h1 _
 refine ⟨⟨h1, h2, h3, ?_, ?_, h6, fun y hy => FV.kept (h7 y hy) hm.2 (fun k hk e => hk (.inl e)), h8, Kd.F_kept h9 hm.2 (fun k hk e => hk (.inl e)), fun k hk => ⟨Nat.lt_of_lt_of_le (hz k hk).1 hm.2.1, (hz k hk).2⟩⟩, hm⟩
 · have e1 := heap_setCell_same W L.wb 1 _ 123 (.int .i64 n) h4
   have e2 := heap_setCell_same _ L.wb 2 _ 123 (.int .i64 g) e1
   rw [e2]
   rfl
 · exact ownsRow_setCell_other (ownsRow_setCell_other h5 (a := ⟨L.wb, 1, none⟩) (by simp [Value.ownBlock]; exact fun e => h3 e.symm) _) (a := ⟨L.wb, 2, none⟩) (by simp [Value.ownBlock]; exact fun e => h3 e.symm) _
theorem K_plainF (v : S35) (A4 : Option Addr) (c4 : Nat) (A5 : Option Addr) (c5 : Nat) (W : World) (hf : fewV v) (h : HasV v A4 c4 A5 c5 W) : Calls Try.prog 59 #[.agg #[.int .i64 v.f0, .int .i64 v.f1, .int .i64 v.f2, .string v.f3, .slice A4 v.f4.length c4, .slice A5 v.f5.length c5]] W fun e w' => ∃ a4 n4 a5 n5, e = .returned (.agg #[.int .i64 (plain v).f0, .int .i64 (plain v).f1, .int .i64 (plain v).f2, .string (plain v).f3, .slice a4 (plain v).f4.length n4, .slice a5 (plain v).f5.length n5]) ∧ FV (fun k => W.heap.size ≤ k) (plain v) a4 n4 a5 n5 w' ∧ RowKit.Below W.heap.size W w' := by
 refine (plain59_all v A4 c4 A5 c5 W hf h.1 h.2.1 h.2.2.1 h.2.2.2).mono ?_
 rintro e w' ⟨v4, v5, rfl, r4, r5, hb⟩
 obtain ⟨a, n, rfl, h1, h2⟩ := Kd.V_mono (base := W.heap.size) (ok' := fun k => W.heap.size ≤ k) (Kd.R_V (Kd.R_bound r4)) (fun k hk => hk.2.1)
 obtain ⟨a', n', rfl, h3, h4⟩ := Kd.V_mono (base := W.heap.size) (ok' := fun k => W.heap.size ≤ k) (Kd.R_V (Kd.R_bound r5)) (fun k hk => hk.2.1)
 exact ⟨a, n, a', n', rfl, ⟨h1, h2, h3, h4⟩, hb⟩
def getW (s : WS) (n g : Int) : S35 := if findE s n g = 0 then plain (s.now.getD n.toNat z69).f2 else z35
theorem findE_cases (s : WS) (n g : Int) : findE s n g = 0 ∨ findE s n g = 12 ∨ findE s n g = 13 := by
 unfold findE
 repeat (split; · simp)
 simp
theorem findE_zero {s : WS} {n g : Int} (h : findE s n g = 0) : ∃ i : Nat, n = i ∧ 1 ≤ i ∧ i < s.now.length ∧ (s.now.getD i z69).f1 = true ∧ (s.now.getD i z69).f0 = g := by
 unfold findE at h
 split at h
 · omega
 rename_i h1
 split at h
 · omega
 rename_i h2
 split at h
 · omega
 rename_i h3
 exact ⟨n.toNat, by omega, by omega, by omega, by simpa using h2, by simpa using h3⟩
set_option maxHeartbeats 8000000 in
set_option maxRecDepth 100000 in
theorem wget_calls (b0 : Nat) (L : WL) (s : WS) (n g : Int) (w : World) (h : WorkIs b0 L s w) (hf : ∀ x ∈ s.now, fewV x.f2) : Calls Try.prog 21 #[.pointer (some ⟨L.wb, 0, none⟩), .agg #[.int .i64 n, .int .i64 g]] w fun e w' => ∃ a4 n4 a5 n5, e = .returned (.tuple #[.agg #[.int .i64 (getW s n g).f0, .int .i64 (getW s n g).f1, .int .i64 (getW s n g).f2, .string (getW s n g).f3, .slice a4 (getW s n g).f4.length n4, .slice a5 (getW s n g).f5.length n5], .int .i64 (findE s n g)]) ∧ HasV (getW s n g) a4 n4 a5 n5 w' ∧ RowKit.Below w.heap.size w w' := by
 have hu35 := Try.underlying35
 have hu28 := Try.underlying28
 have hu69 := Try.underlying69
 have hl := h.lt
 have H2 := A_ ((h.alloc (.cells #[.int .i64 n, .int .i64 g] 28)).alloc (.cells #[.int .i64 0, .int .i64 0, .int .i64 0, .string ⟨#[]⟩, .slice none 0 0, .slice none 0 0] 35))
 have SL := A_ (slot_calls b0 L s n g _ H2.out)
 have HB := A_ (below_alloc (below_alloc (RowKit.Below.refl w.heap.size w) (.cells #[.int .i64 n, .int .i64 g] 28)) (.cells #[.int .i64 0, .int .i64 0, .int .i64 0, .string ⟨#[]⟩, .slice none 0 0, .slice none 0 0] 35))
 have BX := A_ (blk_new (w.alloc (.cells #[.int .i64 n, .int .i64 g] 28)) (.cells #[.int .i64 0, .int .i64 0, .int .i64 0, .string ⟨#[]⟩, .slice none 0 0, .slice none 0 0] 35))
 simp only [World.size_alloc] at BX
 have hs2 : ((w.alloc (.cells #[.int .i64 n, .int .i64 g] 28)).alloc (.cells #[.int .i64 0, .int .i64 0, .int .i64 0, .string ⟨#[]⟩, .slice none 0 0, .slice none 0 0] 35)).heap.size = w.heap.size + 1 + 1 := by simp only [World.size_alloc]
 obtain ⟨z0, z1⟩ := box2 (blk_alloc (blk_new w (.cells #[.int .i64 n, .int .i64 g] 28)) (.cells #[.int .i64 0, .int .i64 0, .int .i64 0, .string ⟨#[]⟩, .slice none 0 0, .slice none 0 0] 35))
 rcases findE_cases s n g with hE | hE | hE
 · obtain ⟨i, rfl, hi1, hi2, hlv, hgg⟩ := findE_zero hE
   have hG : getW s i g = plain (s.now.getD i z69).f2 := by unfold getW; rw [if_pos hE, Int.toNat_natCast]
   rw [hG, hE]
   rw [hE, if_pos rfl, Int.toNat_natCast] at SL
   have HFX := A_ (hf _ (getD_mem s.now i hi2 z69))
   have hi3 : i < L.rs.length := by rw [← h.len]; exact hi2
   obtain ⟨p, hp⟩ : ∃ p, p = plain (s.now.getD i z69).f2 := ⟨_, rfl⟩
   rw [← hp]
   have HPP := A_ hp
   clear hf h hG hE hlv hgg hi1 hp
   go_enter Try.func21, Try.ntmps21
   go_wp2_with fail
   refine Calls.mono SL.out ?_
   rintro e w1 ⟨rfl, hb⟩
   have H3 := A_ (H2.out.below hb)
   obtain ⟨y, hy, hyx, hym, s0, s1, s2, s3, s4, s5, s6, s7⟩ := H3.out.slot i hi3
   rw [← hyx] at HFX HPP
   have BX1 := A_ (blk_below BX.out hb)
   have HB1 := A_ (below_step HB.out hb)
   have hs1 : w.heap.size + 1 < w1.heap.size := by have := hb.size; omega
   have KP := A_ (K_plainF y.x.f2 y.a4 y.c4 y.a5 y.c5 w1 HFX.out (FV.has (H3.out.2.2.2.2.2.2.1 y hym)))
   rw [← HPP.out] at KP
   clear hb H2 SL hy hyx HPP HB BX z0 z1
   have hs1b := hs1
   go_wp2_with fail
   refine Calls.mono KP.out ?_
   rintro e w2 ⟨a4, n4, a5, n5, rfl, hv, hb⟩
   have HVF := A_ hv
   have BX2 := A_ (blk_below BX1.out hb)
   have HB2 := A_ (HB1.out.trans (hb.mono HB1.out.size))
   clear hb hv s0 s1 s2 s3 s4 s5 s6 s7 KP
   obtain ⟨u0, u1, u2, u3, u4, u5⟩ := box35 BX2.out
   have t0 := frz BX2.out (n := 0)
   have t1 := frz BX2.out (n := 1)
   have t2 := frz BX2.out (n := 2)
   have t3 := frz BX2.out (n := 3)
   have t4 := frz BX2.out (n := 4)
   have t5 := frz BX2.out (n := 5)
   go_wp2
   have BF := A_ (six_set (c0 := .int .i64 p.f0) (c1 := .int .i64 p.f1) (c2 := .int .i64 p.f2) (c3 := .string p.f3) (c4 := .slice a4 p.f4.length n4) (c5 := .slice a5 p.f5.length n5) BX2.out)
   have LF := A_ (RowKit.Below.setCell (RowKit.Below.setCell (RowKit.Below.setCell (RowKit.Below.setCell (RowKit.Below.setCell (RowKit.Below.setCell (HB2.out) (p := ⟨w.heap.size + 1, 0, none⟩) (by show w.heap.size ≤ w.heap.size + 1; omega) (.int .i64 p.f0)) (p := ⟨w.heap.size + 1, 1, none⟩) (by show w.heap.size ≤ w.heap.size + 1; omega) (.int .i64 p.f1)) (p := ⟨w.heap.size + 1, 2, none⟩) (by show w.heap.size ≤ w.heap.size + 1; omega) (.int .i64 p.f2)) (p := ⟨w.heap.size + 1, 3, none⟩) (by show w.heap.size ≤ w.heap.size + 1; omega) (.string p.f3)) (p := ⟨w.heap.size + 1, 4, none⟩) (by show w.heap.size ≤ w.heap.size + 1; omega) (.slice a4 p.f4.length n4)) (p := ⟨w.heap.size + 1, 5, none⟩) (by show w.heap.size ≤ w.heap.size + 1; omega) (.slice a5 p.f5.length n5))
   have HF := A_ (FV.has (FV.kept HVF.out (Kept.setCell (Kept.setCell (Kept.setCell (Kept.setCell (Kept.setCell (Kept.setCell (Kept.refl (w2) (fun k => k = (w.heap.size + 1))) (p := ⟨(w.heap.size + 1), 0, none⟩) (.inl rfl) (.int .i64 p.f0)) (p := ⟨(w.heap.size + 1), 1, none⟩) (.inl rfl) (.int .i64 p.f1)) (p := ⟨(w.heap.size + 1), 2, none⟩) (.inl rfl) (.int .i64 p.f2)) (p := ⟨(w.heap.size + 1), 3, none⟩) (.inl rfl) (.string p.f3)) (p := ⟨(w.heap.size + 1), 4, none⟩) (.inl rfl) (.slice a4 p.f4.length n4)) (p := ⟨(w.heap.size + 1), 5, none⟩) (.inl rfl) (.slice a5 p.f5.length n5)) (fun k hk e => by have hk : w1.heap.size ≤ k := hk; have e : k = w.heap.size + 1 := e; omega)))
   generalize ((((((w2.setCell ⟨w.heap.size + 1, 0, none⟩ (.int .i64 p.f0)).setCell ⟨w.heap.size + 1, 1, none⟩ (.int .i64 p.f1)).setCell ⟨w.heap.size + 1, 2, none⟩ (.int .i64 p.f2)).setCell ⟨w.heap.size + 1, 3, none⟩ (.string p.f3)).setCell ⟨w.heap.size + 1, 4, none⟩ (.slice a4 p.f4.length n4)).setCell ⟨w.heap.size + 1, 5, none⟩ (.slice a5 p.f5.length n5)) = WF at *
   clear u0 u1 u2 u3 u4 u5 t0 t1 t2 t3 t4 t5
   obtain ⟨r0, r1, r2, r3, r4, r5⟩ := box35 BF.out
   exact bodyPost_ret (v := .tuple #[.agg #[.int .i64 p.f0, .int .i64 p.f1, .int .i64 p.f2, .string p.f3, .slice a4 p.f4.length n4, .slice a5 p.f5.length n5], .int .i64 0]) (by simp [results, Try.results21, go_sem, r0, r1, r2, r3, r4, r5]) rfl ⟨_, _, _, _, rfl, HF.out, LF.out⟩
 · have hG : getW s n g = z35 := by unfold getW; rw [if_neg (by omega)]
   rw [hG, hE]
   rw [hE, if_neg (by decide)] at SL
   clear hf h hG hE H2
   go_enter Try.func21, Try.ntmps21
   go_wp2_with fail
   refine Calls.mono SL.out ?_
   rintro e w1 ⟨rfl, hb⟩
   have BX1 := A_ (blk_below BX.out hb)
   have HB1 := A_ (below_step HB.out hb)
   clear hb SL HB BX z0 z1
   obtain ⟨u0, u1, u2, u3, u4, u5⟩ := box35 BX1.out
   have t0 := frz BX1.out (n := 0)
   have t1 := frz BX1.out (n := 1)
   have t2 := frz BX1.out (n := 2)
   have t3 := frz BX1.out (n := 3)
   have t4 := frz BX1.out (n := 4)
   have t5 := frz BX1.out (n := 5)
   go_wp2
   have BF := A_ (six_set (c0 := .int .i64 0) (c1 := .int .i64 0) (c2 := .int .i64 0) (c3 := .string ⟨#[]⟩) (c4 := .slice none 0 0) (c5 := .slice none 0 0) BX1.out)
   have LF := A_ (RowKit.Below.setCell (RowKit.Below.setCell (RowKit.Below.setCell (RowKit.Below.setCell (RowKit.Below.setCell (RowKit.Below.setCell (HB1.out) (p := ⟨w.heap.size + 1, 0, none⟩) (by show w.heap.size ≤ w.heap.size + 1; omega) (.int .i64 0)) (p := ⟨w.heap.size + 1, 1, none⟩) (by show w.heap.size ≤ w.heap.size + 1; omega) (.int .i64 0)) (p := ⟨w.heap.size + 1, 2, none⟩) (by show w.heap.size ≤ w.heap.size + 1; omega) (.int .i64 0)) (p := ⟨w.heap.size + 1, 3, none⟩) (by show w.heap.size ≤ w.heap.size + 1; omega) (.string ⟨#[]⟩)) (p := ⟨w.heap.size + 1, 4, none⟩) (by show w.heap.size ≤ w.heap.size + 1; omega) (.slice none 0 0)) (p := ⟨w.heap.size + 1, 5, none⟩) (by show w.heap.size ≤ w.heap.size + 1; omega) (.slice none 0 0))
   generalize ((((((w1.setCell ⟨w.heap.size + 1, 0, none⟩ (.int .i64 0)).setCell ⟨w.heap.size + 1, 1, none⟩ (.int .i64 0)).setCell ⟨w.heap.size + 1, 2, none⟩ (.int .i64 0)).setCell ⟨w.heap.size + 1, 3, none⟩ (.string ⟨#[]⟩)).setCell ⟨w.heap.size + 1, 4, none⟩ (.slice none 0 0)).setCell ⟨w.heap.size + 1, 5, none⟩ (.slice none 0 0)) = WF at *
   clear u0 u1 u2 u3 u4 u5 t0 t1 t2 t3 t4 t5
   obtain ⟨r0, r1, r2, r3, r4, r5⟩ := box35 BF.out
   exact bodyPost_ret (v := .tuple #[.agg #[.int .i64 0, .int .i64 0, .int .i64 0, .string ⟨#[]⟩, .slice none 0 0, .slice none 0 0], .int .i64 12]) (by simp [results, Try.results21, go_sem, r0, r1, r2, r3, r4, r5]) rfl ⟨_, _, _, _, rfl, ⟨Nat.le_refl _, C35_nil _ _, Nat.le_refl _, C89_nil _ _⟩, LF.out⟩
 · have hG : getW s n g = z35 := by unfold getW; rw [if_neg (by omega)]
   rw [hG, hE]
   rw [hE, if_neg (by decide)] at SL
   clear hf h hG hE H2
   go_enter Try.func21, Try.ntmps21
   go_wp2_with fail
   refine Calls.mono SL.out ?_
   rintro e w1 ⟨rfl, hb⟩
   have BX1 := A_ (blk_below BX.out hb)
   have HB1 := A_ (below_step HB.out hb)
   clear hb SL HB BX z0 z1
   obtain ⟨u0, u1, u2, u3, u4, u5⟩ := box35 BX1.out
   have t0 := frz BX1.out (n := 0)
   have t1 := frz BX1.out (n := 1)
   have t2 := frz BX1.out (n := 2)
   have t3 := frz BX1.out (n := 3)
   have t4 := frz BX1.out (n := 4)
   have t5 := frz BX1.out (n := 5)
   go_wp2
   have BF := A_ (six_set (c0 := .int .i64 0) (c1 := .int .i64 0) (c2 := .int .i64 0) (c3 := .string ⟨#[]⟩) (c4 := .slice none 0 0) (c5 := .slice none 0 0) BX1.out)
   have LF := A_ (RowKit.Below.setCell (RowKit.Below.setCell (RowKit.Below.setCell (RowKit.Below.setCell (RowKit.Below.setCell (RowKit.Below.setCell (HB1.out) (p := ⟨w.heap.size + 1, 0, none⟩) (by show w.heap.size ≤ w.heap.size + 1; omega) (.int .i64 0)) (p := ⟨w.heap.size + 1, 1, none⟩) (by show w.heap.size ≤ w.heap.size + 1; omega) (.int .i64 0)) (p := ⟨w.heap.size + 1, 2, none⟩) (by show w.heap.size ≤ w.heap.size + 1; omega) (.int .i64 0)) (p := ⟨w.heap.size + 1, 3, none⟩) (by show w.heap.size ≤ w.heap.size + 1; omega) (.string ⟨#[]⟩)) (p := ⟨w.heap.size + 1, 4, none⟩) (by show w.heap.size ≤ w.heap.size + 1; omega) (.slice none 0 0)) (p := ⟨w.heap.size + 1, 5, none⟩) (by show w.heap.size ≤ w.heap.size + 1; omega) (.slice none 0 0))
   generalize ((((((w1.setCell ⟨w.heap.size + 1, 0, none⟩ (.int .i64 0)).setCell ⟨w.heap.size + 1, 1, none⟩ (.int .i64 0)).setCell ⟨w.heap.size + 1, 2, none⟩ (.int .i64 0)).setCell ⟨w.heap.size + 1, 3, none⟩ (.string ⟨#[]⟩)).setCell ⟨w.heap.size + 1, 4, none⟩ (.slice none 0 0)).setCell ⟨w.heap.size + 1, 5, none⟩ (.slice none 0 0)) = WF at *
   clear u0 u1 u2 u3 u4 u5 t0 t1 t2 t3 t4 t5
   obtain ⟨r0, r1, r2, r3, r4, r5⟩ := box35 BF.out
   exact bodyPost_ret (v := .tuple #[.agg #[.int .i64 0, .int .i64 0, .int .i64 0, .string ⟨#[]⟩, .slice none 0 0, .slice none 0 0], .int .i64 13]) (by simp [results, Try.results21, go_sem, r0, r1, r2, r3, r4, r5]) rfl ⟨_, _, _, _, rfl, ⟨Nat.le_refl _, C35_nil _ _, Nat.le_refl _, C89_nil _ _⟩, LF.out⟩
end Go.Proofs.Ytogpnkkoablmiaa.V
end
section
namespace Go.Proofs.Ytogpnkkoablmiaa.V
open Go.Proofs.Ytogpnkkoablmiaa.P Go.Shelf Go.RowKit Go.Lib Go.Sort Go.Proofs.Ytogpnkkoablmiaa.Q Go.Proofs.YtogpnkkoablmiaaW.PrintWords Go.Proofs.YtogpnkkoablmiaaW.PrintLast Go.Proofs.YtogpnkkoablmiaaW.PrintMore
set_option linter.unusedVariables false
set_option linter.unusedSimpArgs false
attribute [local go_sem high] eqA28
set_option maxHeartbeats 8000000 in
set_option maxRecDepth 100000 in
theorem wroot_calls (b0 : Nat) (L : WL) (s : WS) (w : World) (h : WorkIs b0 L s w) : Calls Try.prog 31 #[.pointer (some ⟨L.wb, 0, none⟩)] w fun e w' => e = .returned (.agg #[.int .i64 s.rn, .int .i64 s.rg]) ∧ RowKit.Below w.heap.size w w' := by
 have hu28 := Try.underlying28
 have hu120 := Try.underlying120
 have hu123 := Try.underlying123
 have hl := h.lt.1
 have HB := A_ (below_alloc (RowKit.Below.refl w.heap.size w) (.cells #[.int .i64 0, .int .i64 0] 28))
 obtain ⟨-, k1, k2, -⟩ := (h.alloc (.cells #[.int .i64 0, .int .i64 0] 28)).box
 have BX := A_ (blk_new w (.cells #[.int .i64 0, .int .i64 0] 28))
 obtain ⟨z0, z1⟩ := box2 BX.out
 have f0 := blk_frozen BX.out 0
 have f1 := blk_frozen BX.out 1
 clear h
 go_enter Try.func31, Try.ntmps31
 go_wp2
 obtain ⟨r0, r1⟩ := box2 (blk_new w (.cells #[.int .i64 s.rn, .int .i64 s.rg] 28))
 exact bodyPost_ret (v := .agg #[.int .i64 s.rn, .int .i64 s.rg]) (by simp [results, Try.results31, go_sem, r0, r1]) rfl ⟨rfl, below_alloc (RowKit.Below.refl _ _) _⟩
def rootW (s : WS) (n g : Int) : WS := if findE s n g = 0 ∨ (n = 0 ∧ g = 0) then { s with rn := n, rg := g } else s
def rootE (s : WS) (n g : Int) : Int := if n = 0 ∧ g = 0 then 0 else findE s n g
set_option maxHeartbeats 8000000 in
set_option maxRecDepth 100000 in
theorem wsetroot_calls (b0 : Nat) (L : WL) (s : WS) (n g : Int) (w : World) (h : WorkIs b0 L s w) (h0 : b0 ≤ w.heap.size) : Calls Try.prog 96 #[.pointer (some ⟨L.wb, 0, none⟩), .agg #[.int .i64 n, .int .i64 g]] w fun e w' => e = .returned (.int .i64 (rootE s n g)) ∧ WorkIs b0 L (rootW s n g) w' ∧ Moves b0 L.S w w' := by
 have hu28 := Try.underlying28
 have hu120 := Try.underlying120
 have hu123 := Try.underlying123
 have hl := h.lt.1
 have H1 := A_ (h.alloc (.cells #[.int .i64 n, .int .i64 g] 28))
 have SL := A_ (slot_calls b0 L s n g _ H1.out)
 have MV := A_ ((Moves.refl b0 L.S w).alloc h0 (.cells #[.int .i64 n, .int .i64 g] 28))
 have BX := A_ (blk_new w (.cells #[.int .i64 n, .int .i64 g] 28))
 obtain ⟨z0, z1⟩ := box2 BX.out
 clear h
 have fin1 : ∀ w1, RowKit.Below (w.alloc (.cells #[.int .i64 n, .int .i64 g] 28)).heap.size (w.alloc (.cells #[.int .i64 n, .int .i64 g] 28)) w1 → WorkIs b0 L s w1 ∧ Moves b0 L.S w w1 := fun w1 hb => ⟨H1.out.below hb, MV.out.below h0 hb⟩
 have FIN := A_ fin1
 clear fin1
 by_cases hr : n = 0 ∧ g = 0
 · obtain ⟨rfl, rfl⟩ := hr
   have hE : findE s 0 0 = 12 := by unfold findE; rw [if_pos (.inl (by omega))]
   have hR : rootE s 0 0 = 0 := by unfold rootE; rw [if_pos ⟨rfl, rfl⟩]
   have hW : rootW s 0 0 = { s with rn := 0, rg := 0 } := by unfold rootW; rw [if_pos (.inr ⟨rfl, rfl⟩)]
   rw [hR, hW]
   rw [hE, if_neg (by decide)] at SL
   clear hE hR hW
   go_enter Try.func96, Try.ntmps96
   go_wp2_with fail
   refine Calls.mono SL.out ?_
   rintro e w1 ⟨rfl, hb⟩
   have hl1 : L.wb < w1.heap.size := Nat.lt_of_lt_of_le (Nat.lt_of_lt_of_le hl (by rw [World.size_alloc]; omega)) hb.size
   have hw1 : w.heap.size < w1.heap.size := by have := hb.size; rw [World.size_alloc] at this; omega
   obtain ⟨z2, z3⟩ := box2 (blk_below BX.out hb)
   have FF := A_ (FIN.out w1 hb)
   have f1 := FF.out.1.frz 1
   have f2 := FF.out.1.frz 2
   obtain ⟨k0, k1, k2, -⟩ := FF.out.1.box
   clear hb SL z0 z1 H1 MV BX FIN
   go_wp2
   have RS := A_ (FF.out.1.setRoot 0 0)
   go_ret
   exact ⟨rfl, RS.out.1, FF.out.2.then_ RS.out.2 (fun k hk => .inl hk)⟩
 have hR : rootE s n g = findE s n g := by unfold rootE; rw [if_neg hr]
 rw [hR]
 rcases findE_cases s n g with hE | hE | hE
 · have hW : rootW s n g = { s with rn := n, rg := g } := by unfold rootW; rw [if_pos (.inl hE)]
   rw [hW, hE]
   rw [hE, if_pos rfl] at SL
   clear hE hR hW
   go_enter Try.func96, Try.ntmps96
   go_wp2_with fail
   refine Calls.mono SL.out ?_
   rintro e w1 ⟨rfl, hb⟩
   have hl1 : L.wb < w1.heap.size := Nat.lt_of_lt_of_le (Nat.lt_of_lt_of_le hl (by rw [World.size_alloc]; omega)) hb.size
   have hw1 : w.heap.size < w1.heap.size := by have := hb.size; rw [World.size_alloc] at this; omega
   obtain ⟨z2, z3⟩ := box2 (blk_below BX.out hb)
   have FF := A_ (FIN.out w1 hb)
   have f1 := FF.out.1.frz 1
   have f2 := FF.out.1.frz 2
   obtain ⟨k0, k1, k2, -⟩ := FF.out.1.box
   clear hb SL z0 z1 H1 MV BX FIN
   go_wp2
   have RS := A_ (FF.out.1.setRoot n g)
   go_ret
   exact ⟨rfl, RS.out.1, FF.out.2.then_ RS.out.2 (fun k hk => .inl hk)⟩
 · have hW : rootW s n g = s := by unfold rootW; rw [if_neg (fun o => o.elim (fun a => by omega) hr)]
   rw [hW, hE]
   rw [hE, if_neg (by decide)] at SL
   clear hE hR hW
   go_enter Try.func96, Try.ntmps96
   go_wp2_with fail
   refine Calls.mono SL.out ?_
   rintro e w1 ⟨rfl, hb⟩
   obtain ⟨z2, z3⟩ := box2 (blk_below BX.out hb)
   have FF := A_ (FIN.out w1 hb)
   clear hb SL z0 z1 H1 MV BX FIN
   go_upto_if 23 with fail
   rw [show (!(n == 0) || !(g == 0)) = true by rcases Int.decEq n 0 with h1 | h1 <;> rcases Int.decEq g 0 with h2 | h2 <;> simp_all]
   go_wp2
   go_ret
   exact ⟨rfl, FF.out.1, FF.out.2⟩
 · have hW : rootW s n g = s := by unfold rootW; rw [if_neg (fun o => o.elim (fun a => by omega) hr)]
   rw [hW, hE]
   rw [hE, if_neg (by decide)] at SL
   clear hE hR hW
   go_enter Try.func96, Try.ntmps96
   go_wp2_with fail
   refine Calls.mono SL.out ?_
   rintro e w1 ⟨rfl, hb⟩
   obtain ⟨z2, z3⟩ := box2 (blk_below BX.out hb)
   have FF := A_ (FIN.out w1 hb)
   clear hb SL z0 z1 H1 MV BX FIN
   go_upto_if 23 with fail
   rw [show (!(n == 0) || !(g == 0)) = true by rcases Int.decEq n 0 with h1 | h1 <;> rcases Int.decEq g 0 with h2 | h2 <;> simp_all]
   go_wp2
   go_ret
   exact ⟨rfl, FF.out.1, FF.out.2⟩
def GenOk (s : WS) : Prop := ∀ x ∈ s.now, 0 ≤ x.f0 ∧ x.f0 ≤ 65535
def delW (s : WS) (n g : Int) : WS := if findE s n g = 0 then { s with now := s.now.set n.toNat ⟨min (g + 1) 65535, false, z35⟩ } else s
def DelPost (b0 : Nat) (L : WL) (s' : WS) (w w' : World) : Prop := ∃ L', L'.wb = L.wb ∧ L'.g = L.g ∧ WorkIs b0 L' s' w' ∧ Moves b0 L.S w w' ∧ L'.z = L.z
set_option maxHeartbeats 8000000 in
set_option maxRecDepth 100000 in
theorem wdelete_calls (b0 : Nat) (L : WL) (s : WS) (n g : Int) (w : World) (h : WorkIs b0 L s w) (h0 : b0 ≤ w.heap.size) (hG : GenOk s) : Calls Try.prog 23 #[.pointer (some ⟨L.wb, 0, none⟩), .agg #[.int .i64 n, .int .i64 g]] w fun e w' => e = .returned (.int .i64 (findE s n g)) ∧ DelPost b0 L (delW s n g) w w' := by
 have hu28 := Try.underlying28
 have hu35 := Try.underlying35
 have hu69 := Try.underlying69
 have hl := h.lt
 have H1 := A_ (h.alloc (.cells #[.int .i64 n, .int .i64 g] 28))
 have SL := A_ (slot_calls b0 L s n g _ H1.out)
 have MV := A_ ((Moves.refl b0 L.S w).alloc h0 (.cells #[.int .i64 n, .int .i64 g] 28))
 have BX := A_ (blk_new w (.cells #[.int .i64 n, .int .i64 g] 28))
 obtain ⟨z0, z1⟩ := box2 BX.out
 have FIN := A_ (fun w1 (hb : RowKit.Below (w.alloc (.cells #[.int .i64 n, .int .i64 g] 28)).heap.size (w.alloc (.cells #[.int .i64 n, .int .i64 g] 28)) w1) => (⟨H1.out.below hb, MV.out.below h0 hb⟩ : WorkIs b0 L s w1 ∧ Moves b0 L.S w w1))
 rcases findE_cases s n g with hE | hE | hE
 · obtain ⟨i, rfl, hi1, hi2, hlv, hgg⟩ := findE_zero hE
   have hW : delW s i g = { s with now := s.now.set i ⟨min (g + 1) 65535, false, z35⟩ } := by unfold delW; rw [if_pos hE, Int.toNat_natCast]
   rw [hW, hE]
   rw [hE, if_pos rfl, Int.toNat_natCast] at SL
   have hgb := hG _ (getD_mem s.now i hi2 z69)
   rw [hgg] at hgb
   have hi3 : i < L.rs.length := by rw [← h.len]; exact hi2
   have HGG := A_ hgg
   obtain ⟨g', hg'⟩ : ∃ g', g' = min (g + 1) 65535 := ⟨_, rfl⟩
   rw [← hg']
   have hwr : wrap64 (g + 1) = g + 1 := by unfold wrap64; omega
   clear hE hW hG hlv hi1 hgg
   go_enter Try.func23, Try.ntmps23
   go_wp2_with fail
   refine Calls.mono SL.out ?_
   rintro e w1 ⟨rfl, hb⟩
   have FF := A_ (FIN.out w1 hb)
   obtain ⟨y, hy, hyx, hym, s0, s1, s2, s3, s4, s5, s6, s7⟩ := FF.out.1.slot i hi3
   have hy0 : y.x.f0 = g := by rw [hyx]; exact HGG.out
   rw [hy0] at s0
   have hfz := FF.out.1.2.2.2.2.1.frozenAt
   have fz0 := hfz (i * 8)
   have fz1 := hfz (i * 8 + 1)
   have fz2 := hfz (i * 8 + 2)
   have fz3 := hfz (i * 8 + 3)
   have fz4 := hfz (i * 8 + 4)
   have fz5 := hfz (i * 8 + 5)
   have fz6 := hfz (i * 8 + 6)
   have fz7 := hfz (i * 8 + 7)
   have ST := A_ (FF.out.1.store i hi3 ⟨⟨g', false, z35⟩, none, 0, none, 0⟩ 0 (encS ⟨⟨g', false, z35⟩, none, 0, none, 0⟩) (by simp [encS]) (by simp [encS]) (FV.nil _ _ _ rfl rfl))
   clear hb SL z0 z1 H1 MV BX FIN hy hyx hym hy0 hfz HGG h
   go_wp2
   subst hg'
   go_ret
   exact ⟨rfl, { L with rs := L.rs.set i ⟨⟨min (g + 1) 65535, false, z35⟩, none, 0, none, 0⟩ }, rfl, rfl, ST.out.1, FF.out.2.then_ ST.out.2 (fun k hk => .inl hk), rfl⟩
 · have hW : delW s n g = s := by unfold delW; rw [if_neg (by omega)]
   rw [hW, hE]
   rw [hE, if_neg (by decide)] at SL
   clear hE hW
   go_enter Try.func23, Try.ntmps23
   go_wp2_with fail
   refine Calls.mono SL.out ?_
   rintro e w1 ⟨rfl, hb⟩
   have FF := A_ (FIN.out w1 hb)
   clear hb SL z0 z1 H1 MV BX FIN
   go_wp2
   go_ret
   exact ⟨rfl, L, rfl, rfl, FF.out.1, FF.out.2, rfl⟩
 · have hW : delW s n g = s := by unfold delW; rw [if_neg (by omega)]
   rw [hW, hE]
   rw [hE, if_neg (by decide)] at SL
   clear hE hW
   go_enter Try.func23, Try.ntmps23
   go_wp2_with fail
   refine Calls.mono SL.out ?_
   rintro e w1 ⟨rfl, hb⟩
   have FF := A_ (FIN.out w1 hb)
   clear hb SL z0 z1 H1 MV BX FIN
   go_wp2
   go_ret
   exact ⟨rfl, L, rfl, rfl, FF.out.1, FF.out.2, rfl⟩
def resK (key : ByteArray) : Bool := decide (key.toList = ByteArray.toList ⟨#[76, 101, 110, 103, 116, 104]⟩) || decide (key.toList = ByteArray.toList ⟨#[70, 105, 108, 116, 101, 114]⟩) || decide (key.toList = ByteArray.toList ⟨#[68, 101, 99, 111, 100, 101, 80, 97, 114, 109, 115]⟩)
set_option maxHeartbeats 4000000 in
set_option maxRecDepth 100000 in
theorem res138 (key : ByteArray) (w : World) : Calls Try.prog 138 #[.string key] w fun e w' => e = .returned (.bool (resK key)) ∧ w' = w := by
 go_enter Try.func138, Try.ntmps138
 go_wp2
 all_goals
  go_ret
  refine ⟨ret_b ?_, rfl⟩
  unfold resK
  first | (simp [*]; done) | (simp [*]; rw [Bool.eq_iff_iff]; simp)
set_option maxHeartbeats 4000000 in
set_option maxRecDepth 100000 in
theorem res137 (x : S89) (P4 : Option Addr) (p4 : Nat) (P5 : Option Addr) (p5 : Nat) (w : World) : Calls Try.prog 137 #[.agg #[.string x.f0, .int .i64 x.f1.f0, .int .i64 x.f1.f1, .int .i64 x.f1.f2, .string x.f1.f3, .slice P4 x.f1.f4.length p4, .slice P5 x.f1.f5.length p5]] w fun e w' => e = .returned (.bool (resK x.f0)) ∧ RowKit.Below w.heap.size w w' := by
 have hu89 := Try.underlying89
 have HB := A_ (below_alloc (RowKit.Below.refl w.heap.size w) (.cells #[.string x.f0, .int .i64 x.f1.f0, .int .i64 x.f1.f1, .int .i64 x.f1.f2, .string x.f1.f3, .slice P4 x.f1.f4.length p4, .slice P5 x.f1.f5.length p5] 89))
 go_enter Try.func137, Try.ntmps137
 go_wp2_with fail
 refine Calls.mono (res138 x.f0 _) ?_
 rintro e w1 ⟨rfl, rfl⟩
 go_wp2
 go_ret
 exact ⟨rfl, HB.out⟩
def resI (xs : List S89) : Bool := xs.any fun x => resK x.f0
set_option maxHeartbeats 8000000 in
set_option maxRecDepth 100000 in
theorem index_calls (xs : List S89) (A : Option Addr) (c : Nat) (w : World) (hR : k89.C w A xs.length xs) : Calls Try.prog 170 #[.slice A xs.length c, .func (.func 137) #[] #[]] w fun e w' => ∃ r : Int, e = .returned (.int .i64 r) ∧ decide (0 ≤ r) = resI xs ∧ RowKit.Below w.heap.size w w' := by
 have hu33 := Try.underlying33
 have hu89 := Try.underlying89
 have HR := A_ hR
 have hmx := Kd.C_max hR
 have HMX := A_ hmx
 obtain ⟨N, hN⟩ : ∃ N, N = xs.length := ⟨_, rfl⟩
 rw [← hN]
 have HN := A_ hN
 clear hR hmx hN
 go_enter Try.func170, Try.ntmps170
 go_wp2
 go_loopw [8] (fun i wr => ∃ k : Nat, k ≤ N ∧ i = .int .i64 k ∧ Aside0 (RowKit.Below w.heap.size w wr) ∧ Aside0 ((xs.take k).any (fun x => resK x.f0) = false)) (fun i _ => N - (intOf i).toNat)
 case atStart => exact ⟨0, Nat.zero_le _, rfl, ⟨RowKit.Below.refl _ _⟩, ⟨by simp⟩⟩
 case round =>
  obtain ⟨k, hk, rfl, HB, HT⟩ := hrel
  by_cases hlt : k < N
  · obtain ⟨ad, P4, p4, P5, p5, rfl, x0, x1, x2, x3, x4, x5, x6, lp4, gp4, lp5, gp5⟩ := at89 (Kd.C_below HR.out HB.out) k (by have := HN.out; omega)
    replace x0 := x0 ⟨wr, RowKit.Below.refl _ _⟩
    replace x1 := x1 ⟨wr, RowKit.Below.refl _ _⟩
    replace x2 := x2 ⟨wr, RowKit.Below.refl _ _⟩
    replace x3 := x3 ⟨wr, RowKit.Below.refl _ _⟩
    replace x4 := x4 ⟨wr, RowKit.Below.refl _ _⟩
    replace x5 := x5 ⟨wr, RowKit.Below.refl _ _⟩
    replace x6 := x6 ⟨wr, RowKit.Below.refl _ _⟩
    simp only [] at x0 x1 x2 x3 x4 x5 x6
    have HTK := A_ (show (xs.take (k + 1)).any (fun x => resK x.f0) = ((xs.take k).any (fun x => resK x.f0) || resK (xs.getD k z89).f0) by
     rw [List.take_succ_eq_append_getElem (by have := HN.out; omega), List.getD_eq_getElem?_getD, List.getElem?_eq_getElem (by have := HN.out; omega), List.any_append]; simp only [List.any_cons, List.any_nil, Bool.or_false]; rfl)
    have HMem := A_ (getD_mem xs k (by have := HN.out; omega) z89)
    generalize xs.getD k z89 = x at *
    have hwk : wrap64 ((k : Int) + 1) = (k : Int) + 1 := by have := HMX.out; have := HN.out; unfold wrap64; omega
    have HWK := A_ hwk
    have hNm : N ≤ 9223372036854775807 := by have := HMX.out; have := HN.out; omega
    clear lp4 gp4 lp5 gp5 hwk
    go_wp2_with fail
    refine Calls.mono (res137 x P4 p4 P5 p5 _) ?_
    rintro e w1 ⟨rfl, hb⟩
    have HB1 := A_ (HB.out.trans (hb.mono HB.out.size))
    clear hb x0 x1 x2 x3 x4 x5 x6
    cases hr : resK x.f0
    · have hT2 : (xs.take (k + 1)).any (fun x => resK x.f0) = false := by rw [HTK.out, HT.out, hr]; rfl
      have HT2 := A_ hT2
      clear hT2 hr
      go_wp2
      exact ⟨⟨k + 1, by omega, by first | (rw [HWK.out]; simp; done) | (simp; done), HB1, HT2⟩, by first | (rw [HWK.out]; simp [intOf]; omega) | (simp [intOf]; omega)⟩
    · have hA : resI xs = true := by unfold resI; rw [List.any_eq_true]; exact ⟨x, HMem.out, hr⟩
      have HA := A_ hA
      clear hA hr
      go_wp2
      go_ret
      exact ⟨k, rfl, by rw [HA.out]; simp, HB1.out⟩
  · obtain rfl : N = k := by omega
    have hT : resI xs = false := by have h := HT.out; rw [List.take_of_length_le (by have := HN.out; omega)] at h; exact h
    have HA := A_ hT
    clear hT
    go_wp2
    go_ret
    exact ⟨-1, rfl, by rw [HA.out]; rfl, HB.out⟩
set_option maxHeartbeats 4000000 in
set_option maxRecDepth 100000 in
theorem contains_calls (xs : List S89) (A : Option Addr) (c : Nat) (w : World) (hR : k89.C w A xs.length xs) : Calls Try.prog 136 #[.slice A xs.length c, .func (.func 137) #[] #[]] w fun e w' => e = .returned (.bool (resI xs)) ∧ RowKit.Below w.heap.size w w' := by
 have H := A_ (index_calls xs A c w hR)
 clear hR
 go_enter Try.func136, Try.ntmps136
 go_wp2_with fail
 refine Calls.mono H.out ?_
 rintro e w1 ⟨r, rfl, hr, hb⟩
 have HR := A_ hr
 have HB := A_ hb
 clear hr hb
 go_wp2
 go_ret
 exact ⟨ret_b HR.out, HB.out⟩
def resV (v : S35) : Bool := decide (v.f0 = 8) && resI v.f5
set_option maxHeartbeats 4000000 in
set_option maxRecDepth 100000 in
theorem reserved_calls (v : S35) (A4 : Option Addr) (c4 : Nat) (A5 : Option Addr) (c5 : Nat) (w : World) (h : HasV v A4 c4 A5 c5 w) : Calls Try.prog 89 #[.agg #[.int .i64 v.f0, .int .i64 v.f1, .int .i64 v.f2, .string v.f3, .slice A4 v.f4.length c4, .slice A5 v.f5.length c5]] w fun e w' => e = .returned (.bool (resV v)) ∧ RowKit.Below w.heap.size w w' := by
 have hu35 := Try.underlying35
 have H := A_ (fun W (hb : RowKit.Below w.heap.size w W) => contains_calls v.f5 A5 c5 W (Kd.C_below h.2.2.2 hb))
 have HB := A_ (below_alloc (RowKit.Below.refl w.heap.size w) (.cells #[.int .i64 v.f0, .int .i64 v.f1, .int .i64 v.f2, .string v.f3, .slice A4 v.f4.length c4, .slice A5 v.f5.length c5] 35))
 obtain ⟨u0, u1, u2, u3, u4, u5⟩ := box35 (blk_new w (.cells #[.int .i64 v.f0, .int .i64 v.f1, .int .i64 v.f2, .string v.f3, .slice A4 v.f4.length c4, .slice A5 v.f5.length c5] 35))
 clear h
 go_enter Try.func89, Try.ntmps89
 go_wp2_with fail
 · refine Calls.mono (H.out _ (below_alloc (RowKit.Below.refl _ w) _)) ?_
   rintro e w1 ⟨rfl, hb⟩
   have HB1 := A_ (below_step (below_alloc (RowKit.Below.refl w.heap.size w) _) hb)
   clear hb
   go_wp2
   go_ret
   refine ⟨ret_b ?_, HB1.out⟩
   unfold resV
   simp [*]
 · go_ret
   refine ⟨ret_b ?_, HB.out⟩
   unfold resV
   simp [*]
end Go.Proofs.Ytogpnkkoablmiaa.V
end
section
namespace Go.Proofs.Ytogpnkkoablmiaa.V
open Go.Proofs.Ytogpnkkoablmiaa.P Go.Shelf Go.RowKit Go.Lib Go.Sort Go.Proofs.Ytogpnkkoablmiaa.Q Go.Proofs.YtogpnkkoablmiaaW.PrintWords Go.Proofs.YtogpnkkoablmiaaW.PrintLast Go.Proofs.YtogpnkkoablmiaaW.PrintMore
set_option linter.unusedVariables false
set_option linter.unusedSimpArgs false
attribute [local go_sem high] eqA28
attribute [local go_sem] nzv_ne nzv_beq nzv_bne
def putE (s : WS) (n g : Int) (v : S35) : Int := if findE s n g ≠ 0 then findE s n g else if chkV v true 0 ≠ 0 then chkV v true 0 else if resV (plain v) = true then 11 else 0
def putW (s : WS) (n g : Int) (v : S35) : WS := if putE s n g v = 0 then { s with now := s.now.set n.toNat ⟨g, true, plain v⟩ } else s
theorem MOV {b0 : Nat} {L : WL} {s : WS} {w W W' : World} (h0 : b0 ≤ w.heap.size) (h : WorkIs b0 L s W ∧ Moves b0 L.S w W) (hb : RowKit.Below W.heap.size W W') : WorkIs b0 L s W' ∧ Moves b0 L.S w W' := ⟨h.1.below hb, h.2.below h0 hb⟩
set_option maxHeartbeats 8000000 in
set_option maxRecDepth 100000 in
theorem wput_calls (b0 : Nat) (L : WL) (s : WS) (n g : Int) (v : S35) (A4 : Option Addr) (c4 : Nat) (A5 : Option Addr) (c5 : Nat) (w : World) (h : WorkIs b0 L s w) (h0 : b0 ≤ w.heap.size) (hv : HasV v A4 c4 A5 c5 w) (hfv : fewV v) : Calls Try.prog 24 #[.pointer (some ⟨L.wb, 0, none⟩), .agg #[.int .i64 n, .int .i64 g], .agg #[.int .i64 v.f0, .int .i64 v.f1, .int .i64 v.f2, .string v.f3, .slice A4 v.f4.length c4, .slice A5 v.f5.length c5]] w fun e w' => e = .returned (.int .i64 (putE s n g v)) ∧ DelPost b0 L (putW s n g v) w w' := by
 have hu28 := Try.underlying28
 have hu35 := Try.underlying35
 have hu69 := Try.underlying69
 have hl := h.lt
 have FF := A_ (MOV h0 (MOV h0 (⟨h, Moves.refl b0 L.S w⟩ : WorkIs b0 L s w ∧ Moves b0 L.S w w) (below_alloc (RowKit.Below.refl _ w) (.cells #[.int .i64 n, .int .i64 g] 28))) (below_alloc (RowKit.Below.refl _ (w.alloc (.cells #[.int .i64 n, .int .i64 g] 28))) (.cells #[.int .i64 v.f0, .int .i64 v.f1, .int .i64 v.f2, .string v.f3, .slice A4 v.f4.length c4, .slice A5 v.f5.length c5] 35)))
 have HV := A_ (hv.below (below_alloc (below_alloc (RowKit.Below.refl w.heap.size w) (.cells #[.int .i64 n, .int .i64 g] 28)) (.cells #[.int .i64 v.f0, .int .i64 v.f1, .int .i64 v.f2, .string v.f3, .slice A4 v.f4.length c4, .slice A5 v.f5.length c5] 35)))
 have BV := A_ (blk_new (w.alloc (.cells #[.int .i64 n, .int .i64 g] 28)) (.cells #[.int .i64 v.f0, .int .i64 v.f1, .int .i64 v.f2, .string v.f3, .slice A4 v.f4.length c4, .slice A5 v.f5.length c5] 35))
 simp only [World.size_alloc] at BV
 have SL := A_ (slot_calls b0 L s n g _ FF.out.1)
 obtain ⟨z0, z1⟩ := box2 (blk_alloc (blk_new w (.cells #[.int .i64 n, .int .i64 g] 28)) (.cells #[.int .i64 v.f0, .int .i64 v.f1, .int .i64 v.f2, .string v.f3, .slice A4 v.f4.length c4, .slice A5 v.f5.length c5] 35))
 have hs2 : ((w.alloc (.cells #[.int .i64 n, .int .i64 g] 28)).alloc (.cells #[.int .i64 v.f0, .int .i64 v.f1, .int .i64 v.f2, .string v.f3, .slice A4 v.f4.length c4, .slice A5 v.f5.length c5] 35)).heap.size = w.heap.size + 1 + 1 := by simp only [World.size_alloc]
 have FVV := A_ hfv
 clear hfv hv
 rcases findE_cases s n g with hE | hE | hE
 · obtain ⟨i, rfl, hi1, hi2, hlv, hgg⟩ := findE_zero hE
   have hi3 : i < L.rs.length := by rw [← h.len]; exact hi2
   have HGG := A_ (And.intro hlv hgg)
   rw [hE, if_pos rfl, Int.toNat_natCast] at SL
   obtain ⟨pe, hpe⟩ : ∃ pe, pe = putE s i g v := ⟨_, rfl⟩
   obtain ⟨pw, hpw⟩ : ∃ pw, pw = putW s i g v := ⟨_, rfl⟩
   rw [← hpe, ← hpw]
   have HPE := A_ (show pe = if chkV v true 0 ≠ 0 then chkV v true 0 else if resV (plain v) = true then 11 else 0 by rw [hpe]; unfold putE; rw [if_neg (by omega)])
   have HPW := A_ (show pw = if pe = 0 then { s with now := s.now.set i ⟨g, true, plain v⟩ } else s by rw [hpw, hpe]; unfold putW; rw [Int.toNat_natCast])
   clear hpe hpw hE h hi1 hlv hgg hi2
   go_enter Try.func24, Try.ntmps24
   go_wp2_with fail
   refine Calls.mono SL.out ?_
   rintro e w1 ⟨rfl, hb⟩
   replace FF := A_ (MOV h0 FF.out hb)
   replace HV := A_ (HV.out.below hb)
   replace BV := A_ (blk_below BV.out hb)
   have hw1 : w.heap.size + 1 < w1.heap.size := by have := hb.size; omega
   clear hb SL z0 z1
   obtain ⟨u0, u1, u2, u3, u4, u5⟩ := box35 BV.out
   go_wp2_with fail
   have KC := K_check v A4 c4 A5 c5 true w1 HV.out
   by_cases hcv : chkV v true 0 = 0
   · rw [hcv] at KC
     rw [hcv, if_neg (by decide)] at HPE
     refine Calls.mono KC ?_
     rintro e w2 ⟨rfl, hb⟩
     clear u0 u1 u2 u3 u4 u5 hcv
     replace FF := A_ (MOV h0 FF.out hb)
     replace HV := A_ (HV.out.below hb)
     replace BV := A_ (blk_below BV.out hb)
     have hw2 : w.heap.size + 1 < w2.heap.size := by have := hb.size; omega
     clear hb KC
     obtain ⟨u0, u1, u2, u3, u4, u5⟩ := box35 BV.out
     have KP := A_ (K_plainF v A4 c4 A5 c5 w2 FVV.out HV.out)
     obtain ⟨p, hp⟩ : ∃ p, p = plain v := ⟨_, rfl⟩
     rw [← hp] at KP HPE HPW
     clear hp
     go_wp2_with fail
     refine Calls.mono KP.out ?_
     rintro e w3 ⟨a4, n4, a5, n5, rfl, hpv, hb⟩
     have HS := A_ (show ∀ k, w2.heap.size ≤ k → ¬ L.N k by
      rintro k hk ((e | e) | e)
      · omega
      · omega
      · have := (FF.out.1.2.2.2.2.2.2.2.2.2 k e).1
        omega)
     replace FF := A_ (MOV h0 FF.out hb)
     have HPV := A_ (FV.mono hpv HS.out)
     have hw3 : w.heap.size + 1 < w3.heap.size := by have := hb.size; omega
     clear hb KP u0 u1 u2 u3 u4 u5 hpv HV BV
     go_upto_region 8 with fail
     replace FF := A_ (MOV h0 FF.out (below_alloc (RowKit.Below.refl _ w3) (.cells #[.int .i64 p.f0, .int .i64 p.f1, .int .i64 p.f2, .string p.f3, .slice a4 p.f4.length n4, .slice a5 p.f5.length n5] 35)))
     replace HPV := A_ (HPV.out.below (below_alloc (RowKit.Below.refl _ w3) (.cells #[.int .i64 p.f0, .int .i64 p.f1, .int .i64 p.f2, .string p.f3, .slice a4 p.f4.length n4, .slice a5 p.f5.length n5] 35)))
     have BP := A_ (blk_new w3 (.cells #[.int .i64 p.f0, .int .i64 p.f1, .int .i64 p.f2, .string p.f3, .slice a4 p.f4.length n4, .slice a5 p.f5.length n5] 35))
     have hlw : w3.heap.size < (w3.alloc (.cells #[.int .i64 p.f0, .int .i64 p.f1, .int .i64 p.f2, .string p.f3, .slice a4 p.f4.length n4, .slice a5 p.f5.length n5] 35)).heap.size := by simp
     generalize w3.alloc (.cells #[.int .i64 p.f0, .int .i64 p.f1, .int .i64 p.f2, .string p.f3, .slice a4 p.f4.length n4, .slice a5 p.f5.length n5] 35) = w4 at *
     obtain ⟨u0, u1, u2, u3, u4, u5⟩ := box35 BP.out
     have KR := reserved_calls p a4 n4 a5 n5 w4 HPV.out.has
     go_wp2_with fail
     cases hrv : resV p
     · rw [hrv] at KR HPE
       rw [if_neg (by decide)] at HPE
       have hp0 := HPE.out
       subst hp0
       have HPW2 := A_ (HPW.out.trans (if_pos rfl))
       refine Calls.mono KR ?_
       rintro e w5 ⟨rfl, hb⟩
       clear u0 u1 u2 u3 u4 u5
       replace FF := A_ (MOV h0 FF.out hb)
       replace HPV := A_ (HPV.out.below hb)
       replace BP := A_ (blk_below BP.out hb)
       have hlw5 : w3.heap.size < w5.heap.size := by have := hb.size; omega
       have hg5 : L.g < w3.heap.size := by omega
       clear hb KR HPE HPW hrv
       obtain ⟨u0, u1, u2, u3, u4, u5⟩ := box35 BP.out
       obtain ⟨y, hy, hyx, hym, s0, s1, s2, s3, s4, s5, s6, s7⟩ := FF.out.1.slot i hi3
       have hfz := FF.out.1.2.2.2.2.1.frozenAt
       have fz2 := hfz (i * 8 + 2)
       have fz3 := hfz (i * 8 + 3)
       have fz4 := hfz (i * 8 + 4)
       have fz5 := hfz (i * 8 + 5)
       have fz6 := hfz (i * 8 + 6)
       have fz7 := hfz (i * 8 + 7)
       rw [← hyx] at HGG
       have ST := A_ (FF.out.1.store i hi3 ⟨⟨g, true, p⟩, a4, n4, a5, n5⟩ 2 [.int .i64 p.f0, .int .i64 p.f1, .int .i64 p.f2, .string p.f3, .slice a4 p.f4.length n4, .slice a5 p.f5.length n5] (by simp) (by rw [← hy]; simp [encS, HGG.out.1, HGG.out.2]) HPV.out)
       clear hfz hy hyx hym HGG
       go_wp2
       go_ret
       rw [HPW2.out]
       exact ⟨rfl, { L with rs := L.rs.set i ⟨⟨g, true, p⟩, a4, n4, a5, n5⟩ }, rfl, rfl, ST.out.1, FF.out.2.then_ ST.out.2 (fun k hk => .inl hk), rfl⟩
     · rw [hrv] at KR HPE
       rw [if_pos rfl] at HPE
       have hp0 := HPE.out
       subst hp0
       have HPW2 := A_ (HPW.out.trans (if_neg (by decide)))
       refine Calls.mono KR ?_
       rintro e w5 ⟨rfl, hb⟩
       clear u0 u1 u2 u3 u4 u5
       replace FF := A_ (MOV h0 FF.out hb)
       clear hb KR HPE HPW hrv
       go_wp2
       go_ret
       rw [HPW2.out]
       exact ⟨rfl, L, rfl, rfl, FF.out.1, FF.out.2, rfl⟩
   · obtain ⟨cv, hcv'⟩ : ∃ cv, cv = chkV v true 0 := ⟨_, rfl⟩
     have hz : nzv cv = cv := nzv_of (by rw [hcv']; exact hcv)
     rw [if_pos hcv, ← hcv', ← hz] at HPE
     rw [← hcv', ← hz] at KC
     have hp0 := HPE.out
     subst hp0
     have HPW2 := A_ (HPW.out.trans (if_neg (by rw [nzv_ne]; exact not_false)))
     clear hcv hcv' hz HPE HPW
     refine Calls.mono KC ?_
     rintro e w2 ⟨rfl, hb⟩
     clear u0 u1 u2 u3 u4 u5
     replace FF := A_ (MOV h0 FF.out hb)
     clear hb KC
     go_wp2
     go_ret
     rw [HPW2.out]
     exact ⟨rfl, L, rfl, rfl, FF.out.1, FF.out.2, rfl⟩
 · have hPE : putE s n g v = 12 := by unfold putE; rw [if_pos (by omega), hE]
   have hW : putW s n g v = s := by unfold putW; rw [if_neg (by omega)]
   rw [hW, hPE]
   rw [hE, if_neg (by decide)] at SL
   clear hE hW hPE
   go_enter Try.func24, Try.ntmps24
   go_wp2_with fail
   refine Calls.mono SL.out ?_
   rintro e w1 ⟨rfl, hb⟩
   replace FF := A_ (MOV h0 FF.out hb)
   clear hb SL z0 z1 HV BV
   go_wp2
   go_ret
   exact ⟨rfl, L, rfl, rfl, FF.out.1, FF.out.2, rfl⟩
 · have hPE : putE s n g v = 13 := by unfold putE; rw [if_pos (by omega), hE]
   have hW : putW s n g v = s := by unfold putW; rw [if_neg (by omega)]
   rw [hW, hPE]
   rw [hE, if_neg (by decide)] at SL
   clear hE hW hPE
   go_enter Try.func24, Try.ntmps24
   go_wp2_with fail
   refine Calls.mono SL.out ?_
   rintro e w1 ⟨rfl, hb⟩
   replace FF := A_ (MOV h0 FF.out hb)
   clear hb SL z0 z1 HV BV
   go_wp2
   go_ret
   exact ⟨rfl, L, rfl, rfl, FF.out.1, FF.out.2, rfl⟩
def freeS (x : S69) : Bool := !x.f1 && decide (x.f0 < 65535)
theorem box8 {w : World} {b T : Nat} {c0 c1 c2 c3 c4 c5 c6 c7 : Value} (h : w.heap[b]? = some (.cells #[c0, c1, c2, c3, c4, c5, c6, c7] T (0, 0))) : w.cell? ⟨b, 0, none⟩ = some c0 ∧ w.cell? ⟨b, 1, none⟩ = some c1 ∧ w.cell? ⟨b, 2, none⟩ = some c2 ∧ w.cell? ⟨b, 3, none⟩ = some c3 ∧ w.cell? ⟨b, 4, none⟩ = some c4 ∧ w.cell? ⟨b, 5, none⟩ = some c5 ∧ w.cell? ⟨b, 6, none⟩ = some c6 ∧ w.cell? ⟨b, 7, none⟩ = some c7 := by
 refine ⟨?_, ?_, ?_, ?_, ?_, ?_, ?_, ?_⟩ <;> (rw [cell_of_row w b _ _ _ _ h]; rfl)
set_option maxHeartbeats 4000000 in
set_option maxRecDepth 100000 in
theorem free_calls (x : S69) (a4 : Option Addr) (c4 : Nat) (a5 : Option Addr) (c5 : Nat) (w : World) : Calls Try.prog 87 #[.agg #[.int .i64 x.f0, .bool x.f1, .int .i64 x.f2.f0, .int .i64 x.f2.f1, .int .i64 x.f2.f2, .string x.f2.f3, .slice a4 x.f2.f4.length c4, .slice a5 x.f2.f5.length c5]] w fun e w' => e = .returned (.bool (freeS x)) ∧ RowKit.Below w.heap.size w w' := by
 have hu69 := Try.underlying69
 have HB := A_ (fun (o : Obj) => below_alloc (RowKit.Below.refl w.heap.size w) o)
 obtain ⟨x0, x1, x2⟩ := x
 simp only []
 cases x1
 all_goals
  go_enter Try.func87, Try.ntmps87
  go_wp2
  all_goals
   go_ret
   refine ⟨ret_b ?_, HB.out _⟩
   simp [freeS]
def leastN (xs : List S69) : Nat := ((List.range xs.length).find? fun n => decide (0 < n) && freeS (xs.getD n z69)).getD 0
theorem least_none {xs : List S69} (h : ∀ j, j < xs.length → ¬ (0 < j ∧ freeS (xs.getD j z69) = true)) : leastN xs = 0 := by
 unfold leastN
 rw [List.find?_eq_none.2]
 · rfl
 · intro j hj hc
   simp at hc
   exact h j (List.mem_range.1 hj) ⟨hc.1, by simpa using hc.2⟩
theorem least_some {xs : List S69} {k : Nat} (hk : k < xs.length) (h : ∀ j, j < k → ¬ (0 < j ∧ freeS (xs.getD j z69) = true)) (h0 : 0 < k) (hf : freeS (xs.getD k z69) = true) : leastN xs = k := by
 unfold leastN
 have e : (List.range xs.length).find? (fun n => decide (0 < n) && freeS (xs.getD n z69)) = some k := by
  rw [List.find?_range_eq_some]
  refine ⟨by rw [hf, decide_eq_true h0]; rfl, List.mem_range.2 hk, fun j hj => ?_⟩
  have := h j hj
  cases hb : (decide (0 < j) && freeS (xs.getD j z69))
  · rfl
  · simp at hb; exact absurd ⟨hb.1, by simpa using hb.2⟩ this
 rw [e]
 rfl
set_option maxHeartbeats 8000000 in
set_option maxRecDepth 100000 in
theorem least_calls (b0 : Nat) (L : WL) (s : WS) (w : World) (h : WorkIs b0 L s w) : Calls Try.prog 86 #[.pointer (some ⟨L.wb, 0, none⟩), .func (.func 87) #[] #[]] w fun e w' => e = .returned (.int .i64 (leastN s.now)) ∧ RowKit.Below w.heap.size w w' := by
 have hu69 := Try.underlying69
 have hu46 := Try.underlying46
 have hu120 := Try.underlying120
 have hu123 := Try.underlying123
 have H := A_ h
 have HL := A_ h.len
 obtain ⟨k0, -⟩ := h.box
 obtain ⟨N, hN⟩ : ∃ N, N = L.rs.length := ⟨_, rfl⟩
 have hmx : N ≤ 9223372036854775807 := by rw [hN]; exact own_max h.2.2.2.2.1
 rw [← hN] at k0
 have HN := A_ hN
 have HMX := A_ hmx
 obtain ⟨ln, hln⟩ : ∃ ln : Nat, ln = leastN s.now := ⟨_, rfl⟩
 rw [← hln]
 have HLN := A_ hln
 have hl := h.lt.1
 clear h hN hmx hln
 go_enter Try.func86, Try.ntmps86
 go_wp2
 go_loopw [13] (fun i wr => ∃ k : Nat, k ≤ N ∧ i = .int .i64 k ∧ Aside0 (RowKit.Below w.heap.size w wr) ∧ Aside0 (∀ j, j < k → ¬ (0 < j ∧ freeS (s.now.getD j z69) = true))) (fun i _ => N - (intOf i).toNat)
 case atStart => exact ⟨0, Nat.zero_le _, rfl, ⟨RowKit.Below.refl _ _⟩, ⟨fun j hj => by omega⟩⟩
 case round =>
  obtain ⟨k, hk, rfl, HB, HT⟩ := hrel
  clear k0
  by_cases hlt : k < N
  · have H2 := A_ (H.out.below HB.out)
    obtain ⟨y, hy, hyx, hym, s0, s1, s2, s3, s4, s5, s6, s7⟩ := H2.out.slot k (by have := HN.out; omega)
    have HYX := A_ hyx
    clear hy hyx hym
    have hwk : wrap64 ((k : Int) + 1) = (k : Int) + 1 := by have := HMX.out; unfold wrap64; omega
    have HWK := A_ hwk
    have hNm : N ≤ 9223372036854775807 := HMX.out
    clear hwk
    obtain ⟨⟨y0, y1, yv⟩, a4, c4, a5, c5⟩ := y
    simp only [] at s0 s1 s2 s3 s4 s5 s6 s7
    have BX := A_ (blk_new wr (.cells #[.int .i64 y0, .bool y1, .int .i64 yv.f0, .int .i64 yv.f1, .int .i64 yv.f2, .string yv.f3, .slice a4 yv.f4.length c4, .slice a5 yv.f5.length c5] 69))
    have HB1 := A_ (below_alloc HB.out (.cells #[.int .i64 y0, .bool y1, .int .i64 yv.f0, .int .i64 yv.f1, .int .i64 yv.f2, .string yv.f3, .slice a4 yv.f4.length c4, .slice a5 yv.f5.length c5] 69))
    go_upto_region 4 with fail
    clear hNm s0 s1 s2 s3 s4 s5 s6 s7
    generalize hWr : wr.alloc _ = wn at *
    clear hWr
    obtain ⟨v0, v1, v2, v3, v4, v5, v6, v7⟩ := box8 BX.out
    by_cases hk0 : k = 0
    · subst hk0
      go_wp2
      exact ⟨⟨1, by omega, by simp, HB1, ⟨fun j hj => by omega⟩⟩, by simp [intOf]; omega⟩
    · have hk1 : 0 < (k : Int) := by omega
      have KF := free_calls ⟨y0, y1, yv⟩ a4 c4 a5 c5 wn
      have HFX := A_ (show freeS (s.now.getD k z69) = freeS ⟨y0, y1, yv⟩ by rw [← HYX.out])
      cases hfr : freeS ⟨y0, y1, yv⟩
      · rw [hfr] at KF HFX
        have HT2 := A_ (show ∀ j, j < k + 1 → ¬ (0 < j ∧ freeS (s.now.getD j z69) = true) from fun j hj => by
         by_cases hjk : j < k
         · exact HT.out j hjk
         · obtain rfl : j = k := by omega
           rintro ⟨_, h2⟩
           rw [HFX.out] at h2
           cases h2)
        clear hfr
        go_wp2_with fail
        · refine Calls.mono KF ?_
          rintro e w3 ⟨rfl, hb⟩
          have HB3 := A_ (HB1.out.trans (hb.mono HB1.out.size))
          clear hb KF v0 v1 v2 v3 v4 v5 v6 v7
          go_wp2
          exact ⟨⟨k + 1, by omega, by first | (rw [HWK.out]; simp; done) | (simp; done), HB3, HT2⟩, by first | (rw [HWK.out]; simp [intOf]; omega) | (simp [intOf]; omega)⟩
        · exfalso; omega
      · rw [hfr] at KF HFX
        have hln : ln = k := HLN.out.trans (least_some (by have := HL.out; have := HN.out; omega) HT.out (by omega) HFX.out)
        subst hln
        clear hfr HLN
        go_wp2_with fail
        · refine Calls.mono KF ?_
          rintro e w3 ⟨rfl, hb⟩
          have HB3 := A_ (HB1.out.trans (hb.mono HB1.out.size))
          clear hb KF v0 v1 v2 v3 v4 v5 v6 v7
          go_wp2
          go_ret
          exact ⟨rfl, HB3.out⟩
        · exfalso; omega
  · obtain rfl : N = k := by omega
    have h0 : ln = 0 := HLN.out.trans (least_none (fun j hj => HT.out j (by have := HL.out; have := HN.out; omega)))
    subst h0
    clear HLN
    go_wp2
    go_ret
    exact ⟨rfl, HB.out⟩
def AllPost (b0 : Nat) (L : WL) (s' : WS) (w w' : World) : Prop := ∃ L', L'.wb = L.wb ∧ (L'.g = L.g ∨ w.heap.size ≤ L'.g) ∧ WorkIs b0 L' s' w' ∧ Moves b0 L.S w w' ∧ L'.z = L.z
theorem DelPost.all {b0 : Nat} {L : WL} {s' : WS} {w w' : World} (h : DelPost b0 L s' w w') : AllPost b0 L s' w w' := by
 obtain ⟨L', h1, h2, h3, h4, h5⟩ := h
 exact ⟨L', h1, .inl h2, h3, h4, h5⟩
theorem WorkIs.append {b0 : Nat} {L : WL} {s : WS} {W W2 : World} {v' : Value} (h : WorkIs b0 L s W) (h0 : b0 ≤ W.heap.size) (ho : W2.ownsRow b0 69 8 v' (L.rs.length + 1) (flatS L.rs ++ encS ⟨z69, none, 0, none, 0⟩)) (hg : W.grownBy W2 (some L.g)) (hat : v'.ownBlock = some L.g ∨ v'.ownBlock = some W.heap.size) :
 ∃ g' c', v' = .slice (some ⟨g', 0, none⟩) (L.rs.length + 1) c' ∧ (g' = L.g ∨ W.heap.size ≤ g') ∧ WorkIs b0 { L with g := g', c := c', rs := L.rs ++ [⟨z69, none, 0, none, 0⟩] } { s with now := s.now ++ [z69] } (W2.setCell ⟨L.wb, 0, none⟩ v') ∧ Moves b0 L.S W (W2.setCell ⟨L.wb, 0, none⟩ v') := by
 have hl := h.lt
 obtain ⟨h1, h2, h3, h4, h5, h6, h7, h8, h9, hz⟩ := h
 obtain ⟨g', c', rfl⟩ := ownsRow_succ ho
 have hgg : g' = L.g ∨ g' = W.heap.size := by simpa [Value.ownBlock] using hat
 have hwg : L.wb ≠ g' := by rcases hgg with rfl | rfl <;> omega
 have hm : Moves b0 L.S W (W2.setCell ⟨L.wb, 0, none⟩ (.slice (some ⟨g', 0, none⟩) (L.rs.length + 1) c')) :=
  ((Moves.refl b0 L.S W).grown hg (fun k hk => by injection hk with hk; exact .inl (.inr hk.symm)) (fun k hk => by injection hk with hk; omega) h0).set (p := ⟨L.wb, 0, none⟩) (.inl (.inl rfl)) h1 _
 have hb : W2.heap[L.wb]? = some (.cells (L.cells s) 123 (0, 0)) := by rw [hg.block L.wb hl.1 (by simp; exact h3)]; exact h4
 refine ⟨g', c', rfl, by omega, ⟨h1, by rcases hgg with rfl | rfl <;> omega, hwg, ?_, ?_, ?_, ?_, h8, ?_, fun k hk => ⟨Nat.lt_of_lt_of_le (hz k hk).1 hm.2.1, ?_⟩⟩, hm⟩
 · rw [heap_setCell_same W2 L.wb 0 _ 123 _ hb]
   simp [WL.cells]
 · have h := ownsRow_setCell_other ho (a := ⟨L.wb, 0, none⟩) (by simp [Value.ownBlock]; exact fun e => hwg e.symm) (.slice (some ⟨g', 0, none⟩) (L.rs.length + 1) c')
   rw [flatS_app]
   simpa [flatS, flat8] using h
 · show (L.rs ++ [(⟨z69, none, 0, none, 0⟩ : RS)]).map (fun y => y.x) = s.now ++ [z69]
   rw [List.map_append, h6]
   rfl
 · intro y hy
   rcases List.mem_append.1 hy with hy | hy
   · exact FV.mono (FV.kept (FV.bound (h7 y hy)) hm.2 (fun k hk e => hk.1 (.inl e))) (fun k hk => by
      rintro ((e | e) | e)
      · exact hk.1 (.inl (.inl e))
      · rcases hgg with e2 | e2
        · exact hk.1 (.inl (.inr (e.trans e2)))
        · have := hk.2; have e : k = g' := e; omega
      · exact hk.1 (.inr e))
   · simp at hy
     subst hy
     exact FV.nil _ _ _ rfl rfl
 · exact Kd.F_mono (Kd.F_kept (Kd.F_bound h9) hm.2 (fun k hk e => hk.1 (.inl e))) (fun k hk => by
    rintro ((e | e) | e)
    · exact hk.1 (.inl (.inl e))
    · rcases hgg with e2 | e2
      · exact hk.1 (.inl (.inr (e.trans e2)))
      · have := hk.2; have e : k = g' := e; omega
    · exact hk.1 (.inr e))
 · rintro (e | e)
   · exact (hz k hk).2 (.inl e)
   · rcases hgg with e2 | e2
     · exact (hz k hk).2 (.inr (e.trans e2))
     · have := (hz k hk).1; have e : k = g' := e; omega
theorem least_lt {xs : List S69} (h : leastN xs ≠ 0) : leastN xs < xs.length := by
 unfold leastN at *
 cases hf : (List.range xs.length).find? (fun n => decide (0 < n) && freeS (xs.getD n z69)) with
 | none => rw [hf] at h; exact absurd rfl h
 | some k => exact List.mem_range.1 (List.mem_of_find?_eq_some hf)
theorem cells_new (w : World) (cs : Array Value) (t : TypeId) : ∀ j u, cs.toList[j]? = some u → (w.alloc (.cells cs t)).cell? ((⟨w.heap.size, 0, none⟩ : Addr).add j) = some u := by
 intro j u hj
 have e : (⟨w.heap.size, 0, none⟩ : Addr).add j = ⟨w.heap.size, j, none⟩ := by unfold Addr.add; split <;> simp_all
 rw [e, cell_of_row _ _ _ _ _ _ (World.alloc_heap_new w (.cells cs t))]
 simpa using hj
theorem WorkIs.rows {b0 : Nat} {L L' : WL} {s : WS} {w W : World} (h : WorkIs b0 L s w) (hm : Kept w W L.S) (hw : L'.wb = L.wb) (hg : L'.g = L.g ∨ w.heap.size ≤ L'.g) (hzz : L'.z = L.z) :
 (∀ y ∈ L.rs, FS (fun k => ¬ L'.N k) y W) ∧ Kd.F k69 W (fun k => ¬ L'.N k) L.aB s.base.length s.base := by
 have hM : ∀ k, (¬ L.N k ∧ k < w.heap.size) → ¬ L'.N k := fun k hk => by
  rintro ((e | e) | e)
  · exact hk.1 (.inl (.inl (e.trans hw)))
  · rcases hg with e2 | e2
    · exact hk.1 (.inl (.inr (e.trans e2)))
    · have := hk.2; omega
  · exact hk.1 (.inr (hzz ▸ e))
 exact ⟨fun y hy => FV.mono (FV.kept (FV.bound (h.2.2.2.2.2.2.1 y hy)) hm (fun k hk e => hk.1 (.inl e))) hM, Kd.F_mono (Kd.F_kept (Kd.F_bound h.2.2.2.2.2.2.2.2.1) hm (fun k hk e => hk.1 (.inl e))) hM⟩
theorem WorkIs.far {b0 : Nat} {L : WL} {s : WS} {W : World} (h : WorkIs b0 L s W) {b : Nat} (h1 : b ≠ L.wb) (h2 : b ≠ L.g) (u0 u1 : Value) (hS : ∀ y ∈ L.rs, FS (fun k => ¬ L.N k) y ((W.setCell ⟨b, 0, none⟩ u0).setCell ⟨b, 1, none⟩ u1)) (hB : Kd.F k69 ((W.setCell ⟨b, 0, none⟩ u0).setCell ⟨b, 1, none⟩ u1) (fun k => ¬ L.N k) L.aB s.base.length s.base) :
 WorkIs b0 L s ((W.setCell ⟨b, 0, none⟩ u0).setCell ⟨b, 1, none⟩ u1) := by
 obtain ⟨g1, g2, g3, g4, g5, g6, g7, g8, g9, hz⟩ := h
 refine ⟨g1, g2, g3, ?_, ?_, g6, hS, g8, hB, fun k hk => ⟨by simpa using (hz k hk).1, (hz k hk).2⟩⟩
 · rw [RowKit.Below.heap_setCell _ ⟨b, 1, none⟩ u1 L.wb (fun e => h1 e.symm), RowKit.Below.heap_setCell _ ⟨b, 0, none⟩ u0 L.wb (fun e => h1 e.symm)]
   exact g4
 · exact ownsRow_setCell_other (ownsRow_setCell_other g5 (a := ⟨b, 0, none⟩) (by simp [Value.ownBlock]; exact fun e => h2 e.symm) _) (a := ⟨b, 1, none⟩) (by simp [Value.ownBlock]; exact fun e => h2 e.symm) _
def allocS (s : WS) : WS := if leastN s.now ≠ 0 then { s with now := s.now.set (leastN s.now) ⟨(s.now.getD (leastN s.now) z69).f0, true, (s.now.getD (leastN s.now) z69).f2⟩ } else if s.most < (s.now.length : Int) then s else { s with now := s.now ++ [⟨0, true, z35⟩] }
def allocR (s : WS) : Int × Int × Int := if leastN s.now ≠ 0 then ((leastN s.now : Int), (s.now.getD (leastN s.now) z69).f0, 0) else if s.most < (s.now.length : Int) then (0, 0, 14) else ((s.now.length : Int), 0, 0)
set_option maxHeartbeats 8000000 in
set_option maxRecDepth 100000 in
theorem walloc_calls (b0 : Nat) (L : WL) (s : WS) (w : World) (h : WorkIs b0 L s w) (h0 : b0 ≤ w.heap.size) (hlen : L.rs.length ≤ 90000) : Calls Try.prog 20 #[.pointer (some ⟨L.wb, 0, none⟩)] w fun e w' => e = .returned (.tuple #[.agg #[.int .i64 (allocR s).1, .int .i64 (allocR s).2.1], .int .i64 (allocR s).2.2]) ∧ AllPost b0 L (allocS s) w w' := by
 have hu28 := Try.underlying28
 have hu46 := Try.underlying46
 have hu69 := Try.underlying69
 have hu120 := Try.underlying120
 have hu123 := Try.underlying123
 obtain ⟨i0, hi, hz0, hz1, hz2⟩ := info_parts info69
 have hl := h.lt
 have FF := A_ (MOV h0 (⟨h, Moves.refl b0 L.S w⟩ : WorkIs b0 L s w ∧ Moves b0 L.S w w) (below_alloc (RowKit.Below.refl _ w) (.cells #[.int .i64 0, .int .i64 0] 28)))
 have BX := A_ (blk_new w (.cells #[.int .i64 0, .int .i64 0] 28))
 have LO := A_ (below_alloc (RowKit.Below.refl w.heap.size w) (.cells #[.int .i64 0, .int .i64 0] 28))
 have H0 := A_ h
 have KL := A_ (least_calls b0 L s _ FF.out.1)
 have hsl := h.len
 obtain ⟨ln, hln⟩ : ∃ ln, ln = leastN s.now := ⟨_, rfl⟩
 rw [← hln] at KL
 by_cases hn0 : ln = 0
 · subst hn0
   by_cases hm : s.most < (s.now.length : Int)
   · have hR : allocR s = (0, 0, 14) := by unfold allocR; rw [← hln, if_neg (by simp), if_pos hm]
     have hS : allocS s = s := by unfold allocS; rw [← hln, if_neg (by simp), if_pos hm]
     rw [hR, hS]
     simp only []
     rw [hsl] at hm
     obtain ⟨N, hN⟩ : ∃ N, N = L.rs.length := ⟨_, rfl⟩
     rw [← hN] at hm
     obtain ⟨mo, hmo⟩ : ∃ mo, mo = s.most := ⟨_, rfl⟩
     rw [← hmo] at hm
     clear hR hS hln h
     go_enter Try.func20, Try.ntmps20
     go_wp2_with fail
     refine Calls.mono KL.out ?_
     rintro e w1 ⟨rfl, hb⟩
     replace FF := A_ (MOV h0 FF.out hb)
     replace BX := A_ (blk_below BX.out hb)
     have hw1 : w.heap.size < w1.heap.size := blk_lt BX.out
     obtain ⟨k0, k1, k2, k3, k4, k5, k6⟩ := FF.out.1.box
     rw [← hN] at k0
     rw [← hmo] at k6
     have f0 := blk_frozen BX.out 0
     have f1 := blk_frozen BX.out 1
     obtain ⟨z0, z1⟩ := box2 BX.out
     have e1 := heap_setCell_same _ w.heap.size 0 _ 28 (.int .i64 0) BX.out
     have e2 := heap_setCell_same _ w.heap.size 1 _ 28 (.int .i64 0) e1
     have BF := A_ e2
     have LOW := A_ (((LO.out.trans (hb.mono LO.out.size)).setCell (p := ⟨w.heap.size, 0, none⟩) (Nat.le_refl _) (.int .i64 0)).setCell (p := ⟨w.heap.size, 1, none⟩) (Nat.le_refl _) (.int .i64 0))
     have FW := A_ (H0.out.below LOW.out)
     have FM := A_ ((FF.out.2.set (p := ⟨w.heap.size, 0, none⟩) (.inr (Nat.le_refl _)) h0 (.int .i64 0)).set (p := ⟨w.heap.size, 1, none⟩) (.inr (Nat.le_refl _)) h0 (.int .i64 0))
     clear hb KL e1 e2
     go_wp2
     clear z0 z1 f0 f1 k0 k1 k2 k3 k4 k5 k6
     generalize (w1.setCell ⟨w.heap.size, 0, none⟩ (.int .i64 0)).setCell ⟨w.heap.size, 1, none⟩ (.int .i64 0) = WF at *
     have BF2 : WF.heap[w.heap.size]? = some (.cells #[.int .i64 0, .int .i64 0] 28 (0, 0)) := BF.out
     obtain ⟨r0, r1⟩ := box2 BF2
     exact bodyPost_ret (v := .tuple #[.agg #[.int .i64 0, .int .i64 0], .int .i64 14]) (by simp [results, Try.results20, go_sem, r0, r1]) rfl ⟨rfl, L, rfl, .inl rfl, FW.out, FM.out, rfl⟩
   · have hR : allocR s = ((s.now.length : Int), 0, 0) := by unfold allocR; rw [← hln, if_neg (by simp), if_neg hm]
     have hS : allocS s = { s with now := s.now ++ [⟨0, true, z35⟩] } := by unfold allocS; rw [← hln, if_neg (by simp), if_neg hm]
     rw [hR, hS]
     simp only []
     rw [hsl] at hm ⊢
     obtain ⟨N, hN⟩ : ∃ N, N = L.rs.length := ⟨_, rfl⟩
     rw [← hN] at hm hlen ⊢
     have HN := A_ hN
     have HSL := A_ hsl
     obtain ⟨mo, hmo⟩ : ∃ mo, mo = s.most := ⟨_, rfl⟩
     rw [← hmo] at hm
     have HMO := A_ hmo
     clear hR hS hln h hN hmo hsl
     go_enter Try.func20, Try.ntmps20
     go_wp2_with fail
     refine Calls.mono KL.out ?_
     rintro e w1 ⟨rfl, hb⟩
     replace FF := A_ (MOV h0 FF.out hb)
     replace BX := A_ (blk_below BX.out hb)
     have hw1 : w.heap.size < w1.heap.size := blk_lt BX.out
     obtain ⟨k0, k1, k2, k3, k4, k5, k6⟩ := FF.out.1.box
     rw [← HN.out] at k0
     rw [← HMO.out] at k6
     have hwb1 : L.wb < w1.heap.size := FF.out.1.lt.1
     have FF2 := A_ (MOV h0 FF.out (below_alloc (RowKit.Below.refl _ w1) (.cells #[.int .i64 0, .bool false, .int .i64 0, .int .i64 0, .int .i64 0, .string ⟨#[]⟩, .slice none 0 0, .slice none 0 0] 69)))
     have BX2 := A_ (blk_alloc BX.out (.cells #[.int .i64 0, .bool false, .int .i64 0, .int .i64 0, .int .i64 0, .string ⟨#[]⟩, .slice none 0 0, .slice none 0 0] 69))
     have OW := A_ FF2.out.1.2.2.2.2.1
     rw [← HN.out] at OW
     clear hb KL
     go_upto_region 8 with fail
     go_wp2_with (first | ((with_reducible refine gate_dst (N := 33) rfl ?_); refine wpList_append_own_at (w1.alloc (.cells #[.int .i64 0, .bool false, .int .i64 0, .int .i64 0, .int .i64 0, .string ⟨#[]⟩, .slice none 0 0, .slice none 0 0] 69)) rfl (.tmp 30) (.tmp 32) 46 rfl b0 69 i0 (.agg #[(.int .i64 0), (.bool false), (.int .i64 0), (.int .i64 0), (.int .i64 0), (.string ⟨#[]⟩), (.slice none 0 0), (.slice none 0 0)]) 8 104 Try.underlying46 hi hz0 hz1 hz2 rfl (by decide) (.slice (some ⟨L.g, 0, none⟩) N L.c) N (flatS L.rs) rfl OW.out ⟨w1.heap.size, 0, none⟩ 1 1 (encS ⟨z69, none, 0, none, 0⟩) rfl rfl (cells_new _ _ _) (by simp [encS, Value.oneCell']) (by simp only [maxLen]; omega) (by omega) (by rw [World.size_alloc]; omega) ?_))
     intro v' w3 hown hgrow hnil hat
     rw [HN.out] at hown
     obtain ⟨g', c', rfl, hg', hwk, hmv⟩ := FF2.out.1.append (by rw [World.size_alloc]; omega) hown hgrow (by rw [World.size_alloc]; exact hat)
     have hwb3 : w3.heap[L.wb]? = some (.cells (L.cells s) 123 (0, 0)) := (hgrow.block L.wb FF2.out.1.lt.1 (by simp [Value.ownBlock]; exact FF2.out.1.2.2.1)).trans FF2.out.1.2.2.2.1
     have BX3 := A_ ((hgrow.block w.heap.size (by rw [World.size_alloc]; omega) (by simp [Value.ownBlock]; omega)).trans BX2.out)
     have j0 : w3.cell? ⟨L.wb, 0, none⟩ = some (.slice (some ⟨L.g, 0, none⟩) L.rs.length L.c) := by rw [cell_of_row w3 L.wb _ _ _ _ hwb3]; rfl
     have jf := blk_frozen hwb3 0
     have hg2 : g' = L.g ∨ w1.heap.size < g' + 1 := by rw [World.size_alloc] at hg'; omega
     have HK := A_ hwk
     have HV := A_ hmv
     have HG := A_ hg2
     have BX4 := A_ ((RowKit.Below.heap_setCell w3 ⟨L.wb, 0, none⟩ (.slice (some ⟨g', 0, none⟩) (L.rs.length + 1) c') w.heap.size (by show w.heap.size ≠ L.wb; omega)).trans BX3.out)
     clear hown hgrow hnil hat hwk hmv hwb3 hg' hg2 k0 k1 k2 k3 k4 k5 k6 BX BX2 BX3 OW
     go_upto_region 9 with fail
     clear j0 jf
     generalize w3.setCell ⟨L.wb, 0, none⟩ (.slice (some ⟨g', 0, none⟩) (L.rs.length + 1) c') = X at *
     obtain ⟨L2, hL2⟩ : ∃ L2 : WL, L2 = { L with g := g', c := c', rs := L.rs ++ [⟨z69, none, 0, none, 0⟩] } := ⟨_, rfl⟩
     obtain ⟨s2, hs2⟩ : ∃ s2 : WS, s2 = { s with now := s.now ++ [z69] } := ⟨_, rfl⟩
     rw [← hL2, ← hs2] at HK
     have q1 : L2.wb = L.wb := by rw [hL2]
     have q5 : L2.z = L.z := by rw [hL2]
     have Q5 := A_ q5
     have q2 : L2.g = g' := by rw [hL2]
     have q3 : L2.rs = L.rs ++ [⟨z69, none, 0, none, 0⟩] := by rw [hL2]
     have q3l : L2.rs.length = N + 1 := by rw [q3, List.length_append, HN.out]; rfl
     have q4 : s2.now = s.now ++ [z69] := by rw [hs2]
     have hNr : N < L2.rs.length := by omega
     have hLX := HK.out.lt
     have hwX : w.heap.size < X.heap.size := blk_lt BX4.out
     obtain ⟨k0, k1, k2, k3, k4, k5, k6⟩ := HK.out.box
     obtain ⟨y, hy, hyx, hym, s0, s1, -⟩ := HK.out.slot N hNr
     have hyz : y = ⟨z69, none, 0, none, 0⟩ := by
      rw [hy, q3, List.getD_eq_getElem?_getD, List.getElem?_append_right (by have := HN.out; omega), show N - L.rs.length = 0 by have := HN.out; omega]
      rfl
     rw [hyz] at s0 s1
     simp only [z69] at s0 s1
     rw [q1] at k0 k1 k2 k3 k4 k5 k6
     rw [q3l] at k0
     have fzl := HK.out.2.2.2.2.1.frozenAt (N * 8 + 1)
     have hgw : L2.g ≠ w.heap.size := by
      rw [q2]
      rcases HG.out with e | e
      · rw [e]; omega
      · omega
     have f0 := blk_frozen BX4.out 0
     have f1 := blk_frozen BX4.out 1
     obtain ⟨z0, z1⟩ := box2 BX4.out
     have ST := HK.out.store N hNr ⟨⟨0, true, z35⟩, none, 0, none, 0⟩ 1 [.bool true] (by simp) (by rw [← hy, hyz]; rfl) (FV.nil _ _ _ rfl rfl)
     have MX : Moves b0 L.S w (X.setCells L2.g (N * 8 + 1) [.bool true]) := (FF2.out.2.then_ HV.out (fun k hk => .inl hk)).then_ ST.2 (fun k hk => by
      rcases hk with hk | hk
      · exact .inl (.inl (hk.trans q1))
      · rw [q2] at hk
        rcases HG.out with e | e
        · exact .inl (.inr (hk.trans e))
        · exact .inr (by omega))
     have hXB : (X.setCells L2.g (N * 8 + 1) [.bool true]).heap[w.heap.size]? = _ := (RowKit.Below.heap_setCell X ⟨L2.g, N * 8 + 1, none⟩ (.bool true) w.heap.size (by show w.heap.size ≠ L2.g; exact fun e => hgw e.symm)).trans BX4.out
     have e1 := heap_setCell_same _ w.heap.size 0 _ 28 (.int .i64 (N : Int)) hXB
     have e2 := heap_setCell_same _ w.heap.size 1 _ 28 (.int .i64 0) e1
     have MF := (MX.set (p := ⟨w.heap.size, 0, none⟩) (.inr (Nat.le_refl _)) h0 (.int .i64 (N : Int))).set (p := ⟨w.heap.size, 1, none⟩) (.inr (Nat.le_refl _)) h0 (.int .i64 0)
     have hg3 : L2.g = L.g ∨ w.heap.size ≤ L2.g := by rw [q2]; rcases HG.out with e | e <;> omega
     have RW := H0.out.rows (L' := { L2 with rs := L2.rs.set N ⟨⟨0, true, z35⟩, none, 0, none, 0⟩ }) MF.2 q1 hg3 q5
     have FW := A_ (WorkIs.far ST.1 (b := w.heap.size) (by show w.heap.size ≠ L2.wb; rw [q1]; omega) (by show w.heap.size ≠ L2.g; exact fun e => hgw e.symm) (.int .i64 (N : Int)) (.int .i64 0) (fun z hz => by
      rcases List.mem_or_eq_of_mem_set hz with hz | rfl
      · rw [q3] at hz
        rcases List.mem_append.1 hz with hz | hz
        · exact RW.1 z hz
        · simp at hz
          subst hz
          exact FV.nil _ _ _ rfl rfl
      · exact FV.nil _ _ _ rfl rfl) (by
        have e : L2.aB = L.aB := by rw [hL2]
        have e' : s2.base = s.base := by rw [hs2]
        show Kd.F k69 _ _ L2.aB s2.base.length s2.base
        rw [e, e']
        exact RW.2))
     have hSS : ({ s2 with now := s2.now.set N ⟨0, true, z35⟩ } : WS) = { s with now := s.now ++ [⟨0, true, z35⟩] } := by
      rw [q4, List.set_append_right _ _ (by have := HSL.out; have := HN.out; omega), show N - s.now.length = 0 by have := HSL.out; have := HN.out; omega, hs2]
      rfl
     have HSS := A_ hSS
     have Q13 := A_ (And.intro q1 hg3)
     have FM := A_ MF
     have BF := A_ e2
     have hlt1 : L2.g < X.heap.size := hLX.2
     have hlt2 : L.wb < X.heap.size := by rw [← q1]; exact hLX.1
     clear ST MX hXB e1 e2 MF RW hy hyx hym hyz hSS q5 q2 q3 q4 hL2 hs2 hg3 HG HV HK FF FF2 hLX
     go_wp2
     obtain ⟨r0, r1⟩ := box2 (c0 := .int .i64 (N : Int)) (c1 := .int .i64 0) BF.out
     rw [HSS.out] at FW
     exact bodyPost_ret (v := .tuple #[.agg #[.int .i64 (N : Int), .int .i64 0], .int .i64 0]) (by
      have r0' : (((X.setCell ⟨L2.g, N * 8 + 1, none⟩ (.bool true)).setCell ⟨w.heap.size, 0, none⟩ (.int .i64 (N : Int))).setCell ⟨w.heap.size, 1, none⟩ (.int .i64 0)).cell? ⟨w.heap.size, 0, none⟩ = _ := r0
      have r1' : (((X.setCell ⟨L2.g, N * 8 + 1, none⟩ (.bool true)).setCell ⟨w.heap.size, 0, none⟩ (.int .i64 (N : Int))).setCell ⟨w.heap.size, 1, none⟩ (.int .i64 0)).cell? ⟨w.heap.size, 1, none⟩ = _ := r1
      simp [results, Try.results20, go_sem, r0', r1']) rfl ⟨rfl, { L2 with rs := L2.rs.set N ⟨⟨0, true, z35⟩, none, 0, none, 0⟩ }, Q13.out.1, Q13.out.2, FW.out, FM.out, Q5.out⟩
 · have hk := least_lt (by rw [← hln]; exact hn0)
   rw [← hln] at hk
   have hR : allocR s = ((ln : Int), (s.now.getD ln z69).f0, 0) := by unfold allocR; rw [← hln, if_pos hn0]
   have hS : allocS s = { s with now := s.now.set ln ⟨(s.now.getD ln z69).f0, true, (s.now.getD ln z69).f2⟩ } := by unfold allocS; rw [← hln, if_pos hn0]
   rw [hR, hS]
   simp only []
   have hk3 : ln < L.rs.length := by rw [← hsl]; exact hk
   obtain ⟨x, hx⟩ : ∃ x, x = s.now.getD ln z69 := ⟨_, rfl⟩
   rw [← hx]
   have HX := A_ hx
   have hn1 : ¬ ((ln : Int) = 0) := by omega
   have hn2 : ((ln : Int) == 0) = false := by simpa using hn1
   clear hR hS hln h hx hk hn0
   go_enter Try.func20, Try.ntmps20
   go_wp2_with fail
   refine Calls.mono KL.out ?_
   rintro e w1 ⟨rfl, hb⟩
   replace FF := A_ (MOV h0 FF.out hb)
   replace BX := A_ (blk_below BX.out hb)
   have hw1 : w.heap.size < w1.heap.size := blk_lt BX.out
   obtain ⟨k0, k1, k2, k3, k4, k5, k6⟩ := FF.out.1.box
   obtain ⟨y, hy, hyx, hym, s0, s1, -⟩ := FF.out.1.slot ln hk3
   have hyx2 : y.x = x := by rw [hyx, HX.out]
   rw [hyx2] at s0 s1
   have fzl := FF.out.1.2.2.2.2.1.frozenAt (ln * 8 + 1)
   have hmx := own_max FF.out.1.2.2.2.2.1
   have f0 := blk_frozen BX.out 0
   have f1 := blk_frozen BX.out 1
   obtain ⟨z0, z1⟩ := box2 BX.out
   have ST := FF.out.1.store ln hk3 ⟨⟨x.f0, true, x.f2⟩, y.a4, y.c4, y.a5, y.c5⟩ 1 [.bool true] (by simp) (by rw [← hy]; simp [encS, hyx2]) (by
    have h := FF.out.1.2.2.2.2.2.2.1 y hym
    unfold FS at h ⊢
    rw [hyx2] at h
    exact h)
   have MX := FF.out.2.then_ ST.2 (fun k hk => .inl hk)
   have hXB : (w1.setCells L.g (ln * 8 + 1) [.bool true]).heap[w.heap.size]? = _ := (RowKit.Below.heap_setCell w1 ⟨L.g, ln * 8 + 1, none⟩ (.bool true) w.heap.size (by show w.heap.size ≠ L.g; omega)).trans BX.out
   have e1 := heap_setCell_same _ w.heap.size 0 _ 28 (.int .i64 (ln : Int)) hXB
   have e2 := heap_setCell_same _ w.heap.size 1 _ 28 (.int .i64 x.f0) e1
   have MF := (MX.set (p := ⟨w.heap.size, 0, none⟩) (.inr (Nat.le_refl _)) h0 (.int .i64 (ln : Int))).set (p := ⟨w.heap.size, 1, none⟩) (.inr (Nat.le_refl _)) h0 (.int .i64 x.f0)
   have RW := H0.out.rows (L' := { L with rs := L.rs.set ln ⟨⟨x.f0, true, x.f2⟩, y.a4, y.c4, y.a5, y.c5⟩ }) MF.2 rfl (.inl rfl) rfl
   have FW := A_ (WorkIs.far ST.1 (b := w.heap.size) (by show w.heap.size ≠ L.wb; omega) (by show w.heap.size ≠ L.g; omega) (.int .i64 (ln : Int)) (.int .i64 x.f0) (fun z hz => by
    rcases List.mem_or_eq_of_mem_set hz with hz | rfl
    · exact RW.1 z hz
    · have h := RW.1 y hym
      unfold FS at h ⊢
      rw [hyx2] at h
      exact h) RW.2)
   have FM := A_ MF
   have BF := A_ e2
   clear hb KL ST MX hXB e1 e2 MF RW hy hyx hym hyx2
   go_wp2
   obtain ⟨r0, r1⟩ := box2 (c0 := .int .i64 (ln : Int)) (c1 := .int .i64 x.f0) BF.out
   exact bodyPost_ret (v := .tuple #[.agg #[.int .i64 (ln : Int), .int .i64 x.f0], .int .i64 0]) (by
    have r0' : (((w1.setCell ⟨L.g, ln * 8 + 1, none⟩ (.bool true)).setCell ⟨w.heap.size, 0, none⟩ (.int .i64 (ln : Int))).setCell ⟨w.heap.size, 1, none⟩ (.int .i64 x.f0)).cell? ⟨w.heap.size, 0, none⟩ = _ := r0
    have r1' : (((w1.setCell ⟨L.g, ln * 8 + 1, none⟩ (.bool true)).setCell ⟨w.heap.size, 0, none⟩ (.int .i64 (ln : Int))).setCell ⟨w.heap.size, 1, none⟩ (.int .i64 x.f0)).cell? ⟨w.heap.size, 1, none⟩ = _ := r1
    simp [results, Try.results20, go_sem, r0', r1']) rfl ⟨rfl, { L with rs := L.rs.set ln ⟨⟨x.f0, true, x.f2⟩, y.a4, y.c4, y.a5, y.c5⟩ }, rfl, .inl rfl, FW.out, FM.out, rfl⟩
theorem open_rs {W : World} {M : Nat → Prop} {A : Option Addr} {n : Nat} {xs : List S69} (h : Kd.F k69 W M A n xs) (hn : 0 < n) :
 ∃ ad rs, A = some ad ∧ rs.length = n ∧ rs.map (fun y : RS => y.x) = xs ∧ (∀ y ∈ rs, FS M y W) ∧ ∀ j u, (flatS rs)[j]? = some u → W.cell? (ad.add j) = some u := by
 obtain ⟨hl, hm, hr⟩ := Kd.F_rows h
 obtain ⟨ad, rfl, hc⟩ := hr hn
 have one : ∀ i, ∃ y : RS, i < n → y.x = xs.getD i z69 ∧ FS M y W ∧ ∀ t u, (encS y)[t]? = some u → W.cell? (ad.add (i * 8 + t)) = some u := by
  intro i
  by_cases hi : i < n
  · obtain ⟨c, _, hK, hcc⟩ := hc i (xs.getD i z69) (by rw [List.getD_eq_getElem?_getD, List.getElem?_eq_getElem (by omega)]; rfl)
    obtain ⟨A6, c6, A7, c7, rfl, l6, g6, l7, g7⟩ := k69_openF hK
    exact ⟨⟨xs.getD i z69, A6, c6, A7, c7⟩, fun _ => ⟨rfl, ⟨l6, g6, l7, g7⟩, hcc⟩⟩
  · exact ⟨default, fun h => absurd h hi⟩
 let F : Nat → RS := fun i => Classical.choose (one i)
 have hF : ∀ i, i < n → (F i).x = xs.getD i z69 ∧ FS M (F i) W ∧ ∀ t u, (encS (F i))[t]? = some u → W.cell? (ad.add (i * 8 + t)) = some u := fun i => Classical.choose_spec (one i)
 refine ⟨ad, (List.range n).map F, rfl, by simp, ?_, ?_, ?_⟩
 · apply List.ext_getElem
   · simp [hl]
   · intro i h1 h2
     simp only [List.getElem_map, List.getElem_range]
     rw [(hF i (by simp at h1; exact h1)).1, List.getD_eq_getElem?_getD, List.getElem?_eq_getElem h2]
     rfl
 · intro y hy
   obtain ⟨i, hi, rfl⟩ := List.mem_map.1 hy
   exact (hF i (List.mem_range.1 hi)).2.1
 · intro j u hj
   have hjl : j < n * 8 := by
    have := (List.getElem?_eq_some_iff.1 hj).1
    rw [flatS_len] at this
    simpa using this
   have hi : j / 8 < n := by omega
   rw [show j = j / 8 * 8 + j % 8 by omega] at hj ⊢
   rw [flatS_get _ _ _ (by simpa using hi) (by omega)] at hj
   refine (hF (j / 8) hi).2.2 (j % 8) u ?_
   rw [← hj, List.getD_eq_getElem?_getD, List.getElem?_map, List.getElem?_range hi]
   rfl
theorem close_rs {W : World} {M M0 : Nat → Prop} {b g c : Nat} {rs : List RS} (ho : W.ownsRow b 69 8 (.slice (some ⟨g, 0, none⟩) rs.length c) rs.length (flatS rs)) (hf : ∀ y ∈ rs, FS M0 y W) (hg : M g) (hM : ∀ k, M0 k → M k) :
 Kd.F k69 W M (some ⟨g, 0, none⟩) rs.length (rs.map (fun y => y.x)) := by
 intro W' hW
 have hgl : g < W.heap.size := (ho.lt g rfl).2
 have hge := hW g hg hgl
 refine ⟨by simp, own_max ho, fun _ => ⟨⟨g, 0, none⟩, rfl, fun j p hj => ?_⟩⟩
 have hjl : j < rs.length := by
  have := (List.getElem?_eq_some_iff.1 hj).1
  simpa using this
 rw [List.getElem?_map, List.getElem?_eq_getElem hjl] at hj
 injection hj with hj
 have hy := hf rs[j] (List.getElem_mem hjl)
 subst hj
 refine ⟨encS rs[j], rfl, k69_mk W' _ hy.1 (hy.2.1 W' (fun k hk hlt => hW k (hM k hk) hlt)) hy.2.2.1 (hy.2.2.2 W' (fun k hk hlt => hW k (hM k hk) hlt)), fun i u hi => ?_⟩
 have hi8 : i < 8 := (List.getElem?_eq_some_iff.1 hi).1
 have e : (⟨g, 0, none⟩ : Addr).add (j * 8 + i) = ⟨g, j * 8 + i, none⟩ := by unfold Addr.add; split <;> simp_all
 have hc : W.cell? ⟨g, j * 8 + i, none⟩ = some u := by
  rw [ho.cellAt (j * 8 + i) (by omega), flatS_get _ _ _ hjl hi8, List.getD_eq_getElem?_getD, List.getElem?_eq_getElem hjl]
  exact hi
 show W'.cell? ((⟨g, 0, none⟩ : Addr).add (j * 8 + i)) = some u
 rw [e]
 simpa [World.cell?, hge] using hc
theorem slice46_not_nil (ad : Addr) (n c : Nat) (w : World) : (binOp .eql 46 (.slice (some ad) n c) (.slice none 0 0)).run Try.prog w = .ok (.bool false) w := by
 have h : ∀ d : Nat, (Op.equalIn (d + 1) 46 (.slice (some ad) n c) (.slice none 0 0)).run Try.prog w = .ok false w := fun d => by
  simp [Op.equalIn, run_underlying Try.underlying46]
 simp only [binOp]
 simp [Op.equal, Op.maxDepth, h 9999]
set_option maxHeartbeats 8000000 in
set_option maxRecDepth 100000 in
theorem clone98 (rs : List RS) (ad : Addr) (c : Nat) (w : World) (hn : 0 < rs.length) (hl : rs.length ≤ 90000) (hc : ∀ j u, (flatS rs)[j]? = some u → w.cell? (ad.add j) = some u) : Calls Try.prog 98 #[.slice (some ad) rs.length c] w fun e w' => ∃ g' c', e = .returned (.slice (some ⟨g', 0, none⟩) rs.length c') ∧ w'.ownsRow w.heap.size 69 8 (.slice (some ⟨g', 0, none⟩) rs.length c') rs.length (flatS rs) ∧ RowKit.Below w.heap.size w w' := by
 have hu46 := Try.underlying46
 have hu69 := Try.underlying69
 obtain ⟨i0, hi, hz0, hz1, hz2⟩ := info_parts info69
 have OW := A_ (World.ownsRow_lit (base := w.heap.size) (e := 69) (size := 8) w #[] 0 (Nat.le_refl _) (by simp [maxLen]) (by simp))
 have HC := A_ (show ∀ j u, (flatS rs)[j]? = some u → (w.alloc (.cells #[] 69)).cell? (ad.add j) = some u from fun j u h => by
  have h1 := hc j u h
  have h2 := World.block_lt_of_cell? w _ h1
  exact ((below_alloc (RowKit.Below.refl w.heap.size w) (.cells #[] 69)).cell h2).trans h1)
 have HB := A_ (below_alloc (RowKit.Below.refl w.heap.size w) (.cells #[] 69))
 obtain ⟨N, hN⟩ : ∃ N, N = rs.length := ⟨_, rfl⟩
 have HFL := A_ (flatS_len rs)
 have HF1 := A_ (flatS_one rs)
 rw [← hN] at HFL hn hl
 rw [← hN]
 have HN := A_ hN
 clear hc hN
 generalize flatS rs = fs at *
 have hnn := slice46_not_nil
 go_enter Try.func98, Try.ntmps98
 go_wp2_with (first | ((with_reducible refine gate_dst (N := 7) rfl ?_); refine wpList_append_own (w.alloc (.cells #[] 69)) rfl (.tmp 5) (.tmp 6) 46 rfl w.heap.size 69 i0 (.agg #[(.int .i64 0), (.bool false), (.int .i64 0), (.int .i64 0), (.int .i64 0), (.string ⟨#[]⟩), (.slice none 0 0), (.slice none 0 0)]) 8 104 Try.underlying46 hi hz0 hz1 hz2 rfl (by decide) (.slice (some ⟨w.heap.size, 0, none⟩) 0 0) 0 [] rfl OW.out ad N c fs rfl HFL.out HC.out HF1.out (by simp only [maxLen]; omega) (by omega) (by rw [World.size_alloc]; omega) ?_))
 intro v' w3 hown hgrow hnil

 obtain ⟨g', c', hv, ho⟩ : ∃ g' c', v' = .slice (some ⟨g', 0, none⟩) N c' ∧ w3.ownsRow w.heap.size 69 8 (.slice (some ⟨g', 0, none⟩) N c') N fs := by
  obtain ⟨m, rfl⟩ : ∃ m, N = m + 1 := ⟨N - 1, by omega⟩
  obtain ⟨g', c', rfl⟩ := ownsRow_succ hown
  exact ⟨g', c', rfl, hown⟩
 subst hv
 have HO := A_ ho
 have HB2 := A_ (HB.out.grown hgrow (by rw [World.size_alloc]; omega) (fun k hk => by simp [Value.ownBlock] at hk; omega))
 clear hown ho hgrow hnil
 go_wp2
 go_ret
 exact ⟨g', c', rfl, HO.out, HB2.out⟩
theorem box3 {w : World} {b T : Nat} {c0 c1 c2 : Value} (h : w.heap[b]? = some (.cells #[c0, c1, c2] T (0, 0))) : w.cell? ⟨b, 0, none⟩ = some c0 ∧ w.cell? ⟨b, 1, none⟩ = some c1 ∧ w.cell? ⟨b, 2, none⟩ = some c2 := by
 refine ⟨?_, ?_, ?_⟩ <;> (rw [cell_of_row w b _ _ _ _ h]; rfl)
set_option maxHeartbeats 8000000 in
set_option maxRecDepth 100000 in
theorem copied_calls (rs : List RS) (ad : Addr) (c : Nat) (rn rg : Int) (w : World) (hn : 0 < rs.length) (hl : rs.length ≤ 90000) (hc : ∀ j u, (flatS rs)[j]? = some u → w.cell? (ad.add j) = some u) : Calls Try.prog 85 #[.agg #[.slice (some ad) rs.length c, .int .i64 rn, .int .i64 rg]] w fun e w' => ∃ g' c', e = .returned (.agg #[.slice (some ⟨g', 0, none⟩) rs.length c', .int .i64 rn, .int .i64 rg]) ∧ w'.ownsRow w.heap.size 69 8 (.slice (some ⟨g', 0, none⟩) rs.length c') rs.length (flatS rs) ∧ RowKit.Below w.heap.size w w' := by
 have hu46 := Try.underlying46
 have hu28 := Try.underlying28
 have hu120 := Try.underlying120
 obtain ⟨N, hN⟩ : ∃ N, N = rs.length := ⟨_, rfl⟩
 have HB := A_ (below_alloc (below_alloc (RowKit.Below.refl w.heap.size w) (.cells #[.slice (some ad) N c, .int .i64 rn, .int .i64 rg] 120)) (.cells #[.slice none 0 0, .int .i64 0, .int .i64 0] 120))
 have KC := A_ (fun (W : World) (hb : RowKit.Below w.heap.size w W) => clone98 rs ad c W hn hl (fun j u h => by
  have h1 := hc j u h
  have h2 := World.block_lt_of_cell? w _ h1
  exact (hb.cell h2).trans h1))
 rw [← hN] at KC
 rw [← hN]
 have BX := A_ (blk_new (w.alloc (.cells #[.slice (some ad) N c, .int .i64 rn, .int .i64 rg] 120)) (.cells #[.slice none 0 0, .int .i64 0, .int .i64 0] 120))
 simp only [World.size_alloc] at BX
 obtain ⟨z0, z1, z2⟩ := box3 (blk_alloc (blk_new w (.cells #[.slice (some ad) N c, .int .i64 rn, .int .i64 rg] 120)) (.cells #[.slice none 0 0, .int .i64 0, .int .i64 0] 120))
 have hs2 : ((w.alloc (.cells #[.slice (some ad) N c, .int .i64 rn, .int .i64 rg] 120)).alloc (.cells #[.slice none 0 0, .int .i64 0, .int .i64 0] 120)).heap.size = w.heap.size + 1 + 1 := by simp only [World.size_alloc]
 clear hc hN hn hl
 generalize flatS rs = fs at *
 go_enter Try.func85, Try.ntmps85
 go_upto_region 1 with fail
 generalize ((w.alloc (.cells #[.slice (some ad) N c, .int .i64 rn, .int .i64 rg] 120)).alloc (.cells #[.slice none 0 0, .int .i64 0, .int .i64 0] 120)) = W2 at *
 refine start_ (n := 7) (S := (fun w' => w'.cell? ⟨w.heap.size, 0, none⟩ = some (.slice (some ad) N c) ∧ w'.cell? ⟨w.heap.size, 1, none⟩ = some (.int .i64 rn) ∧ w'.cell? ⟨w.heap.size, 2, none⟩ = some (.int .i64 rg))) (ds := [6]) #[false, false, false, false, false, false, false] (by kernel_rfl) rfl rfl (by refine ⟨?_, ?_, ?_⟩ <;> go_simp) (fun hHeld => ?_)
 have HH := A_ hHeld
 clear hHeld
 refine pu_ 0 3 ?_
 refine ta_ 1 4 HH.out ?_
 refine pu_ 3 6 ?_
 refine ta_ 4 7 HH.out ?_
 replace HB := A_ HB.out.drew
 replace BX := A_ (blk_drew BX.out)
 have hs3 : W2.drew.heap.size = w.heap.size + 1 + 1 := hs2
 clear z0 z1 z2 hs2
 generalize W2.drew = W3 at *
 refine on_ 2 (some 5) (fun K hK => ?_)
 refine cl_ Try.func98 #[.slice (some ad) N c] ?_
 refine Calls.mono (KC.out _ HB.out) ?_
 rintro e wk ⟨g', c', rfl, ho, hb_⟩
 refine ⟨_, rfl, ?_⟩
 refine hK.out _ _ ⟨up_ hb_.cell HH.out.1, up_ hb_.cell HH.out.2.1, up_ hb_.cell HH.out.2.2⟩ (fun hH2 => ?_)
 replace HH := A_ hH2
 have HO := A_ ho
 replace HB := A_ (HB.out.trans (hb_.mono HB.out.size))
 replace BX := A_ (blk_below BX.out hb_)
 have hsk : w.heap.size + 1 < wk.heap.size := blk_lt BX.out
 clear hK K hH2 ho hb_
 refine nm_ (some 5) ?_
 refine pu_ 5 8 ?_
 refine chain_ [6] _ _ _ _ (⟨_, _, rfl, rfl, rfl⟩) (by kernel_rfl) (by decide) ?_
 obtain ⟨u0, u1, u2⟩ := box3 BX.out
 have f0 := blk_frozen BX.out 0
 have f1 := blk_frozen BX.out 1
 have f2 := blk_frozen BX.out 2
 have hgl := (HO.out.lt g' rfl)
 have e0 := heap_setCell_same _ (w.heap.size + 1) 0 _ 120 (.slice (some ⟨g', 0, none⟩) N c') BX.out
 have e1 := heap_setCell_same _ (w.heap.size + 1) 1 _ 120 (.int .i64 rn) e0
 have e2 := heap_setCell_same _ (w.heap.size + 1) 2 _ 120 (.int .i64 rg) e1
 have BF := A_ e2
 have hne : g' ≠ w.heap.size + 1 := by have := hgl.1; omega
 have HOF := A_ (ownsRow_setCell_other (ownsRow_setCell_other (ownsRow_setCell_other HO.out (a := ⟨w.heap.size + 1, 0, none⟩) (by simp [Value.ownBlock]; exact hne) (.slice (some ⟨g', 0, none⟩) N c')) (a := ⟨w.heap.size + 1, 1, none⟩) (by simp [Value.ownBlock]; exact hne) (.int .i64 rn)) (a := ⟨w.heap.size + 1, 2, none⟩) (by simp [Value.ownBlock]; exact hne) (.int .i64 rg))
 have HBF := A_ (((HB.out.setCell (p := ⟨w.heap.size + 1, 0, none⟩) (Nat.le_succ _) (.slice (some ⟨g', 0, none⟩) N c')).setCell (p := ⟨w.heap.size + 1, 1, none⟩) (Nat.le_succ _) (.int .i64 rn)).setCell (p := ⟨w.heap.size + 1, 2, none⟩) (Nat.le_succ _) (.int .i64 rg))
 clear e0 e1 e2 HH
 go_wp2
 clear u0 u1 u2 f0 f1 f2
 generalize ((wk.setCell ⟨w.heap.size + 1, 0, none⟩ (.slice (some ⟨g', 0, none⟩) N c')).setCell ⟨w.heap.size + 1, 1, none⟩ (.int .i64 rn)).setCell ⟨w.heap.size + 1, 2, none⟩ (.int .i64 rg) = WF at *
 have BF2 : WF.heap[w.heap.size + 1]? = some (.cells #[.slice (some ⟨g', 0, none⟩) N c', .int .i64 rn, .int .i64 rg] 120 (0, 0)) := BF.out
 obtain ⟨r0, r1, r2⟩ := box3 BF2
 have HOL : WF.ownsRow w.heap.size 69 8 (.slice (some ⟨g', 0, none⟩) N c') N fs := own_lower9 HOF.out (by omega)
 exact bodyPost_ret (v := .agg #[.slice (some ⟨g', 0, none⟩) N c', .int .i64 rn, .int .i64 rg]) (by simp [results, Try.results85, go_sem, r0, r1, r2]) rfl ⟨g', c', rfl, HOL, HBF.out⟩
theorem moves3 {b0 wb o : Nat} {S : Nat → Prop} {W X : World} (hS : S wb) (hb : b0 ≤ wb) (hm : Moves b0 S W X) (a b c : Value) : Moves b0 S W (((X.setCell ⟨wb, o, none⟩ a).setCell ⟨wb, o + 1, none⟩ b).setCell ⟨wb, o + 2, none⟩ c) :=
 ((hm.set (p := ⟨wb, o, none⟩) (.inl hS) hb a).set (p := ⟨wb, o + 1, none⟩) (.inl hS) hb b).set (p := ⟨wb, o + 2, none⟩) (.inl hS) hb c
theorem own3 {b0 g c n wb o : Nat} {xs : List Value} {X : World} (h : X.ownsRow b0 69 8 (.slice (some ⟨g, 0, none⟩) n c) n xs) (hne : g ≠ wb) (a b c' : Value) : (((X.setCell ⟨wb, o, none⟩ a).setCell ⟨wb, o + 1, none⟩ b).setCell ⟨wb, o + 2, none⟩ c').ownsRow b0 69 8 (.slice (some ⟨g, 0, none⟩) n c) n xs :=
 ownsRow_setCell_other (ownsRow_setCell_other (ownsRow_setCell_other h (a := ⟨wb, o, none⟩) (by simp [Value.ownBlock]; exact hne) a) (a := ⟨wb, o + 1, none⟩) (by simp [Value.ownBlock]; exact hne) b) (a := ⟨wb, o + 2, none⟩) (by simp [Value.ownBlock]; exact hne) c'
def settleW (s : WS) : WS := { s with base := s.now, bn := s.rn, bg := s.rg }
def resetW (s : WS) : WS := { s with now := s.base, rn := s.bn, rg := s.bg }
set_option maxHeartbeats 8000000 in
set_option maxRecDepth 100000 in
theorem wsettle_calls (b0 : Nat) (L : WL) (s : WS) (w : World) (h : WorkIs b0 L s w) (h0 : b0 ≤ w.heap.size) (hn : 0 < L.rs.length) (hl : L.rs.length ≤ 90000) : Calls Try.prog 25 #[.pointer (some ⟨L.wb, 0, none⟩)] w fun e w' => e = .returned (.int .i64 0) ∧ AllPost b0 L (settleW s) w w' := by
 have hu120 := Try.underlying120
 have hu123 := Try.underlying123
 have hlt := h.lt
 obtain ⟨k0, k1, k2, k3, k4, k5, k6⟩ := h.box
 have KC := A_ (copied_calls L.rs ⟨L.g, 0, none⟩ L.c s.rn s.rg w hn hl (h.2.2.2.2.1.cells rfl))
 have H := A_ h
 clear h
 go_enter Try.func25, Try.ntmps25
 go_wp2_with fail
 refine Calls.mono KC.out ?_
 rintro e w1 ⟨g', c', rfl, ho, hb⟩
 have H1 := A_ (H.out.below hb)
 have HO := A_ ho
 have hgl := ho.lt g' rfl
 have M1 := (Moves.refl b0 L.S w).below h0 hb
 have hl1 := H1.out.lt.1
 have hne1 : g' ≠ L.wb := by omega
 have hne2 : g' ≠ L.g := by omega
 have hne3 : ¬ L.z g' := fun e => by have := (H.out.2.2.2.2.2.2.2.2.2 g' e).1; omega
 clear k0 k1 k2 k3 k4 k5 k6 hb KC ho
 obtain ⟨k0, k1, k2, k3, k4, k5, k6⟩ := H1.out.box
 have f3 := H1.out.frz 3
 have f4 := H1.out.frz 4
 have f5 := H1.out.frz 5
 have MF := moves3 (o := 3) (.inl rfl) H1.out.1 M1 (.slice (some ⟨g', 0, none⟩) L.rs.length c') (.int .i64 s.rn) (.int .i64 s.rg)
 have e0 := heap_setCell_same _ L.wb 3 _ 123 (.slice (some ⟨g', 0, none⟩) L.rs.length c') H1.out.2.2.2.1
 have e1 := heap_setCell_same _ L.wb 4 _ 123 (.int .i64 s.rn) e0
 have e2 := heap_setCell_same _ L.wb 5 _ 123 (.int .i64 s.rg) e1
 have OF := own3 (o := 3) HO.out hne1 (.slice (some ⟨g', 0, none⟩) L.rs.length c') (.int .i64 s.rn) (.int .i64 s.rg)
 have ON := own3 (o := 3) H1.out.2.2.2.2.1 (fun e => H1.out.2.2.1 e.symm) (.slice (some ⟨g', 0, none⟩) L.rs.length c') (.int .i64 s.rn) (.int .i64 s.rg)
 have RW := H.out.rows (L' := { L with aB := some ⟨g', 0, none⟩, cB := c' }) MF.2 rfl (.inl rfl) rfl
 have hcap : s.now.length ≤ c' := by
  rcases HO.out.2 with ⟨a, _⟩ | ⟨_, _, _, a, _, _, b, _⟩
  · cases a
  · injection a with _ _ a; rw [H.out.len]; omega
 have FW := A_ (show WorkIs b0 { L with aB := some ⟨g', 0, none⟩, cB := c' } (settleW s) _ from ⟨H1.out.1, H1.out.2.1, H1.out.2.2.1, by
  rw [e2]
  simp [WL.cells, settleW, H.out.len], ON, H1.out.2.2.2.2.2.1, RW.1, hcap, And.intro (by
  have hc := close_rs (M := fun k => ¬ WL.N { L with aB := some ⟨g', 0, none⟩, cB := c' } k) OF RW.1 (fun o => o.elim (fun o => o.elim hne1 hne2) hne3) (fun k hk => hk)
  rw [H.out.2.2.2.2.2.1] at hc
  show Kd.F k69 _ _ (some ⟨g', 0, none⟩) s.now.length s.now
  rw [H.out.len]
  exact hc) (fun k hk => ⟨Nat.lt_of_lt_of_le (H.out.2.2.2.2.2.2.2.2.2 k hk).1 MF.2.1, (H.out.2.2.2.2.2.2.2.2.2 k hk).2⟩)⟩)
 have FM := A_ MF
 clear MF e0 e1 e2 OF ON RW hcap M1
 go_wp2
 go_ret
 exact ⟨rfl, { L with aB := some ⟨g', 0, none⟩, cB := c' }, rfl, .inl rfl, FW.out, FM.out, rfl⟩
set_option maxHeartbeats 8000000 in
set_option maxRecDepth 100000 in
theorem wreset_calls (b0 : Nat) (L : WL) (s : WS) (w : World) (h : WorkIs b0 L s w) (h0 : b0 ≤ w.heap.size) (hn : 0 < s.base.length) (hl : s.base.length ≤ 90000) : Calls Try.prog 38 #[.pointer (some ⟨L.wb, 0, none⟩)] w fun e w' => e = .returned (.int .i64 0) ∧ AllPost b0 L (resetW s) w w' := by
 have hu120 := Try.underlying120
 have hu123 := Try.underlying123
 have hlt := h.lt
 obtain ⟨k0, k1, k2, k3, k4, k5, k6⟩ := h.box
 obtain ⟨ad, rs, hA, hrl, hrx, hrf, hrc⟩ := open_rs h.2.2.2.2.2.2.2.2.1 hn
 have KC := copied_calls rs ad L.cB s.bn s.bg w (by omega) (by omega) hrc
 rw [hrl, ← hA] at KC
 have KC := A_ KC
 have RX := A_ (And.intro hrl (And.intro hrx hrf))
 have H := A_ h
 clear h hrl hrx hrf hrc hA
 go_enter Try.func38, Try.ntmps38
 go_wp2_with fail
 refine Calls.mono KC.out ?_
 rintro e w1 ⟨g', c', rfl, ho, hb⟩
 have H1 := A_ (H.out.below hb)
 have HO := A_ ho
 have hgl := ho.lt g' rfl
 have M1 := (Moves.refl b0 L.S w).below h0 hb
 have hl1 := H1.out.lt.1
 have hne1 : g' ≠ L.wb := by omega
 clear k0 k1 k2 k3 k4 k5 k6 hb KC ho
 obtain ⟨k0, k1, k2, k3, k4, k5, k6⟩ := H1.out.box
 have f0 := H1.out.frz 0
 have f1 := H1.out.frz 1
 have f2 := H1.out.frz 2
 have MF := moves3 (o := 0) (.inl rfl) H1.out.1 M1 (.slice (some ⟨g', 0, none⟩) s.base.length c') (.int .i64 s.bn) (.int .i64 s.bg)
 have e0 := heap_setCell_same _ L.wb 0 _ 123 (.slice (some ⟨g', 0, none⟩) s.base.length c') H1.out.2.2.2.1
 have e1 := heap_setCell_same _ L.wb 1 _ 123 (.int .i64 s.bn) e0
 have e2 := heap_setCell_same _ L.wb 2 _ 123 (.int .i64 s.bg) e1
 have OF := own3 (o := 0) HO.out hne1 (.slice (some ⟨g', 0, none⟩) s.base.length c') (.int .i64 s.bn) (.int .i64 s.bg)
 obtain ⟨L2, hL2⟩ : ∃ L2 : WL, L2 = { L with g := g', c := c', rs := rs } := ⟨_, rfl⟩
 have RW := H.out.rows (L' := L2) MF.2 (by rw [hL2]) (.inr (by rw [hL2]; exact hgl.1)) (by rw [hL2])
 have FW := A_ (show WorkIs b0 L2 (resetW s) _ from ⟨by rw [hL2]; exact H1.out.1, by rw [hL2]; show b0 ≤ g'; omega, by rw [hL2]; exact fun e => hne1 e.symm, by
  rw [hL2]
  show _ = some (Obj.cells (WL.cells _ _) 123 (0, 0))
  rw [e2]
  simp [WL.cells, resetW, RX.out.1], by
  rw [hL2]
  show World.ownsRow _ b0 69 8 (.slice (some ⟨g', 0, none⟩) rs.length c') rs.length (flatS rs)
  rw [RX.out.1]
  exact own_lower9 OF h0, by rw [hL2]; exact RX.out.2.1, fun y hy => by
  have hy' : y ∈ rs := by rw [hL2] at hy; exact hy
  refine FV.mono (FV.kept (FV.bound (RX.out.2.2 y hy')) MF.2 (fun k hk e => hk.1 (.inl e))) (fun k hk => ?_)
  rw [hL2]
  rintro ((e | e) | e)
  · exact hk.1 (.inl (.inl e))
  · have := hk.2; have e : k = g' := e; omega
  · exact hk.1 (.inr e), by rw [hL2]; exact H.out.2.2.2.2.2.2.2.1, And.intro (by
  have e : L2.aB = L.aB := by rw [hL2]
  rw [e]
  exact RW.2) (fun k hk => ⟨Nat.lt_of_lt_of_le (H.out.2.2.2.2.2.2.2.2.2 k (by rw [hL2] at hk; exact hk)).1 MF.2.1, by
   have hzk := H.out.2.2.2.2.2.2.2.2.2 k (by rw [hL2] at hk; exact hk)
   rw [hL2]
   rintro (e | e)
   · exact hzk.2 (.inl e)
   · have := hzk.1; have e : k = g' := e; omega⟩)⟩)
 have Q := A_ (show L2.wb = L.wb ∧ w.heap.size ≤ L2.g ∧ L2.z = L.z by rw [hL2]; exact ⟨rfl, hgl.1, rfl⟩)
 have FM := A_ MF
 clear MF e0 e1 e2 OF RW M1 hL2
 go_wp2
 go_ret
 exact ⟨rfl, L2, Q.out.1, .inr Q.out.2.1, FW.out, FM.out, Q.out.2.2⟩
theorem mixed_set {α : Type} (f : α → α) (l : List α) {z : α} (k : Nat) (hk : k < l.length) : ((l.take k).map f ++ l.drop k).set k (f (l.getD k z)) = (l.take (k + 1)).map f ++ l.drop (k + 1) := by
 have hL : ((l.take k).map f).length = k := by simp; omega
 rw [List.drop_eq_getElem_cons hk, List.set_append_right _ _ (by omega), hL, Nat.sub_self, List.set_cons_zero, List.take_succ_eq_append_getElem hk, List.map_append, List.append_assoc, List.getD_eq_getElem?_getD, List.getElem?_eq_getElem hk]
 rfl
theorem mixed_at {α : Type} (f : α → α) (l : List α) {z : α} (k : Nat) (hk : k < l.length) : ((l.take k).map f ++ l.drop k).getD k z = l.getD k z := by
 have hL : ((l.take k).map f).length = k := by simp; omega
 rw [List.getD_eq_getElem?_getD, List.getD_eq_getElem?_getD, List.getElem?_append_right (by omega), hL, Nat.sub_self, List.getElem?_drop, Nat.add_zero]
def plainS (x : S69) : S69 := ⟨x.f0, x.f1, plain x.f2⟩
def OwnS (b g c : Nat) (rs : List RS) (W : World) : Prop := W.ownsRow b 69 8 (.slice (some ⟨g, 0, none⟩) rs.length c) rs.length (flatS rs) ∧ ∀ y ∈ rs, FS (fun k => k ≠ g) y W
theorem OwnS.lt {b g c : Nat} {rs : List RS} {W : World} (h : OwnS b g c rs W) : b ≤ g ∧ g < W.heap.size := h.1.lt g rfl
theorem OwnS.below {b g c : Nat} {rs : List RS} {W W' : World} (h : OwnS b g c rs W) (hb : RowKit.Below W.heap.size W W') : OwnS b g c rs W' := ⟨own_move h.1 (fun k hk => hb.block k (h.1.lt k hk).2), fun y hy => (h.2 y hy).below hb⟩
theorem OwnS.read {b g c : Nat} {rs : List RS} {W : World} (h : OwnS b g c rs W) : Kd.F k69 W (fun _ => True) (some ⟨g, 0, none⟩) rs.length (rs.map (fun y => y.x)) := close_rs h.1 h.2 trivial (fun _ _ => trivial)
theorem OwnS.at {b g c : Nat} {rs : List RS} {W : World} (h : OwnS b g c rs W) (i : Nat) (hi : i < rs.length) : ∃ y : RS, y = rs.getD i default ∧ y ∈ rs ∧
 W.cell? ⟨g, i * 8, none⟩ = some (.int .i64 y.x.f0) ∧ W.cell? ⟨g, i * 8 + 1, none⟩ = some (.bool y.x.f1) ∧ W.cell? ⟨g, i * 8 + 2, none⟩ = some (.int .i64 y.x.f2.f0) ∧ W.cell? ⟨g, i * 8 + 3, none⟩ = some (.int .i64 y.x.f2.f1) ∧
 W.cell? ⟨g, i * 8 + 4, none⟩ = some (.int .i64 y.x.f2.f2) ∧ W.cell? ⟨g, i * 8 + 5, none⟩ = some (.string y.x.f2.f3) ∧ W.cell? ⟨g, i * 8 + 6, none⟩ = some (.slice y.a4 y.x.f2.f4.length y.c4) ∧ W.cell? ⟨g, i * 8 + 7, none⟩ = some (.slice y.a5 y.x.f2.f5.length y.c5) := by
 have hc : ∀ t, t < 8 → W.cell? ⟨g, i * 8 + t, none⟩ = (encS (rs.getD i default))[t]? := fun t ht => by
  rw [h.1.cellAt (i * 8 + t) (by omega), flatS_get _ _ _ hi ht]
 exact ⟨_, rfl, getD_mem _ _ hi _, hc 0 (by omega), hc 1 (by omega), hc 2 (by omega), hc 3 (by omega), hc 4 (by omega), hc 5 (by omega), hc 6 (by omega), hc 7 (by omega)⟩
theorem OwnS.store {b g c : Nat} {rs : List RS} {W : World} (h : OwnS b g c rs W) (i : Nat) (hi : i < rs.length) (y' : RS) (t : Nat) (vs : List Value) (ht : t + vs.length ≤ 8)
 (he : encS y' = (encS (rs.getD i default)).take t ++ vs ++ (encS (rs.getD i default)).drop (t + vs.length)) (hy : FS (fun k => k ≠ g) y' W) : OwnS b g c (rs.set i y') (W.setCells g (i * 8 + t) vs) := by
 have hm : Moves 0 (fun k => k = g) W (W.setCells g (i * 8 + t) vs) := moves_cells (S := fun k => k = g) rfl (Nat.zero_le _) vs _ W (Moves.refl _ _ _)
 constructor
 · have h1 := own_store vs W (rs.map encS) i t (encS (rs.getD i default)) h.1 (flatS_all _) (by rw [List.getElem?_map, List.getD_eq_getElem?_getD, List.getElem?_eq_getElem hi]; rfl) ht
   rw [← he, ← List.map_set] at h1
   rw [List.length_set]
   exact h1
 · intro y hy2
   rcases List.mem_or_eq_of_mem_set hy2 with hy2 | rfl
   · exact FV.kept (h.2 y hy2) hm.2 (fun k hk => hk)
   · exact FV.kept hy hm.2 (fun k hk => hk)
def inB (n a b : Int) : Bool := decide (a ≤ n) && decide (n ≤ b)
set_option maxHeartbeats 4000000 in
set_option maxRecDepth 100000 in
theorem in_calls (n a b : Int) (w : World) : Calls Try.prog 83 #[.int .i64 n, .int .i64 a, .int .i64 b] w fun e w' => e = .returned (.bool (inB n a b)) ∧ w' = w := by
 go_enter Try.func83, Try.ntmps83
 go_wp2
 all_goals
  go_ret
  refine ⟨ret_b ?_, rfl⟩
  unfold inB
  first | (simp [*]; done) | (simp; omega)
def rootB (n g : Int) : Bool := (decide (n = 0) && decide (g = 0)) || (inB n 1 8388607 && inB g 0 65535)
set_option maxHeartbeats 4000000 in
set_option maxRecDepth 100000 in
theorem rooted_calls (n g : Int) (w : World) : Calls Try.prog 84 #[.agg #[.int .i64 n, .int .i64 g]] w fun e w' => e = .returned (.bool (rootB n g)) ∧ RowKit.Below w.heap.size w w' := by
 have hu28 := Try.underlying28
 have HB := A_ (below_alloc (RowKit.Below.refl w.heap.size w) (.cells #[.int .i64 n, .int .i64 g] 28))
 obtain ⟨z0, z1⟩ := box2 (blk_new w (.cells #[.int .i64 n, .int .i64 g] 28))
 by_cases h0 : n = 0 ∧ g = 0
 · obtain ⟨rfl, rfl⟩ := h0
   go_enter Try.func84, Try.ntmps84
   go_wp2
   go_ret
   exact ⟨ret_b (by unfold rootB; rfl), HB.out⟩
 have K1 := in_calls n 1 8388607 (w.alloc (.cells #[.int .i64 n, .int .i64 g] 28))
 have K2 := in_calls g 0 65535 (w.alloc (.cells #[.int .i64 n, .int .i64 g] 28))
 have hR : rootB n g = (inB n 1 8388607 && inB g 0 65535) := by
  unfold rootB
  have h1 : (decide (n = 0) && decide (g = 0)) = false := by
   rw [Bool.and_eq_false_iff]
   by_cases hn : n = 0
   · exact .inr (decide_eq_false (fun e => h0 ⟨hn, e⟩))
   · exact .inl (decide_eq_false hn)
  rw [h1, Bool.false_or]
 rw [hR]
 clear hR
 cases h1 : inB n 1 8388607
 · rw [h1] at K1
   go_enter Try.func84, Try.ntmps84
   go_wp2_with (go_at_call 83; refine Calls.mono K1 ?_; rintro e w1 ⟨rfl, rfl⟩)
   all_goals
    go_ret
    exact ⟨ret_b (by simp), HB.out⟩
 · rw [h1] at K1
   go_enter Try.func84, Try.ntmps84
   go_wp2_with (first | (go_at_call 83; with_reducible refine Calls.mono K1 ?_; rintro e w1 ⟨rfl, rfl⟩) | (go_at_call 83; with_reducible refine Calls.mono K2 ?_; rintro e w1 ⟨rfl, rfl⟩))
   all_goals
    go_ret
    exact ⟨ret_b (by simp), HB.out⟩
theorem made_flat (n : Nat) : (madeCells (Value.agg #[(.int .i64 0), (.bool false), (.int .i64 0), (.int .i64 0), (.int .i64 0), (.string ⟨#[]⟩), (.slice none 0 0), (.slice none 0 0)]).cells (n * 8)).toList = flatS (List.replicate n ⟨z69, none, 0, none, 0⟩) := by
 apply List.ext_getElem?
 intro j
 by_cases hj : j < n * 8
 · have e : j = j / 8 * 8 + j % 8 := by omega
   have h8 : j % 8 < 8 := by omega
   rw [e, flatS_get _ _ _ (by rw [List.length_replicate]; omega) h8, ← e]
   have hg : (List.replicate n (⟨z69, none, 0, none, 0⟩ : RS)).getD (j / 8) default = ⟨z69, none, 0, none, 0⟩ := by
    rw [List.getD_eq_getElem?_getD, List.getElem?_replicate, if_pos (by omega)]
    rfl
   rw [hg]
   have hm : (madeCells (Value.agg #[(.int .i64 0), (.bool false), (.int .i64 0), (.int .i64 0), (.int .i64 0), (.string ⟨#[]⟩), (.slice none 0 0), (.slice none 0 0)]).cells (n * 8)).toList[j]? = (encS ⟨z69, none, 0, none, 0⟩)[j % 8]? := by
    simp only [madeCells, Value.cells]
    simp [hj]
    generalize j % 8 = t at h8
    rcases t with _ | _ | _ | _ | _ | _ | _ | _ | t
    · rfl
    · rfl
    · rfl
    · rfl
    · rfl
    · rfl
    · rfl
    · rfl
    · omega
   exact hm
 · rw [List.getElem?_eq_none (by simp [madeCells]; omega), List.getElem?_eq_none (by rw [flatS_len, List.length_replicate]; omega)]
def newS (b : List S69) (i : Nat) : S69 := if i < b.length then (if (b.getD i z69).f1 = true ∧ 0 < i then ⟨(b.getD i z69).f0, true, plain (b.getD i z69).f2⟩ else ⟨(b.getD i z69).f0, false, z35⟩) else z69
def newNow (b : List S69) : List S69 := (List.range (max 1 b.length)).map (newS b)
def badG (x : S69) : Bool := !(inB x.f0 0 65535)
def newE (b : List S69) (rn rg most : Int) : Int := if inB most 1 8388606 = false then 2 else if b.any badG = true then 2 else if rootB rn rg = false then 3 else 0
def newW (b : List S69) (rn rg most : Int) : WS := ⟨newNow b, rn, rg, newNow b, rn, rg, most⟩
def partS (b : List S69) (k : Nat) : List S69 := (List.range (max 1 b.length)).map fun i => if i < k then newS b i else z69
theorem partS_zero (b : List S69) : partS b 0 = List.replicate (max 1 b.length) z69 := by
 unfold partS
 apply List.ext_getElem
 · simp
 · intro i h1 h2
   simp
theorem partS_step (b : List S69) (k : Nat) (hk : k < b.length) : (partS b k).set k (newS b k) = partS b (k + 1) := by
 unfold partS
 apply List.ext_getElem
 · simp
 · intro i h1 h2
   rw [List.getElem_set]
   by_cases hik : k = i
   · subst hik
     simp
   · rw [if_neg hik]
     simp only [List.getElem_map, List.getElem_range]
     by_cases h3 : i < k
     · rw [if_pos h3, if_pos (by omega)]
     · rw [if_neg h3, if_neg (by omega)]
theorem partS_at (b : List S69) (k : Nat) (hk : k < b.length) : (partS b k).getD k z69 = z69 := by
 unfold partS
 rw [List.getD_eq_getElem?_getD, List.getElem?_map, List.getElem?_range (by omega)]
 simp
theorem partS_end (b : List S69) : partS b b.length = newNow b := by
 unfold partS newNow
 refine List.map_congr_left fun i hi => ?_
 by_cases h : i < b.length
 · rw [if_pos h]
 · rw [if_neg h]; unfold newS; rw [if_neg h]
theorem make46 (W : World) (base n : Nat) (hn : n ≤ 90000) (hb : base ≤ W.heap.size) : ∃ w', (Instr.makeSlice 46 (.int .i64 (n : Int)) (.int .i64 (n : Int))).run Try.prog W = .ok (.slice (some ⟨W.heap.size, 0, none⟩) n n) w' ∧ OwnS base W.heap.size n (List.replicate n ⟨z69, none, 0, none, 0⟩) w' ∧ W.grownBy w' none := by
 obtain ⟨i0, hi, hz0, hz1, hz2⟩ := info_parts info69
 obtain ⟨w', hr, ho, hg⟩ := run_make_full (P := Try.prog) W base 46 69 i0 _ 8 Try.underlying46 hi hz0 hz1 .i64 .i64 n (by rw [hz2]; omega) (by simp only [maxLen]; omega) hb
 rw [made_flat] at ho
 refine ⟨w', hr, ⟨by rw [List.length_replicate]; exact ho, fun y hy => ?_⟩, hg⟩
 rw [List.mem_replicate] at hy
 rw [hy.2]
 exact FV.nil _ _ _ rfl rfl
def NewPost (b : List S69) (rn rg most : Int) (w : World) (e : Ending) (w' : World) : Prop :=
 (newE b rn rg most ≠ 0 ∧ e = .returned (.tuple #[.pointer none, .int .i64 (newE b rn rg most)]) ∧ RowKit.Below w.heap.size w w') ∨
 (newE b rn rg most = 0 ∧ ∃ L : WL, e = .returned (.tuple #[.pointer (some ⟨L.wb, 0, none⟩), .int .i64 0]) ∧ WorkIs w.heap.size L (newW b rn rg most) w' ∧ RowKit.Below w.heap.size w w')
set_option maxHeartbeats 16000000 in
set_option maxRecDepth 100000 in
theorem wnew_calls (b : List S69) (A : Option Addr) (c : Nat) (rn rg most : Int) (w : World) (hb0 : k69.C w A b.length b) (hl : b.length ≤ 80000) (hf : ∀ x ∈ b, fewV x.f2) : Calls Try.prog 17 #[.slice A b.length c, .agg #[.int .i64 rn, .int .i64 rg], .int .i64 most] w (NewPost b rn rg most w) := by
 have hu28 := Try.underlying28
 have hu35 := Try.underlying35
 have hu46 := Try.underlying46
 have hu69 := Try.underlying69
 have hu120 := Try.underlying120
 have hu123 := Try.underlying123
 have hu23 := Try.underlying23
 have HBR := A_ (blk_new w (.cells #[.int .i64 rn, .int .i64 rg] 28))
 have HB := A_ (below_alloc (RowKit.Below.refl w.heap.size w) (.cells #[.int .i64 rn, .int .i64 rg] 28))
 have KI := in_calls most 1 8388606 (w.alloc (.cells #[.int .i64 rn, .int .i64 rg] 28))
 have HC := A_ hb0
 have HF := A_ hf
 have HP := A_ (show ∀ e w', NewPost b rn rg most w e w' → NewPost b rn rg most w e w' from fun _ _ h => h)
 obtain ⟨Q0, hQ0⟩ : ∃ Q, Q = NewPost b rn rg most w := ⟨_, rfl⟩
 rw [← hQ0]
 have HQ := A_ hQ0
 obtain ⟨N, hN⟩ : ∃ N, N = b.length := ⟨_, rfl⟩
 rw [← hN] at hl
 rw [← hN]
 have HN := A_ hN
 have HL := A_ hl
 clear hQ0 hb0 hf hN
 cases hmo : inB most 1 8388606
 · rw [hmo] at KI
   have HE := A_ (show newE b rn rg most = 2 by unfold newE; rw [hmo, if_pos rfl])
   go_enter Try.func17, Try.ntmps17
   go_wp2_with fail
   refine Calls.mono KI ?_
   rintro e w1 ⟨rfl, rfl⟩
   clear KI
   go_wp2
   rw [HQ.out]
   exact .inl ⟨by rw [HE.out]; decide, by rw [HE.out]; rfl, HB.out⟩
 rw [hmo] at KI
 have HMO := A_ hmo
 obtain ⟨M, hM⟩ : ∃ M, M = max 1 N := ⟨_, rfl⟩
 obtain ⟨w2, hrun, ho, hg⟩ := make46 (w.alloc (.cells #[.int .i64 rn, .int .i64 rg] 28)) w.heap.size M (by omega) (by rw [World.size_alloc]; omega)
 rw [show ((M : Nat) : Int) = max 1 (N : Int) by omega] at hrun
 simp only [World.size_alloc] at hrun ho
 have HO := A_ ho
 have HB2 := A_ (HB.out.grown hg (by rw [World.size_alloc]; omega) (fun k hk => by cases hk))
 have HBR2 := A_ ((hg.block w.heap.size (by rw [World.size_alloc]; omega) (by simp)).trans HBR.out)
 have HM := A_ hM
 have hMN : N ≤ M := by omega
 have hM9 : M ≤ 80000 := by omega
 have HX0 := A_ (show (List.replicate M (⟨z69, none, 0, none, 0⟩ : RS)).map (fun y => y.x) = partS b 0 by rw [partS_zero, ← HN.out, ← HM.out, List.map_replicate])
 clear hmo ho hg hM
 go_enter Try.func17, Try.ntmps17
 go_wp2_with fail
 refine Calls.mono KI ?_
 rintro e w1 ⟨rfl, rfl⟩
 clear KI
 go_wp2
 clear hrun
 go_loopw [21] (fun i wr => ∃ (k : Nat) (rs : List RS), k ≤ N ∧ i = .int .i64 k ∧ Aside0 (rs.length = M) ∧ Aside0 (OwnS w.heap.size (w.heap.size + 1) M rs wr) ∧ Aside0 (rs.map (fun y => y.x) = partS b k) ∧ Aside0 (RowKit.Below w.heap.size w wr) ∧ Aside0 (wr.heap[w.heap.size]? = some (.cells #[.int .i64 rn, .int .i64 rg] 28)) ∧ Aside0 ((b.take k).any badG = false)) (fun i _ => N - (intOf i).toNat)
 case atStart => exact ⟨0, _, Nat.zero_le _, rfl, ⟨by rw [List.length_replicate]⟩, HO, HX0, HB2, HBR2, ⟨by simp⟩⟩
 case round =>
  clear HO HX0 HB2 HBR2 HB HBR
  obtain ⟨k, rs, hk, rfl, HRL, HO, HX, HB, HBR, HBD⟩ := hrel
  by_cases hlt : k < N
  · have hkb : k < b.length := by have := HN.out; omega
    obtain ⟨ad, P4, p4, P5, p5, rfl, x0, x1, x2, x3, x4, x5, x6, x7, lp4, gp4, lp5, gp5⟩ := at_T69 HC.out (k : Int) (by omega) (by omega)
    simp only [rd_T69, Int.toNat_natCast] at x0 x1 x2 x3 x4 x5 x6 x7 lp4 gp4 lp5 gp5
    replace x0 := up_ HB.out.cell x0
    replace x1 := up_ HB.out.cell x1
    replace x2 := up_ HB.out.cell x2
    replace x3 := up_ HB.out.cell x3
    replace x4 := up_ HB.out.cell x4
    replace x5 := up_ HB.out.cell x5
    replace x6 := up_ HB.out.cell x6
    replace x7 := up_ HB.out.cell x7
    have hxk : newS b k = if (b.getD k z69).f1 = true ∧ 0 < k then ⟨(b.getD k z69).f0, true, plain (b.getD k z69).f2⟩ else ⟨(b.getD k z69).f0, false, z35⟩ := by unfold newS; rw [if_pos hkb]
    have hbk : (b.take (k + 1)).any badG = ((b.take k).any badG || badG (b.getD k z69)) := by
     rw [List.take_succ_eq_append_getElem hkb, List.getD_eq_getElem?_getD, List.getElem?_eq_getElem hkb, List.any_append]
     simp only [List.any_cons, List.any_nil, Bool.or_false]
     rfl
    have hbm := getD_mem b k hkb z69
    have hst := partS_step b k hkb
    generalize b.getD k z69 = x at *
    have HXK := A_ hxk
    have HBK := A_ hbk
    have HBM := A_ hbm
    have HST := A_ hst
    have HPV := A_ (show HasV x.f2 P4 p4 P5 p5 w from ⟨lp4, gp4, lp5, gp5⟩)
    have hwk : wrap64 ((k : Int) + 1) = (k : Int) + 1 := by have := HL.out; unfold wrap64; omega
    have HWK := A_ hwk
    clear hxk hbk hbm hst hwk lp4 gp4 lp5 gp5 hkb
    go_upto_region 7 with fail
    have HB1 := A_ (below_alloc HB.out (.cells #[.int .i64 x.f0, .bool x.f1, .int .i64 x.f2.f0, .int .i64 x.f2.f1, .int .i64 x.f2.f2, .string x.f2.f3, .slice P4 x.f2.f4.length p4, .slice P5 x.f2.f5.length p5] 69))
    have HO1 := A_ (HO.out.below (below_alloc (RowKit.Below.refl _ wr) (.cells #[.int .i64 x.f0, .bool x.f1, .int .i64 x.f2.f0, .int .i64 x.f2.f1, .int .i64 x.f2.f2, .string x.f2.f3, .slice P4 x.f2.f4.length p4, .slice P5 x.f2.f5.length p5] 69)))
    have HBR1 := A_ (blk_alloc HBR.out (.cells #[.int .i64 x.f0, .bool x.f1, .int .i64 x.f2.f0, .int .i64 x.f2.f1, .int .i64 x.f2.f2, .string x.f2.f3, .slice P4 x.f2.f4.length p4, .slice P5 x.f2.f5.length p5] 69))
    have BX := A_ (blk_new wr (.cells #[.int .i64 x.f0, .bool x.f1, .int .i64 x.f2.f0, .int .i64 x.f2.f1, .int .i64 x.f2.f2, .string x.f2.f3, .slice P4 x.f2.f4.length p4, .slice P5 x.f2.f5.length p5] 69))
    have hwr : w.heap.size + 1 < wr.heap.size := HO.out.lt.2
    have hw3 : wr.heap.size < (wr.alloc (.cells #[.int .i64 x.f0, .bool x.f1, .int .i64 x.f2.f0, .int .i64 x.f2.f1, .int .i64 x.f2.f2, .string x.f2.f3, .slice P4 x.f2.f4.length p4, .slice P5 x.f2.f5.length p5] 69)).heap.size := by simp
    clear x0 x1 x2 x3 x4 x5 x6 x7 HO HBR HB
    generalize wr.alloc (.cells #[.int .i64 x.f0, .bool x.f1, .int .i64 x.f2.f0, .int .i64 x.f2.f1, .int .i64 x.f2.f2, .string x.f2.f3, .slice P4 x.f2.f4.length p4, .slice P5 x.f2.f5.length p5] 69) = w3 at *
    obtain ⟨v0, v1, v2, v3, v4, v5, v6, v7⟩ := box8 BX.out
    have KI := in_calls x.f0 0 65535 w3
    go_wp2_with fail
    cases hgi : inB x.f0 0 65535
    · rw [hgi] at KI
      have HE := A_ (show newE b rn rg most = 2 by
       unfold newE
       rw [HMO.out, if_neg (by decide), if_pos]
       rw [List.any_eq_true]
       exact ⟨x, HBM.out, by unfold badG; rw [hgi]; rfl⟩)
      refine Calls.mono KI ?_
      rintro e w4 ⟨rfl, hw4e⟩
      rw [hw4e]
      clear hw4e w4
      clear KI
      go_wp2
      rw [HQ.out]
      exact .inl ⟨by rw [HE.out]; decide, by rw [HE.out]; rfl, HB1.out⟩
    · rw [hgi] at KI
      have HBD2 := A_ (show (b.take (k + 1)).any badG = false by rw [HBK.out, HBD.out, Bool.false_or]; unfold badG; rw [hgi]; rfl)
      refine Calls.mono KI ?_
      rintro e w4 ⟨rfl, hw4e⟩
      rw [hw4e]
      clear hw4e w4
      clear KI hgi
      obtain ⟨y, hy, hym, s0, -⟩ := HO1.out.at k (by have := HRL.out; omega)
      have fz0 := HO1.out.1.frozenAt (k * 8)
      have hyx : y.x = z69 := by
       have h1 : (rs.map (fun y => y.x)).getD k z69 = y.x := by
        rw [hy, List.getD_eq_getElem?_getD, List.getD_eq_getElem?_getD, List.getElem?_map, List.getElem?_eq_getElem (by have := HRL.out; omega)]
        rfl
       rw [← h1, HX.out]
       exact partS_at b k (by have := HN.out; omega)
      have O2 := A_ (HO1.out.store k (by have := HRL.out; omega) ⟨⟨x.f0, false, z35⟩, y.a4, y.c4, y.a5, y.c5⟩ 0 [.int .i64 x.f0] (by simp) (by rw [← hy]; simp [encS, hyx, z69]) (by
       have h := HO1.out.2 y hym
       unfold FS at h ⊢
       rw [hyx] at h
       exact h))
      have B2 := A_ (HB1.out.setCell (p := ⟨w.heap.size + 1, k * 8, none⟩) (by show w.heap.size ≤ w.heap.size + 1; omega) (.int .i64 x.f0))
      have BR2 := A_ ((RowKit.Below.heap_setCell w3 ⟨w.heap.size + 1, k * 8, none⟩ (.int .i64 x.f0) w.heap.size (by show w.heap.size ≠ w.heap.size + 1; omega)).trans HBR1.out)
      have BX2 := A_ ((RowKit.Below.heap_setCell w3 ⟨w.heap.size + 1, k * 8, none⟩ (.int .i64 x.f0) wr.heap.size (by show wr.heap.size ≠ w.heap.size + 1; omega)).trans BX.out)
      have HX2 := A_ (show (rs.set k ⟨⟨x.f0, false, z35⟩, y.a4, y.c4, y.a5, y.c5⟩).map (fun y => y.x) = (partS b k).set k ⟨x.f0, false, z35⟩ by rw [List.map_set, HX.out])
      have HRL2 := A_ (show (rs.set k ⟨⟨x.f0, false, z35⟩, y.a4, y.c4, y.a5, y.c5⟩).length = M by rw [List.length_set]; exact HRL.out)
      go_upto_region 10 with fail
      clear hy hym hyx s0 fz0 v0 v1 v2 v3 v4 v5 v6 v7 HO1 HB1 HBR1 BX HX HRL
      have hX : ∃ X, X = w3.setCell ⟨w.heap.size + 1, k * 8, none⟩ (.int .i64 x.f0) := ⟨_, rfl⟩
      have O3 : Aside0 (OwnS w.heap.size (w.heap.size + 1) M (rs.set k ⟨⟨x.f0, false, z35⟩, y.a4, y.c4, y.a5, y.c5⟩) (w3.setCell ⟨w.heap.size + 1, k * 8, none⟩ (.int .i64 x.f0))) := ⟨O2.out⟩
      clear O2 hX
      have hw4 : wr.heap.size < (w3.setCell ⟨w.heap.size + 1, k * 8, none⟩ (.int .i64 x.f0)).heap.size := by rw [World.size_setCell]; exact hw3
      generalize w3.setCell ⟨w.heap.size + 1, k * 8, none⟩ (.int .i64 x.f0) = X at *
      generalize rs.set k ⟨⟨x.f0, false, z35⟩, y.a4, y.c4, y.a5, y.c5⟩ = rs1 at *
      obtain ⟨v0, v1, v2, v3, v4, v5, v6, v7⟩ := box8 BX2.out
      by_cases hlive : x.f1 = true ∧ 0 < k
      · have hyk : (rs1.getD k default).x = ⟨x.f0, false, z35⟩ := by
         have hk1 : k < rs1.length := by have := HRL2.out; omega
         have h1 : (rs1.map (fun y => y.x)).getD k z69 = (rs1.getD k default).x := by
          rw [List.getD_eq_getElem?_getD, List.getD_eq_getElem?_getD, List.getElem?_map, List.getElem?_eq_getElem hk1]
          rfl
         rw [← h1, HX2.out, List.getD_eq_getElem?_getD, List.getElem?_set_self (by unfold partS; simp; have := HN.out; omega)]
         rfl
        have HYK := A_ hyk
        have hl1 := hlive.1
        rw [hl1] at v1
        have hk0 : (0 : Int) < (k : Int) := by have := hlive.2; omega
        have KP := A_ (K_plainF x.f2 P4 p4 P5 p5 X (HF.out x HBM.out) (HPV.out.below B2.out))
        obtain ⟨p, hp⟩ : ∃ p, p = plain x.f2 := ⟨_, rfl⟩
        rw [← hp] at KP
        have HXE := A_ (show (partS b k).set k ⟨x.f0, true, p⟩ = partS b (k + 1) by
         have h := HXK.out
         rw [if_pos hlive, ← hp] at h
         rw [← h, HST.out])
        have hgX : w.heap.size + 1 < X.heap.size := O3.out.lt.2
        clear hyk hlive hl1 hp
        go_wp2_with fail
        · refine Calls.mono KP.out ?_
          rintro e w5 ⟨a4, n4, a5, n5, rfl, hpv, hb⟩
          have HPF := A_ (FV.mono hpv (show ∀ k', X.heap.size ≤ k' → k' ≠ w.heap.size + 1 from fun k' hk' => by omega))
          have O5 := A_ (O3.out.below hb)
          have HB5 := A_ (B2.out.trans (hb.mono B2.out.size))
          have HBR5 := A_ (blk_below BR2.out hb)
          have hgw : w.heap.size + 1 < w5.heap.size := O5.out.lt.2
          obtain ⟨y5, hy5, -, s0, s1, s2, s3, s4, s5, s6, s7⟩ := O5.out.at k (by have := HRL2.out; omega)
          have hfz := O5.out.1.frozenAt
          have fz1 := hfz (k * 8 + 1)
          have fz2 := hfz (k * 8 + 2)
          have fz3 := hfz (k * 8 + 3)
          have fz4 := hfz (k * 8 + 4)
          have fz5 := hfz (k * 8 + 5)
          have fz6 := hfz (k * 8 + 6)
          have fz7 := hfz (k * 8 + 7)
          have ST := A_ (O5.out.store k (by have := HRL2.out; omega) ⟨⟨x.f0, true, p⟩, a4, n4, a5, n5⟩ 1 [.bool true, .int .i64 p.f0, .int .i64 p.f1, .int .i64 p.f2, .string p.f3, .slice a4 p.f4.length n4, .slice a5 p.f5.length n5] (by simp) (by
           have e := congrArg S69.f0 HYK.out
           simp only [List.getD_eq_getElem?_getD] at e
           simp [encS]
           exact e.symm) HPF.out)
          have LB := A_ (RowKit.Below.setCell (RowKit.Below.setCell (RowKit.Below.setCell (RowKit.Below.setCell (RowKit.Below.setCell (RowKit.Below.setCell (RowKit.Below.setCell (HB5.out) (p := ⟨w.heap.size + 1, k * 8 + 1, none⟩) (by show w.heap.size ≤ w.heap.size + 1; omega) (.bool true)) (p := ⟨w.heap.size + 1, k * 8 + 2, none⟩) (by show w.heap.size ≤ w.heap.size + 1; omega) (.int .i64 p.f0)) (p := ⟨w.heap.size + 1, k * 8 + 3, none⟩) (by show w.heap.size ≤ w.heap.size + 1; omega) (.int .i64 p.f1)) (p := ⟨w.heap.size + 1, k * 8 + 4, none⟩) (by show w.heap.size ≤ w.heap.size + 1; omega) (.int .i64 p.f2)) (p := ⟨w.heap.size + 1, k * 8 + 5, none⟩) (by show w.heap.size ≤ w.heap.size + 1; omega) (.string p.f3)) (p := ⟨w.heap.size + 1, k * 8 + 6, none⟩) (by show w.heap.size ≤ w.heap.size + 1; omega) (.slice a4 p.f4.length n4)) (p := ⟨w.heap.size + 1, k * 8 + 7, none⟩) (by show w.heap.size ≤ w.heap.size + 1; omega) (.slice a5 p.f5.length n5))
          have LR := A_ ((RowKit.Below.heap_setCell (((((((w5.setCell ⟨w.heap.size + 1, k * 8 + 1, none⟩ (.bool true)).setCell ⟨w.heap.size + 1, k * 8 + 2, none⟩ (.int .i64 p.f0)).setCell ⟨w.heap.size + 1, k * 8 + 3, none⟩ (.int .i64 p.f1)).setCell ⟨w.heap.size + 1, k * 8 + 4, none⟩ (.int .i64 p.f2)).setCell ⟨w.heap.size + 1, k * 8 + 5, none⟩ (.string p.f3)).setCell ⟨w.heap.size + 1, k * 8 + 6, none⟩ (.slice a4 p.f4.length n4))) ⟨w.heap.size + 1, k * 8 + 7, none⟩ (.slice a5 p.f5.length n5) w.heap.size (by show w.heap.size ≠ w.heap.size + 1; omega)).trans ((RowKit.Below.heap_setCell ((((((w5.setCell ⟨w.heap.size + 1, k * 8 + 1, none⟩ (.bool true)).setCell ⟨w.heap.size + 1, k * 8 + 2, none⟩ (.int .i64 p.f0)).setCell ⟨w.heap.size + 1, k * 8 + 3, none⟩ (.int .i64 p.f1)).setCell ⟨w.heap.size + 1, k * 8 + 4, none⟩ (.int .i64 p.f2)).setCell ⟨w.heap.size + 1, k * 8 + 5, none⟩ (.string p.f3))) ⟨w.heap.size + 1, k * 8 + 6, none⟩ (.slice a4 p.f4.length n4) w.heap.size (by show w.heap.size ≠ w.heap.size + 1; omega)).trans ((RowKit.Below.heap_setCell (((((w5.setCell ⟨w.heap.size + 1, k * 8 + 1, none⟩ (.bool true)).setCell ⟨w.heap.size + 1, k * 8 + 2, none⟩ (.int .i64 p.f0)).setCell ⟨w.heap.size + 1, k * 8 + 3, none⟩ (.int .i64 p.f1)).setCell ⟨w.heap.size + 1, k * 8 + 4, none⟩ (.int .i64 p.f2))) ⟨w.heap.size + 1, k * 8 + 5, none⟩ (.string p.f3) w.heap.size (by show w.heap.size ≠ w.heap.size + 1; omega)).trans ((RowKit.Below.heap_setCell ((((w5.setCell ⟨w.heap.size + 1, k * 8 + 1, none⟩ (.bool true)).setCell ⟨w.heap.size + 1, k * 8 + 2, none⟩ (.int .i64 p.f0)).setCell ⟨w.heap.size + 1, k * 8 + 3, none⟩ (.int .i64 p.f1))) ⟨w.heap.size + 1, k * 8 + 4, none⟩ (.int .i64 p.f2) w.heap.size (by show w.heap.size ≠ w.heap.size + 1; omega)).trans ((RowKit.Below.heap_setCell (((w5.setCell ⟨w.heap.size + 1, k * 8 + 1, none⟩ (.bool true)).setCell ⟨w.heap.size + 1, k * 8 + 2, none⟩ (.int .i64 p.f0))) ⟨w.heap.size + 1, k * 8 + 3, none⟩ (.int .i64 p.f1) w.heap.size (by show w.heap.size ≠ w.heap.size + 1; omega)).trans ((RowKit.Below.heap_setCell ((w5.setCell ⟨w.heap.size + 1, k * 8 + 1, none⟩ (.bool true))) ⟨w.heap.size + 1, k * 8 + 2, none⟩ (.int .i64 p.f0) w.heap.size (by show w.heap.size ≠ w.heap.size + 1; omega)).trans ((RowKit.Below.heap_setCell (w5) ⟨w.heap.size + 1, k * 8 + 1, none⟩ (.bool true) w.heap.size (by show w.heap.size ≠ w.heap.size + 1; omega)).trans (HBR5.out))))))))
          have HX3 := A_ (show (rs1.set k ⟨⟨x.f0, true, p⟩, a4, n4, a5, n5⟩).map (fun y => y.x) = partS b (k + 1) by rw [List.map_set, HX2.out, List.set_set, HXE.out])
          clear hb hpv hfz hy5 v0 v1 v2 v3 v4 v5 v6 v7 KP
          go_wp2
          exact ⟨⟨k + 1, rs1.set k ⟨⟨x.f0, true, p⟩, a4, n4, a5, n5⟩, by omega, by first | (rw [HWK.out]; simp; done) | (simp; done), ⟨by rw [List.length_set]; exact HRL2.out⟩, ST, HX3, LB, LR, HBD2⟩, by first | (rw [HWK.out]; simp [intOf]; omega) | (simp [intOf]; omega)⟩
        all_goals (exfalso; omega)
      · have HXE := A_ (show rs1.map (fun y => y.x) = partS b (k + 1) by
         have h := HXK.out
         rw [if_neg hlive] at h
         rw [HX2.out, ← h, HST.out])
        cases hl1 : x.f1
        · rw [hl1] at v1
          clear hlive hl1
          go_wp2
          exact ⟨⟨k + 1, rs1, by omega, by first | (rw [HWK.out]; simp; done) | (simp; done), HRL2, O3, HXE, B2, BR2, HBD2⟩, by first | (rw [HWK.out]; simp [intOf]; omega) | (simp [intOf]; omega)⟩
        · rw [hl1] at v1
          obtain rfl : k = 0 := by
           rcases Nat.eq_zero_or_pos k with h | h
           · exact h
           · exact absurd ⟨hl1, h⟩ hlive
          clear hlive hl1
          go_wp2
          exact ⟨⟨1, rs1, by omega, by first | (rw [HWK.out]; simp; done) | (simp; done), HRL2, O3, HXE, B2, BR2, HBD2⟩, by first | (rw [HWK.out]; simp [intOf]; omega) | (simp [intOf]; omega)⟩
  · obtain rfl : N = k := by omega
    have hxs : rs.map (fun y => y.x) = newNow b := by rw [HX.out, HN.out, partS_end]
    have hbd : b.any badG = false := by have h := HBD.out; rw [List.take_of_length_le (by have := HN.out; omega)] at h; exact h
    have HXS := A_ hxs
    have KR := rooted_calls rn rg wr
    obtain ⟨z0, z1⟩ := box2 HBR.out
    have hM1 : 0 < M := by have := HM.out; omega
    have hgr : w.heap.size + 1 < wr.heap.size := HO.out.lt.2
    clear hxs HX HBD hlt
    go_wp2_with fail
    refine Calls.mono KR ?_
    rintro e w5 ⟨rfl, hb⟩
    have HO5 := A_ (HO.out.below hb)
    have HB5 := A_ (HB.out.trans (hb.mono HB.out.size))
    have HBR5 := A_ (blk_below HBR.out hb)
    have hg5 : w.heap.size + 1 < w5.heap.size := HO5.out.lt.2
    clear z0 z1 hb KR hgr
    obtain ⟨z0, z1⟩ := box2 HBR5.out
    cases hrb : rootB rn rg
    · have HE := A_ (show newE b rn rg most = 3 by unfold newE; rw [HMO.out, if_neg (by decide), hbd, if_neg (by decide), hrb, if_pos rfl])
      clear hbd hrb
      go_wp2
      rw [HQ.out]
      exact .inl ⟨by rw [HE.out]; decide, by rw [HE.out]; rfl, HB5.out⟩
    · have HE := A_ (show newE b rn rg most = 0 by unfold newE; rw [HMO.out, if_neg (by decide), hbd, if_neg (by decide), hrb, if_neg (by decide)])
      clear hbd hrb
      go_upto_region 16 with fail
      obtain ⟨u0, u1, u2⟩ := box3 (blk_new w5 (.cells #[.slice (some ⟨w.heap.size + 1, 0, none⟩) M M, .int .i64 rn, .int .i64 rg] 120))
      have HB6 := A_ (below_alloc (RowKit.Below.refl w5.heap.size w5) (.cells #[.slice (some ⟨w.heap.size + 1, 0, none⟩) M M, .int .i64 rn, .int .i64 rg] 120))
      have hs6 : (w5.alloc (.cells #[.slice (some ⟨w.heap.size + 1, 0, none⟩) M M, .int .i64 rn, .int .i64 rg] 120)).heap.size = w5.heap.size + 1 := by rw [World.size_alloc]
      have KC := A_ (fun (W : World) (hb : RowKit.Below w5.heap.size w5 W) => copied_calls rs ⟨w.heap.size + 1, 0, none⟩ M rn rg W (by have := HRL.out; omega) (by have := HRL.out; omega) ((HO5.out.below hb).1.cells rfl))
      rw [HRL.out] at KC
      generalize w5.alloc (.cells #[.slice (some ⟨w.heap.size + 1, 0, none⟩) M M, .int .i64 rn, .int .i64 rg] 120) = W6 at *
      refine start_ (n := 8) (S := (fun w' => w'.cell? ⟨w5.heap.size, 0, none⟩ = some (.slice (some ⟨w.heap.size + 1, 0, none⟩) M M) ∧ w'.cell? ⟨w5.heap.size, 1, none⟩ = some (.int .i64 rn) ∧ w'.cell? ⟨w5.heap.size, 2, none⟩ = some (.int .i64 rg))) (ds := [5, 6, 7]) #[false, false, false, false, false, false, false, false] (by kernel_rfl) rfl rfl (by refine ⟨?_, ?_, ?_⟩ <;> go_simp) (fun hHeld => ?_)
      have HH := A_ hHeld
      clear hHeld
      refine ta_ 0 60 HH.out ?_
      refine ta_ 1 61 HH.out ?_
      refine pu_ 3 63 ?_
      replace HB6 := A_ HB6.out.drew
      have hs7 : W6.drew.heap.size = w5.heap.size + 1 := hs6
      clear u0 u1 u2 hs6 z0 z1
      generalize W6.drew = W7 at *
      refine on_ 2 (some 62) (fun K hK => ?_)
      refine cl_ Try.func85 #[.agg #[.slice (some ⟨w.heap.size + 1, 0, none⟩) M M, .int .i64 rn, .int .i64 rg]] ?_
      refine Calls.mono (KC.out _ HB6.out) ?_
      rintro e wk ⟨g', c', rfl, hoc, hb_⟩
      refine ⟨_, rfl, ?_⟩
      refine hK.out _ _ ⟨up_ hb_.cell HH.out.1, up_ hb_.cell HH.out.2.1, up_ hb_.cell HH.out.2.2⟩ (fun hH2 => ?_)
      have hgl := hoc.lt g' rfl
      have HOC := A_ hoc
      have HB8 := A_ (HB6.out.trans (hb_.mono HB6.out.size))
      have hwk1 : w5.heap.size < wk.heap.size := by have := hb_.size; omega
      have hgg : w5.heap.size < g' := by omega
      clear hK K hH2 hoc hb_ HH HB6
      refine nm_ (some 62) ?_
      refine pu_ 4 64 ?_
      refine chain_ [5, 6, 7] _ _ _ _ (⟨_, _, rfl, rfl, ⟨_, _, rfl, rfl, ⟨_, _, rfl, rfl, rfl⟩⟩⟩) (by kernel_rfl) (by decide) ?_
      have BW := A_ (blk_new wk (.cells #[.slice (some ⟨w.heap.size + 1, 0, none⟩) M M, .int .i64 rn, .int .i64 rg, .slice (some ⟨g', 0, none⟩) M c', .int .i64 rn, .int .i64 rg, .int .i64 most] 123))
      have HBF := A_ (below_alloc HB8.out (.cells #[.slice (some ⟨w.heap.size + 1, 0, none⟩) M M, .int .i64 rn, .int .i64 rg, .slice (some ⟨g', 0, none⟩) M c', .int .i64 rn, .int .i64 rg, .int .i64 most] 123))
      have OCF := A_ (World.ownsRow.alloc HOC.out (.cells #[.slice (some ⟨w.heap.size + 1, 0, none⟩) M M, .int .i64 rn, .int .i64 rg, .slice (some ⟨g', 0, none⟩) M c', .int .i64 rn, .int .i64 rg, .int .i64 most] 123))
      clear HOC HB8
      go_wp2
      generalize wk.alloc (.cells #[.slice (some ⟨w.heap.size + 1, 0, none⟩) M M, .int .i64 rn, .int .i64 rg, .slice (some ⟨g', 0, none⟩) M c', .int .i64 rn, .int .i64 rg, .int .i64 most] 123) = WF at *
      have hNM : (newNow b).length = M := by rw [← HXS.out, List.length_map, HRL.out]
      have hFS : ∀ y ∈ rs, FS (fun k => k ≠ w.heap.size + 1 ∧ k < w5.heap.size) y WF := fun y hy => FV.below (FV.bound (HO5.out.2 y hy)) HBF.out
      have hcap : M ≤ c' := by
       rcases OCF.out.2 with ⟨a, _⟩ | ⟨_, _, _, a, _, _, b, _⟩
       · cases a
       · injection a with _ _ a; omega
      have hc2 := close_rs (rs := rs) (c := c') (M := fun k => ¬ WL.N ⟨wk.heap.size, w.heap.size + 1, M, rs, some ⟨g', 0, none⟩, c', fun _ => False⟩ k) (by rw [HRL.out]; exact OCF.out) hFS (fun o => o.elim (fun o => o.elim (fun e => by have e : g' = wk.heap.size := e; omega) (fun e => by have e : g' = w.heap.size + 1 := e; omega)) (fun e => e)) (fun k hk o => o.elim (fun o => o.elim (fun e => by have e : k = wk.heap.size := e; omega) (fun e => hk.1 e)) (fun e => e))
      rw [HRL.out, HXS.out] at hc2
      rw [HQ.out]
      refine .inr ⟨HE.out, ⟨wk.heap.size, w.heap.size + 1, M, rs, some ⟨g', 0, none⟩, c', fun _ => False⟩, rfl, ⟨by show w.heap.size ≤ wk.heap.size; omega, by show w.heap.size ≤ w.heap.size + 1; omega, by show wk.heap.size ≠ w.heap.size + 1; omega, ?_, ?_, HXS.out, fun y hy => FV.mono (hFS y hy) (fun k hk o => o.elim (fun o => o.elim (fun e => by have e : k = wk.heap.size := e; omega) (fun e => hk.1 e)) (fun e => e)), ?_, ?_, fun k hk => hk.elim⟩, HB5.out.trans (HBF.out.mono HB5.out.size)⟩
      · have h := BW.out
        simp only [WL.cells, newW, hNM, HRL.out]
        exact h
      · have h := (HO5.out.below HBF.out).1
        exact h
      · show (newNow b).length ≤ c'
        omega
      · show Kd.F k69 _ _ (some ⟨g', 0, none⟩) (newNow b).length (newNow b)
        rw [hNM]
        exact hc2
noncomputable def alikeS (a b : S69) : Bool := decide (a.f0 = b.f0) && (a.f1 == b.f1) && eqB (plain a.f2) (plain b.f2)
set_option maxHeartbeats 8000000 in
set_option maxRecDepth 100000 in
theorem alike_calls144 (a b : S69) (A4 : Option Addr) (c4 : Nat) (A5 : Option Addr) (c5 : Nat) (B4 : Option Addr) (d4 : Nat) (B5 : Option Addr) (d5 : Nat) (w : World) (fa : fewV a.f2) (fb : fewV b.f2) (ha : HasV a.f2 A4 c4 A5 c5 w) (hb : HasV b.f2 B4 d4 B5 d5 w) :
 Calls Try.prog 144 #[.agg #[.int .i64 a.f0, .bool a.f1, .int .i64 a.f2.f0, .int .i64 a.f2.f1, .int .i64 a.f2.f2, .string a.f2.f3, .slice A4 a.f2.f4.length c4, .slice A5 a.f2.f5.length c5], .agg #[.int .i64 b.f0, .bool b.f1, .int .i64 b.f2.f0, .int .i64 b.f2.f1, .int .i64 b.f2.f2, .string b.f2.f3, .slice B4 b.f2.f4.length d4, .slice B5 b.f2.f5.length d5]] w fun e w' => e = .returned (.bool (alikeS a b)) ∧ RowKit.Below w.heap.size w w' := by
 have hu69 := Try.underlying69
 have hu35 := Try.underlying35
 have HB := A_ (below_alloc (below_alloc (RowKit.Below.refl w.heap.size w) (.cells #[.int .i64 a.f0, .bool a.f1, .int .i64 a.f2.f0, .int .i64 a.f2.f1, .int .i64 a.f2.f2, .string a.f2.f3, .slice A4 a.f2.f4.length c4, .slice A5 a.f2.f5.length c5] 69)) (.cells #[.int .i64 b.f0, .bool b.f1, .int .i64 b.f2.f0, .int .i64 b.f2.f1, .int .i64 b.f2.f2, .string b.f2.f3, .slice B4 b.f2.f4.length d4, .slice B5 b.f2.f5.length d5] 69))
 have KS := A_ (fun (W : World) (h : RowKit.Below w.heap.size w W) => K_same a.f2 A4 c4 A5 c5 b.f2 B4 d4 B5 d5 W fa fb (ha.below h) (hb.below h))
 obtain ⟨u0, u1, u2, u3, u4, u5, u6, u7⟩ := box8 (blk_alloc (blk_new w (.cells #[.int .i64 a.f0, .bool a.f1, .int .i64 a.f2.f0, .int .i64 a.f2.f1, .int .i64 a.f2.f2, .string a.f2.f3, .slice A4 a.f2.f4.length c4, .slice A5 a.f2.f5.length c5] 69)) (.cells #[.int .i64 b.f0, .bool b.f1, .int .i64 b.f2.f0, .int .i64 b.f2.f1, .int .i64 b.f2.f2, .string b.f2.f3, .slice B4 b.f2.f4.length d4, .slice B5 b.f2.f5.length d5] 69))
 obtain ⟨v0, v1, v2, v3, v4, v5, v6, v7⟩ := box8 (blk_new (w.alloc (.cells #[.int .i64 a.f0, .bool a.f1, .int .i64 a.f2.f0, .int .i64 a.f2.f1, .int .i64 a.f2.f2, .string a.f2.f3, .slice A4 a.f2.f4.length c4, .slice A5 a.f2.f5.length c5] 69)) (.cells #[.int .i64 b.f0, .bool b.f1, .int .i64 b.f2.f0, .int .i64 b.f2.f1, .int .i64 b.f2.f2, .string b.f2.f3, .slice B4 b.f2.f4.length d4, .slice B5 b.f2.f5.length d5] 69))
 simp only [World.size_alloc] at v0 v1 v2 v3 v4 v5 v6 v7
 obtain ⟨r, hr⟩ : ∃ r, r = alikeS a b := ⟨_, rfl⟩
 rw [← hr]
 have HR := A_ (hr.trans (show alikeS a b = (decide (a.f0 = b.f0) && (a.f1 == b.f1) && eqB (plain a.f2) (plain b.f2)) from rfl))
 generalize eqB (plain a.f2) (plain b.f2) = q at *
 clear hr fa fb ha hb
 by_cases h0 : a.f0 = b.f0
 · by_cases h1 : a.f1 = b.f1
   · have hrq : r = q := by rw [HR.out, decide_eq_true h0, h1]; simp
     subst hrq
     have h1' : (a.f1 == b.f1) = true := by rw [h1]; simp
     clear HR
     obtain ⟨x0, hx0⟩ : ∃ x0, x0 = b.f0 := ⟨_, rfl⟩
     go_enter Try.func144, Try.ntmps144
     go_wp2_with fail
     refine Calls.mono (KS.out _ (below_alloc (below_alloc (RowKit.Below.refl w.heap.size w) _) _)) ?_
     rintro e w1 ⟨rfl, hb⟩
     have HB1 := A_ (below_step (below_alloc (below_alloc (RowKit.Below.refl w.heap.size w) _) _) hb)
     clear hb
     go_wp2
     go_ret
     exact ⟨rfl, HB1.out⟩
   · have hrq : r = false := by
      rw [HR.out]
      have : (a.f1 == b.f1) = false := by simpa using h1
      rw [this]
      simp
     subst hrq
     have h1' : (a.f1 == b.f1) = false := by simpa using h1
     clear HR
     go_enter Try.func144, Try.ntmps144
     go_wp2
     go_ret
     exact ⟨rfl, below_alloc (below_alloc (RowKit.Below.refl w.heap.size w) _) _⟩
 · have hrq : r = false := by
    rw [HR.out, decide_eq_false h0]
    simp
   subst hrq
   clear HR
   go_enter Try.func144, Try.ntmps144
   go_wp2
   go_ret
   exact ⟨rfl, below_alloc (below_alloc (RowKit.Below.refl w.heap.size w) _) _⟩
end Go.Proofs.Ytogpnkkoablmiaa.V
end
section
namespace Go.Proofs.Ytogpnkkoablmiaa.V
open Go.Proofs.Ytogpnkkoablmiaa.P Go.Shelf Go.RowKit Go.Lib Go.Sort Go.Proofs.Ytogpnkkoablmiaa.Q Go.Proofs.YtogpnkkoablmiaaW.PrintWords Go.Proofs.YtogpnkkoablmiaaW.PrintLast Go.Proofs.YtogpnkkoablmiaaW.PrintMore
set_option linter.unusedVariables false
set_option linter.unusedSimpArgs false
attribute [local go_sem high] eqA28
attribute [local go_sem] nzv_ne nzv_beq nzv_bne
attribute [local go_sem] Oper.semAt_some
def RowB (W : World) (k : Nat) : Prop := ∃ (q : Nat) (cs : Array Value), (q = 35 ∨ q = 89) ∧ W.heap[k]? = some (.cells cs q (0, 0))
def KeepU (B : Nat) (W W' : World) : Prop := RowKit.Below B W W' ∧ ∀ k, RowB W k → W'.heap[k]? = W.heap[k]?
theorem KeepU.refl (B : Nat) (W : World) : KeepU B W W := ⟨RowKit.Below.refl _ _, fun _ _ => rfl⟩
theorem RowB.keep {B : Nat} {W W' : World} {k : Nat} (h : RowB W k) (hk : KeepU B W W') : RowB W' k := by
 have h2 := hk.2 k h
 obtain ⟨q, cs, hq, hc⟩ := h
 exact ⟨q, cs, hq, h2.trans hc⟩
theorem KeepU.trans {B : Nat} {X Y Z : World} (h : KeepU B X Y) (k : KeepU B Y Z) : KeepU B X Z := ⟨h.1.trans k.1, fun i hi => (k.2 i (hi.keep h)).trans (h.2 i hi)⟩
theorem RowB.lt {W : World} {k : Nat} (h : RowB W k) : k < W.heap.size := by
 obtain ⟨q, cs, _, hc⟩ := h
 exact blk_lt hc
theorem KeepU.of_below {B : Nat} {W W' : World} (hB : B ≤ W.heap.size) (h : RowKit.Below W.heap.size W W') : KeepU B W W' := ⟨h.mono hB, fun k hk => h.block k hk.lt⟩
theorem KeepU.put {B : Nat} {w : World} (hB : B ≤ w.heap.size) (W : World) (l : Nat) (o o' : Obj) (hl : w.heap.size ≤ l) (h : W.heap[l]? = some o) (hc : o.isCells = false) (hw : o.isWalk = false) : KeepU B W (W.putObj l o') :=
 ⟨belowK_b hB W l o o' hl h hc hw, fun k hk => by
  obtain ⟨q, cs, _, hh⟩ := hk
  refine (grownBy_putObj' W l o').block k (Array.getElem?_eq_some_iff.1 hh).1 (fun e => ?_)
  cases e
  rw [h] at hh; cases hh; cases hc⟩
def FT (y : RS) (W : World) : Prop := FS (RowB W) y W
theorem FT.keep {B : Nat} {y : RS} {W W' : World} (h : FT y W) (hk : KeepU B W W') : FT y W' := by
 obtain ⟨h1, h2, h3, h4⟩ := h
 exact ⟨h1, Kd.F_mono (Kd.F_step h2 (fun k ok _ => hk.2 k ok)) (fun k ok => ok.keep hk), h3, Kd.F_mono (Kd.F_step h4 (fun k ok _ => hk.2 k ok)) (fun k ok => ok.keep hk)⟩
def GoodSeq {α : Type} (g : Nat) (lb : Array Value) (encs : α → Array Value) (Kp : World → World → Prop) (Good : α → World → Prop) (S Sp : List α → Prop) (N : Nat) (w : World) : Prop :=
 ∀ (l : Nat) (J Jx : List α → World → Prop) (W : World), RowKit.Below w.heap.size w W → AbidesFrom W.heap.size J → AbidesFrom W.heap.size Jx →
  (∀ pre x W1, J pre W1 → Good x W1 → pre.length < N → YieldAt Fence.wide 0 Try.prog l (encs x) W1 fun e W' => (e = .returned (.bool true) ∧ J (pre ++ [x]) W' ∧ Kp W1 W') ∨ (e = .returned (.bool false) ∧ Jx (pre ++ [x]) W')) →
  J [] W → Calls Try.prog g (#[.func (.yield l) #[] #[]] ++ lb) W fun e W' => (∃ v, e = .returned v) ∧ ((∃ xs, S xs ∧ J xs W') ∨ (∃ pre, Sp pre ∧ Jx pre W'))
theorem GoodSeq.stops {α : Type} {g : Nat} {lb : Array Value} {encs : α → Array Value} {Kp : World → World → Prop} {Good : α → World → Prop} {S Sp : List α → Prop} {N : Nat} {w : World} (h : GoodSeq g lb encs Kp Good S Sp N w) (n : Nat) : SeqStopsK Fence.wide n Try.prog g lb encs Kp S Sp N w :=
 fun l J Jx W hb hJ hJx hY h0 => callsIn_wide.2 (h l J Jx W hb hJ hJx (fun pre x W1 hj _ hl => YieldAt.anyDepth rfl 0 (hY pre x W1 hj hl)) h0)
theorem range_all {α : Type} {g : Operand} {ps : Array Tmp} {assign body : Code} {Q : Exit → Act → World → Prop} {a : Act} {w : World} {n : Nat} {gf : Nat} {lb : Array Value}
 (hg : a.eval g = .func (.func gf) #[] lb) (eg : ∀ args w, (callFunc gf args).run Try.prog w = .ok (.enter gf args) w)
 {encs : α → Array Value} {Kp : World → World → Prop} {Good : α → World → Prop} {S Sp : List α → Prop} {N : Nat} {w0 : World} (hseq : GoodSeq gf lb encs Kp Good S Sp N w0)
 (hKt : ∀ {A B C : World}, Kp A B → Kp B C → Kp A C) (hKb : ∀ (W : World) (l : Nat) (o o' : Obj), w.heap.size ≤ l → W.heap[l]? = some o → o.isCells = false → o.isWalk = false → Kp W (W.putObj l o')) (hGk : ∀ {x : α} {A B : World}, Good x A → Kp A B → Good x B) (hb0 : RowKit.Below w0.heap.size w0 w) (hps : ∀ x, (encs x).size = ps.size)
 (I : List α → World → Prop) (hI : OwnFrom w.heap.size I) (h0 : I [] w) (Ax : α → Act → World → Prop) (hAx : ∀ x a', OwnFrom w.heap.size (fun (_ : Unit) W => Ax x a' W))
 (hassign : ∀ (l : Nat) (pre : List α) (x : α) (W : World) (K : Act → World → Prop), I pre W → (∀ a' W', KeepsFrom w.heap.size W W' → Kp W W' → I pre W' → Ax x a' W' → K a' W') →
  assign.wpIn (Fence.wide.inRound l) 0 Try.prog (Exit.then K (fun _ _ _ => False)) { tmps := (ps.zip (encs x)).foldl (fun t (p, v) => t.setIfInBounds p v) a.tmps, defers := [] } W)
 (hbody : ∀ (l : Nat) (pre : List α) (x : α) (a' : Act) (W : World), I pre W → Ax x a' W → Good x W → pre.length < N →
  body.wpIn (Fence.wide.inRound l) 0 Try.prog (Exit.then (fun _ W' => KeepsFrom w.heap.size W W' ∧ Kp W W' ∧ I (pre ++ [x]) W') (fun _ _ _ => False)) a' W)
 (hdone : ∀ (D : Nat) (xs : List α) (W : World), w.heap.size ≤ D → S xs → I xs W → W.heap[D]? = some (.deferred (some [])) → Q .normal { a with defers := { target := .collected D, args := #[] } :: a.defers } W) :
 (Code.rangeFunc g ps assign body).wpIn Fence.wide n Try.prog Q a w := by
 refine wpIn_rangeFunc (fun fn _ => ?_)
 let D := w.heap.size
 let L := w.heap.size + 1
 let rec' : LoopState → Option Code → Obj := fun st pe => .loop { state := st, pending := pe, fn, tmps := a.tmps, params := ps, assign, body, defers := w.heap.size }
 let W1 : World := (w.alloc (.deferred (some []))).alloc (rec' .ready none)
 have hW1 : RowKit.Below w.heap.size w W1 := below_alloc (below_alloc (RowKit.Below.refl _ w) _) _
 have hsz : W1.heap.size = w.heap.size + 2 := by simp [W1]
 have hL : W1.heap[L]? = some (rec' .ready none) := by
  have h := World.alloc_heap_new (w.alloc (.deferred (some []))) (rec' .ready none)
  rwa [World.size_alloc] at h
 have hD : W1.heap[D]? = some (.deferred (some [])) := (Below.heap_alloc _ _ _ (by simp [D])).trans (World.alloc_heap_new w _)
 -- what is told of a world between two rounds
 let J : List α → World → Prop := fun pre W => I pre W ∧ W.heap[L]? = some (rec' .ready none) ∧ W.heap[D]? = some (.deferred (some []))
 have hJ : AbidesFrom W1.heap.size J := fun s A B row hs hgr hr => by
  have hf : ∀ r, row = some r → w.heap.size ≤ r ∧ ∃ o : Obj, A.heap[r]? = some o ∧ o.isCells = false := fun r e => by
   obtain ⟨h1, o, ho, hwk⟩ := hr r e
   exact ⟨by omega, o, ho, Obj.not_cells_of_walk hwk⟩
  exact ⟨hI s A B row hs.1 hgr hf, (grownBy_keeps hgr (fun r e => (hr r e).2) hs.2.1 rfl).trans hs.2.1, (grownBy_keeps hgr (fun r e => (hr r e).2) hs.2.2 rfl).trans hs.2.2⟩
 refine ⟨L, [{ target := .collected D, args := #[] }], W1, { target := .fn (.func gf) lb, args := #[.func (.yield L) #[] #[]] }, W1, gf, #[.func (.yield L) #[] #[]] ++ lb, W1, run_enterLoop_outer _ _ _ _ _, ?_, fun _ _ => trivial, ?_, ?_, ?_⟩
 · simp only [resolve, hg]
   simp [go_sem]
 · simp [invoke, go_sem, eg]
 · intro h; cases h
 · refine (callsIn_wide.2 (hseq L J (fun _ _ => False) W1 (hb0.trans (hW1.mono hb0.size)) hJ (fun _ _ _ _ h _ _ => h) ?_ ⟨hI.alloc _ (hI.alloc _ h0), hL, hD⟩)).mono ?_
   · rintro pre x W ⟨hi, hl, hd⟩ hgood hlen
     have hlt : L < W.heap.size := (Array.getElem?_eq_some_iff.1 hl).1
     refine ⟨fn, _, assign, body, run_yield (P := Try.prog) (args := encs x) hl (hps x), roundIn_of_wpIn trivial (hassign L pre x W _ hi ?_)⟩
     intro a' Wa hka hkpa hia hax
     have hla := hka.same L _ (by omega) hl rfl
     have hda := hka.same D _ (Nat.le_refl _) hd rfl
     refine ⟨_, run_beginRound hla rfl, ?_⟩
     let Wb : World := Wa.putObj L (rec' .busy none)
     have hlb : Wb.heap[L]? = some (rec' .busy none) := World.putObj_heap_same (Array.getElem?_eq_some_iff.1 hla).1
     have hdb : Wb.heap[D]? = some (.deferred (some [])) := (World.putObj_heap_other (by omega)).trans hda
     have hkpb : Kp Wa Wb := hKb Wa L _ _ (by omega) hla rfl rfl
     refine wpIn_mono (hbody L pre x a' Wb (hI.putObj _ hia (by omega) hla rfl) ((hAx x a').putObj (s := ()) _ hax (by omega) hla rfl) (hGk hgood (hKt hkpa hkpb)) hlen) ?_
     intro e a3 W3 hp
     cases e with
     | normal =>
       obtain ⟨hk3, hkp3, hi3⟩ := hp
       have hl3 := hk3.same L _ (by omega) hlb rfl
       have hd3 := hk3.same D _ (Nat.le_refl _) hdb rfl
       refine ⟨_, _, run_endRound (P := Try.prog) none hl3, .inl ⟨rfl, ⟨hI.putObj _ hi3 (by omega) hl3 rfl, World.putObj_heap_same (Array.getElem?_eq_some_iff.1 hl3).1, (World.putObj_heap_other (by omega)).trans hd3⟩, ?_⟩⟩
       exact hKt hkpa (hKt (hKt hkpb hkp3) (hKb W3 L _ _ (by omega) hl3 rfl rfl))
     | ret => exact hp.elim
     | exit id => exact hp.elim
     | goto t => exact hp.elim
     | panic ch => exact hp.elim
     | outgrown => exact hp.elim
   · rintro e W2 ⟨⟨v, rfl⟩, h | ⟨_, _, h⟩⟩
     · obtain ⟨xs, hS, hi, hl, hd⟩ := h
       exact ⟨none, _, run_endLoop (P := Try.prog) hl (by simp), hdone D xs _ (Nat.le_refl _) hS (hI.putObj _ hi (by omega) hl rfl) ((World.putObj_heap_other (by omega)).trans hd)⟩
     · exact h.elim
theorem typed_of {w : World} {k : Nat} {E : List Nat} (hE : ∀ q ∈ E, q = 35 ∨ q = 89) (h : ∃ q, q ∈ E ∧ ∃ cells, w.heap[k]? = some (.cells cells q (0, 0))) : RowB w k := by
 obtain ⟨q, hq, cs, hc⟩ := h
 exact ⟨q, cs, hE q hq, hc⟩
theorem plain_typed (v : S35) (A4 : Option Addr) (c4 : Nat) (A5 : Option Addr) (c5 : Nat) (W : World) (hf : fewV v) (h : HasV v A4 c4 A5 c5 W) : Calls Try.prog 59 #[.agg #[.int .i64 v.f0, .int .i64 v.f1, .int .i64 v.f2, .string v.f3, .slice A4 v.f4.length c4, .slice A5 v.f5.length c5]] W fun e w' => ∃ a4 n4 a5 n5, e = .returned (.agg #[.int .i64 (plain v).f0, .int .i64 (plain v).f1, .int .i64 (plain v).f2, .string (plain v).f3, .slice a4 (plain v).f4.length n4, .slice a5 (plain v).f5.length n5]) ∧ FV (RowB w') (plain v) a4 n4 a5 n5 w' ∧ RowKit.Below W.heap.size W w' := by
 refine (plain59_all v A4 c4 A5 c5 W hf h.1 h.2.1 h.2.2.1 h.2.2.2).mono ?_
 rintro e w' ⟨v4, v5, rfl, r4, r5, hb⟩
 obtain ⟨a, n, rfl, h1, h2⟩ := Kd.V_mono (base := W.heap.size) (ok' := RowB w') (Kd.R_V (Kd.R_bound r4)) (fun k hk => typed_of (fun q hq => by rw [show (35 :: k35.E) = [35, 35, 89] from rfl] at hq; simpa using hq) hk.2.2.2)
 obtain ⟨a', n', rfl, h3, h4⟩ := Kd.V_mono (base := W.heap.size) (ok' := RowB w') (Kd.R_V (Kd.R_bound r5)) (fun k hk => typed_of (fun q hq => by rw [show (89 :: k89.E) = [89, 35, 89] from rfl] at hq; simp at hq; omega) hk.2.2.2)
 exact ⟨a, n, a', n', rfl, ⟨h1, h2, h3, h4⟩, hb⟩
def encC (x : Nat × RS) : Array Value := #[.agg #[.int .i64 x.1, .int .i64 x.2.x.f0, .bool (!x.2.x.f1), .int .i64 x.2.x.f2.f0, .int .i64 x.2.x.f2.f1, .int .i64 x.2.x.f2.f2, .string x.2.x.f2.f3, .slice x.2.a4 x.2.x.f2.f4.length x.2.c4, .slice x.2.a5 x.2.x.f2.f5.length x.2.c5]]
def strC (x : Nat × RS) : Nat × S69 := (x.1, x.2.x)
noncomputable def chgAt (s : WS) (n : Nat) : Bool := decide (n ≠ 0) && !(decide (n < s.base.length) && alikeS (s.now.getD n z69) (s.base.getD n z69))
noncomputable def chgs (s : WS) (k : Nat) : List (Nat × S69) := ((List.range k).filter (chgAt s)).map fun n => (n, plainS (s.now.getD n z69))
theorem chgs_succ (s : WS) (k : Nat) : chgs s (k + 1) = chgs s k ++ (if chgAt s k = true then [(k, plainS (s.now.getD k z69))] else []) := by
 unfold chgs
 rw [List.range_succ, List.filter_append, List.map_append]
 congr 1
 by_cases h : chgAt s k = true
 · simp [h]
 · simp [h]
theorem chgs_len (s : WS) (k : Nat) : (chgs s k).length ≤ k := by
 unfold chgs
 rw [List.length_map]
 refine Nat.le_trans (List.length_filter_le _ _) (by simp)
theorem chgs_mono (s : WS) {k m : Nat} (h : k ≤ m) : chgs s k <+: chgs s m := by
 induction h with
 | refl => exact List.prefix_refl _
 | step _ ih => rw [chgs_succ]; exact ih.trans (List.prefix_append _ _)
theorem abides_below {B : Nat} {J : List (Nat × RS) → World → Prop} (hJ : AbidesFrom B J) {pre : List (Nat × RS)} {A C : World} (h : J pre A) (hb : RowKit.Below A.heap.size A C) : J pre C :=
 hJ pre A C none h ⟨hb.os, hb.tape, hb.output, hb.size, fun k hk _ => hb.block k hk⟩ (fun r e => by cases e)
set_option maxHeartbeats 20000000 in
set_option maxRecDepth 100000 in
theorem others143 (b0 : Nat) (L : WL) (s : WS) (bx : Nat) (w : World) (h : WorkIs b0 L s w) (hl9 : L.rs.length ≤ 90000) (hfn : ∀ x ∈ s.now, fewV x.f2) (hfb : ∀ x ∈ s.base, fewV x.f2)
 (hbx : w.heap[bx]? = some (.cells #[.pointer (some ⟨L.wb, 0, none⟩)] 23 (0, 0))) :
 GoodSeq 143 #[.pointer (some ⟨bx, 0, none⟩)] encC (KeepU w.heap.size) (fun x W => FT x.2 W) (fun xs => xs.map strC = chgs s s.now.length) (fun _ => chgs s s.now.length ≠ []) 90000 w := by
 intro l J Jx W hbw hJ hJx hY hJ0
 show Calls Try.prog 143 #[.func (.yield l) #[] #[], .pointer (some ⟨bx, 0, none⟩)] W _
 have hu69 := Try.underlying69
 have hu67 := Try.underlying67
 have hu35 := Try.underlying35
 have hu46 := Try.underlying46
 have hu23 := Try.underlying23
 have hu120 := Try.underlying120
 have hu123 := Try.underlying123
 have H := A_ (h.below hbw)
 have HBX := A_ (blk_below hbx hbw)
 have HY := A_ hY
 have HJ := A_ hJ
 have HJ0 := A_ hJ0
 have HFN := A_ hfn
 have HFB := A_ hfb
 have HW := A_ hbw
 have HS := A_ h
 have HX := A_ hbx
 have HLN := A_ (h.len)
 obtain ⟨N, hN⟩ : ∃ N, N = L.rs.length := ⟨_, rfl⟩
 have HN := A_ hN
 have HMX := A_ (show N ≤ 90000 by omega)
 obtain ⟨NB, hNB⟩ : ∃ NB, NB = s.base.length := ⟨_, rfl⟩
 have HNB := A_ hNB
 obtain ⟨k0, -⟩ := (h.below hbw).box
 have kb := box0 (blk_below hbx hbw)
 rw [← hN] at k0
 have hlt := (h.below hbw).lt.1
 have hltb := blk_lt (blk_below hbx hbw)
 clear h hl9 hfn hfb hbx hbw hJ hY hJ0 hJx hN hNB
 go_enter Try.func143, Try.ntmps143
 go_wp2
 clear k0 kb hlt hltb
 go_loopw [11] (fun i wr => ∃ (k : Nat) (pre : List (Nat × RS)), k ≤ N ∧ i = .int .i64 k ∧ Aside0 (RowKit.Below w.heap.size w wr) ∧ Aside0 (J pre wr) ∧ Aside0 (pre.map strC = chgs s k)) (fun i _ => N - (intOf i).toNat)
 case atStart => exact ⟨0, [], Nat.zero_le _, rfl, HW, HJ0, ⟨rfl⟩⟩
 case round =>
  clear HW HJ0
  obtain ⟨k, pre, hk, rfl, HB, HPJ, HPS⟩ := hrel
  by_cases hlt : k < N
  · have H2 := A_ (HS.out.below HB.out)
    have HPL := A_ (show pre.length < 90000 from by
     have h1 := congrArg List.length HPS.out
     rw [List.length_map] at h1
     have h2 := chgs_len s k
     have := HMX.out
     omega)
    obtain ⟨y, hy, hyx, hym, s0, s1, s2, s3, s4, s5, s6, s7⟩ := H2.out.slot k (by have := HN.out; omega)
    have HYX := A_ hyx
    have HYF := A_ (H2.out.2.2.2.2.2.2.1 y hym)
    have HYM := A_ (show y.x ∈ s.now from by rw [← H2.out.2.2.2.2.2.1]; exact List.mem_map_of_mem hym)
    clear hy hyx hym
    have hwk : wrap64 ((k : Int) + 1) = (k : Int) + 1 := by have := HMX.out; unfold wrap64; omega
    have HWK := A_ hwk
    have hNm : N ≤ 9223372036854775807 := by have := HMX.out; omega
    clear hwk
    obtain ⟨⟨y0, y1, yv⟩, a4, c4, a5, c5⟩ := y
    simp only [] at s0 s1 s2 s3 s4 s5 s6 s7 HYX HYM
    have BX := A_ (blk_new wr (.cells #[.int .i64 y0, .bool y1, .int .i64 yv.f0, .int .i64 yv.f1, .int .i64 yv.f2, .string yv.f3, .slice a4 yv.f4.length c4, .slice a5 yv.f5.length c5] 69))
    have HB1 := A_ (below_alloc HB.out (.cells #[.int .i64 y0, .bool y1, .int .i64 yv.f0, .int .i64 yv.f1, .int .i64 yv.f2, .string yv.f3, .slice a4 yv.f4.length c4, .slice a5 yv.f5.length c5] 69))
    have HPJ1 := A_ (abides_below HJ.out HPJ.out (below_alloc (RowKit.Below.refl _ wr) (.cells #[.int .i64 y0, .bool y1, .int .i64 yv.f0, .int .i64 yv.f1, .int .i64 yv.f2, .string yv.f3, .slice a4 yv.f4.length c4, .slice a5 yv.f5.length c5] 69)))
    have HYV := A_ (show HasV yv a4 c4 a5 c5 (wr.alloc (.cells #[.int .i64 y0, .bool y1, .int .i64 yv.f0, .int .i64 yv.f1, .int .i64 yv.f2, .string yv.f3, .slice a4 yv.f4.length c4, .slice a5 yv.f5.length c5] 69)) from (HYF.out.below (below_alloc (RowKit.Below.refl _ wr) (.cells #[.int .i64 y0, .bool y1, .int .i64 yv.f0, .int .i64 yv.f1, .int .i64 yv.f2, .string yv.f3, .slice a4 yv.f4.length c4, .slice a5 yv.f5.length c5] 69))).has)
    have hszn : wr.heap.size < (wr.alloc (.cells #[.int .i64 y0, .bool y1, .int .i64 yv.f0, .int .i64 yv.f1, .int .i64 yv.f2, .string yv.f3, .slice a4 yv.f4.length c4, .slice a5 yv.f5.length c5] 69)).heap.size := by simp
    go_upto_region 3 with fail
    clear hNm s0 s1 s2 s3 s4 s5 s6 s7
    generalize hWr : wr.alloc _ = wn at *
    clear hWr HYF HPJ HB H2
    have H3 := A_ (HS.out.below HB1.out)
    have HKX := A_ (blk_below HX.out HB1.out)
    go_cut [39] (fun sv wc => ∃ c : Bool, sv = .bool c ∧ Aside0 (c = !chgAt s k) ∧ Aside0 (RowKit.Below wn.heap.size wn wc))
    case first =>
     obtain ⟨v0, v1, v2, v3, v4, v5, v6, v7⟩ := box8 BX.out
     have kb := box0 HKX.out
     obtain ⟨-, -, -, k3, -⟩ := H3.out.box
     rw [← HNB.out] at k3
     have hlb := H3.out.lt.1
     have hbl := blk_lt HKX.out
     by_cases hk0 : k = 0
     · have hA : ((k : Int) == 0) = true := by simp [hk0]
       have HC := A_ (show true = !chgAt s k from by unfold chgAt; simp [hk0])
       generalize L.aB = aB at *
       generalize L.cB = cB at *
       clear hk0
       refine start_ (n := 24) (S := (fun w' => w'.cell? ⟨wr.heap.size, 0, none⟩ = some (.int .i64 y0) ∧ w'.cell? ⟨wr.heap.size, 1, none⟩ = some (.bool y1) ∧ w'.cell? ⟨wr.heap.size, 2, none⟩ = some (.int .i64 yv.f0) ∧ w'.cell? ⟨wr.heap.size, 3, none⟩ = some (.int .i64 yv.f1) ∧ w'.cell? ⟨wr.heap.size, 4, none⟩ = some (.int .i64 yv.f2) ∧ w'.cell? ⟨wr.heap.size, 5, none⟩ = some (.string yv.f3) ∧ w'.cell? ⟨wr.heap.size, 6, none⟩ = some (.slice a4 yv.f4.length c4) ∧ w'.cell? ⟨wr.heap.size, 7, none⟩ = some (.slice a5 yv.f5.length c5) ∧ w'.cell? ⟨bx, 0, none⟩ = some (.pointer (some ⟨L.wb, 0, none⟩)) ∧ w'.cell? ⟨L.wb, 3, none⟩ = some (.slice aB NB cB))) (ds := [23]) #[false, false, false, false, false, false, false, false, false, false, false, false, false, false, false, false, false, false, false, false, false, false, false, false] (by kernel_rfl) rfl rfl (by refine ⟨?_, ?_, ?_, ?_, ?_, ?_, ?_, ?_, ?_, ?_⟩ <;> go_simp) (fun hHeld => ?_)
       have HH := A_ hHeld
       clear hHeld
       refine pu_ 0 16 ?_
       refine pu_ 1 17 ?_ (hy := Or.inl ⟨by rfl, by intro w'; go_simp; (try simp only [hA]); with_reducible rfl⟩)
       refine pu_ 2 18 ?_
       refine pu_ 3 19 ?_ (hy := Or.inr ⟨by rfl, rfl⟩)
       refine pu_ 4 20 ?_ (hy := Or.inr ⟨by rfl, rfl⟩)
       refine pu_ 5 21 ?_ (hy := Or.inr ⟨by rfl, rfl⟩)
       refine pu_ 6 22 ?_ (hy := Or.inr ⟨by rfl, rfl⟩)
       refine pu_ 7 23 ?_ (hy := Or.inr ⟨by rfl, rfl⟩)
       refine pu_ 8 24 ?_ (hy := Or.inr ⟨by rfl, rfl⟩)
       refine pu_ 9 25 ?_ (hy := Or.inr ⟨by rfl, rfl⟩)
       refine pu_ 10 26 ?_ (hy := Or.inr ⟨by rfl, rfl⟩)
       refine pu_ 11 27 ?_ (hy := Or.inr ⟨by rfl, rfl⟩)
       refine pu_ 12 28 ?_ (hy := Or.inr ⟨by rfl, rfl⟩)
       refine pu_ 13 29 ?_ (hy := Or.inr ⟨by rfl, rfl⟩)
       refine pu_ 14 30 ?_ (hy := Or.inr ⟨by rfl, rfl⟩)
       refine pu_ 15 31 ?_ (hy := Or.inr ⟨by rfl, rfl⟩)
       refine pu_ 16 32 ?_ (hy := Or.inr ⟨by rfl, rfl⟩)
       refine pu_ 17 33 ?_ (hy := Or.inr ⟨by rfl, rfl⟩)
       refine pu_ 18 34 ?_ (hy := Or.inr ⟨by rfl, rfl⟩)
       refine pu_ 19 35 ?_ (hy := Or.inr ⟨by rfl, rfl⟩)
       refine pu_ 20 36 ?_ (hy := Or.inr ⟨by rfl, rfl⟩)
       refine pu_ 21 37 ?_ (hy := Or.inr ⟨by rfl, rfl⟩)
       refine pu_ 22 38 ?_ (hy := Or.inr ⟨by rfl, rfl⟩)
       refine chain_ [23] _ _ _ _ (⟨_, _, rfl, rfl, rfl⟩) (by kernel_rfl) (by decide) ?_
       go_wp2
       go_meet
       exact ⟨true, rfl, HC, ⟨(RowKit.Below.refl _ wn).drew⟩⟩
     · have hA : ((k : Int) == 0) = false := by simp [hk0]
       by_cases hkB : k < NB
       · have hB : decide ((k : Int) < (NB : Int)) = true := by simp [hkB]
         have hkb : k < s.base.length := by have := HNB.out; omega
         obtain ⟨ad, P4, p4, P5, p5, had, x0, x1, x2, x3, x4, x5, x6, x7, lp4, gp4, lp5, gp5⟩ := at_T69 (Kd.F_now H3.out.2.2.2.2.2.2.2.2.1) (k : Int) (by omega) (by omega)
         rw [had] at k3
         simp only [rd_T69, Int.toNat_natCast] at x0 x1 x2 x3 x4 x5 x6 x7 lp4 gp4 lp5 gp5
         have hNm : NB ≤ 9223372036854775807 := by rw [HNB.out]; exact (Kd.F_now H3.out.2.2.2.2.2.2.2.2.1).2.1
         have hgd : chgAt s k = !alikeS (s.now.getD k z69) (s.base.getD k z69) := by unfold chgAt; simp [hk0, hkb]
         rw [← HYX.out] at hgd
         have hbm := getD_mem s.base k hkb z69
         generalize s.base.getD k z69 = z at *
         have KA := A_ (fun (W2 : World) (hb : RowKit.Below wn.heap.size wn W2) => alike_calls144 ⟨y0, y1, yv⟩ z a4 c4 a5 c5 P4 p4 P5 p5 W2 (HFN.out _ HYM.out) (HFB.out _ hbm) (HYV.out.below hb) (HasV.below ⟨lp4, gp4, lp5, gp5⟩ hb))
         obtain ⟨r, hr⟩ : ∃ r, r = alikeS ⟨y0, y1, yv⟩ z := ⟨_, rfl⟩
         rw [← hr] at KA hgd
         have HC := A_ (show r = !chgAt s k from by rw [hgd]; simp)
         clear hgd hr hbm lp4 gp4 lp5 gp5 hkb had hk0
         generalize L.cB = cB at *
         refine start_ (n := 24) (S := (fun w' => w'.cell? ⟨wr.heap.size, 0, none⟩ = some (.int .i64 y0) ∧ w'.cell? ⟨wr.heap.size, 1, none⟩ = some (.bool y1) ∧ w'.cell? ⟨wr.heap.size, 2, none⟩ = some (.int .i64 yv.f0) ∧ w'.cell? ⟨wr.heap.size, 3, none⟩ = some (.int .i64 yv.f1) ∧ w'.cell? ⟨wr.heap.size, 4, none⟩ = some (.int .i64 yv.f2) ∧ w'.cell? ⟨wr.heap.size, 5, none⟩ = some (.string yv.f3) ∧ w'.cell? ⟨wr.heap.size, 6, none⟩ = some (.slice a4 yv.f4.length c4) ∧ w'.cell? ⟨wr.heap.size, 7, none⟩ = some (.slice a5 yv.f5.length c5) ∧ w'.cell? ⟨bx, 0, none⟩ = some (.pointer (some ⟨L.wb, 0, none⟩)) ∧ w'.cell? ⟨L.wb, 3, none⟩ = some (.slice (some ad) NB cB) ∧ w'.cell? (ad.add (k * 8)) = some (.int .i64 z.f0) ∧ w'.cell? ⟨(ad.add (k * 8)).block, (ad.add (k * 8)).off + 1, none⟩ = some (.bool z.f1) ∧ w'.cell? ⟨(ad.add (k * 8)).block, (ad.add (k * 8)).off + 2, none⟩ = some (.int .i64 z.f2.f0) ∧ w'.cell? ⟨(ad.add (k * 8)).block, (ad.add (k * 8)).off + 3, none⟩ = some (.int .i64 z.f2.f1) ∧ w'.cell? ⟨(ad.add (k * 8)).block, (ad.add (k * 8)).off + 4, none⟩ = some (.int .i64 z.f2.f2) ∧ w'.cell? ⟨(ad.add (k * 8)).block, (ad.add (k * 8)).off + 5, none⟩ = some (.string z.f2.f3) ∧ w'.cell? ⟨(ad.add (k * 8)).block, (ad.add (k * 8)).off + 6, none⟩ = some (.slice P4 z.f2.f4.length p4) ∧ w'.cell? ⟨(ad.add (k * 8)).block, (ad.add (k * 8)).off + 7, none⟩ = some (.slice P5 z.f2.f5.length p5))) (ds := [21, 22, 23]) #[false, false, false, false, false, false, false, false, false, false, false, false, false, false, false, false, false, false, false, false, false, false, false, false] (by kernel_rfl) rfl rfl (by refine ⟨?_, ?_, ?_, ?_, ?_, ?_, ?_, ?_, ?_, ?_, ?_, ?_, ?_, ?_, ?_, ?_, ?_, ?_⟩ <;> go_simp) (fun hHeld => ?_)
         have HH := A_ hHeld
         clear hHeld
         refine pu_ 0 16 ?_
         refine pu_ 1 17 ?_ (hy := Or.inl ⟨by rfl, by intro w'; go_simp; (try simp only [hA]); with_reducible rfl⟩)
         refine pu_ 2 18 ?_
         refine pu_ 3 19 ?_
         refine ta_ 4 20 HH.out ?_
         refine pu_ 5 21 ?_
         refine pu_ 6 22 ?_
         refine pu_ 7 23 ?_
         refine ta_ 8 24 HH.out ?_
         refine pu_ 9 25 ?_
         refine pu_ 10 26 ?_ (hy := Or.inl ⟨by rfl, by intro w'; go_simp; (try simp only [hB]); with_reducible rfl⟩)
         refine pu_ 11 27 ?_
         refine ta_ 12 28 HH.out ?_
         refine ta_ 13 29 HH.out ?_
         refine pu_ 14 30 ?_
         refine pu_ 15 31 ?_
         refine pu_ 16 32 ?_
         refine ta_ 17 33 HH.out ?_
         refine pu_ 18 34 ?_
         refine pu_ 19 35 ?_
         refine ta_ 20 36 HH.out ?_
         refine chain_ [21, 22, 23] _ _ _ _ (⟨_, _, rfl, rfl, ⟨_, _, rfl, rfl, ⟨_, _, rfl, rfl, rfl⟩⟩⟩) (by kernel_rfl) (by decide) ?_
         go_wp2_with fail
         refine Calls.mono (KA.out _ (RowKit.Below.refl _ wn).drew) ?_
         rintro e w3 ⟨rfl, hb⟩
         have HB3 := A_ ((RowKit.Below.refl _ wn).drew.trans hb)
         clear hb
         go_wp2
         go_meet
         exact ⟨r, rfl, HC, HB3⟩
       · have hB : decide ((k : Int) < (NB : Int)) = false := by simp; omega
         have HC := A_ (show false = !chgAt s k from by have := HNB.out; unfold chgAt; simp [hk0]; omega)
         generalize L.aB = aB at *
         generalize L.cB = cB at *
         clear hk0
         refine start_ (n := 24) (S := (fun w' => w'.cell? ⟨wr.heap.size, 0, none⟩ = some (.int .i64 y0) ∧ w'.cell? ⟨wr.heap.size, 1, none⟩ = some (.bool y1) ∧ w'.cell? ⟨wr.heap.size, 2, none⟩ = some (.int .i64 yv.f0) ∧ w'.cell? ⟨wr.heap.size, 3, none⟩ = some (.int .i64 yv.f1) ∧ w'.cell? ⟨wr.heap.size, 4, none⟩ = some (.int .i64 yv.f2) ∧ w'.cell? ⟨wr.heap.size, 5, none⟩ = some (.string yv.f3) ∧ w'.cell? ⟨wr.heap.size, 6, none⟩ = some (.slice a4 yv.f4.length c4) ∧ w'.cell? ⟨wr.heap.size, 7, none⟩ = some (.slice a5 yv.f5.length c5) ∧ w'.cell? ⟨bx, 0, none⟩ = some (.pointer (some ⟨L.wb, 0, none⟩)) ∧ w'.cell? ⟨L.wb, 3, none⟩ = some (.slice aB NB cB))) (ds := [23]) #[false, false, false, false, false, false, false, false, false, false, false, false, false, false, false, false, false, false, false, false, false, false, false, false] (by kernel_rfl) rfl rfl (by refine ⟨?_, ?_, ?_, ?_, ?_, ?_, ?_, ?_, ?_, ?_⟩ <;> go_simp) (fun hHeld => ?_)
         have HH := A_ hHeld
         clear hHeld
         refine pu_ 0 16 ?_
         refine pu_ 1 17 ?_ (hy := Or.inl ⟨by rfl, by intro w'; go_simp; (try simp only [hA]); with_reducible rfl⟩)
         refine pu_ 2 18 ?_
         refine pu_ 3 19 ?_
         refine ta_ 4 20 HH.out ?_
         refine pu_ 5 21 ?_
         refine pu_ 6 22 ?_
         refine pu_ 7 23 ?_
         refine ta_ 8 24 HH.out ?_
         refine pu_ 9 25 ?_
         refine pu_ 10 26 ?_ (hy := Or.inl ⟨by rfl, by intro w'; go_simp; (try simp only [hB]); with_reducible rfl⟩)
         refine pu_ 11 27 ?_
         refine pu_ 12 28 ?_ (hy := Or.inr ⟨by rfl, rfl⟩)
         refine pu_ 13 29 ?_ (hy := Or.inr ⟨by rfl, rfl⟩)
         refine pu_ 14 30 ?_ (hy := Or.inr ⟨by rfl, rfl⟩)
         refine pu_ 15 31 ?_ (hy := Or.inr ⟨by rfl, rfl⟩)
         refine pu_ 16 32 ?_ (hy := Or.inr ⟨by rfl, rfl⟩)
         refine pu_ 17 33 ?_ (hy := Or.inr ⟨by rfl, rfl⟩)
         refine pu_ 18 34 ?_ (hy := Or.inr ⟨by rfl, rfl⟩)
         refine pu_ 19 35 ?_ (hy := Or.inr ⟨by rfl, rfl⟩)
         refine pu_ 20 36 ?_ (hy := Or.inr ⟨by rfl, rfl⟩)
         refine pu_ 21 37 ?_ (hy := Or.inr ⟨by rfl, rfl⟩)
         refine pu_ 22 38 ?_
         refine chain_ [23] _ _ _ _ (⟨_, _, rfl, rfl, rfl⟩) (by kernel_rfl) (by decide) ?_
         go_wp2
         go_meet
         exact ⟨false, rfl, HC, ⟨(RowKit.Below.refl _ wn).drew⟩⟩
    case' rest => obtain ⟨c, rfl, HC, HBC0⟩ := hcut
    cases c
    case true =>
     have hch : chgAt s k = false := by have := HC.out; revert this; cases chgAt s k <;> simp
     have HPS1 := A_ (show pre.map strC = chgs s (k + 1) from by rw [chgs_succ, hch]; simpa using HPS.out)
     have HPJ2 := A_ (abides_below HJ.out HPJ1.out HBC0.out)
     have HBn := A_ (HB1.out.trans (HBC0.out.mono HB1.out.size))
     clear hch
     go_wp2
     exact ⟨⟨k + 1, pre, by omega, by first | (rw [HWK.out]; simp; done) | (simp; done), HBn, HPJ2, HPS1⟩, by first | (rw [HWK.out]; simp [intOf]; omega) | (simp [intOf]; omega)⟩
    case false =>
     have hch : chgAt s k = true := by have := HC.out; revert this; cases chgAt s k <;> simp
     have HCH := A_ hch
     have HPJ2 := A_ (abides_below HJ.out HPJ1.out HBC0.out)
     have HBC := A_ (HB1.out.trans (HBC0.out.mono HB1.out.size))
     have BXC := A_ (blk_below BX.out HBC0.out)
     have KP := A_ (fun (W2 : World) (hb : RowKit.Below wc.heap.size wc W2) => plain_typed yv a4 c4 a5 c5 W2 (HFN.out _ HYM.out) ((HYV.out.below HBC0.out).below hb))
     clear hch HPJ1 HYV
     go_upto_region 4 with fail
     go_cut [52] (fun sv wd => ∃ c : Bool, sv = .bool c ∧ Aside0 (c = false → ∃ y : RS, y.x = plainS (s.now.getD k z69) ∧ J (pre ++ [(k, y)]) wd ∧ RowKit.Below w.heap.size w wd) ∧ Aside0 (c = true → ∃ pre', Jx pre' wd))
     case first =>
      obtain ⟨u0, u1, u2, u3, u4, u5, u6, u7⟩ := box8 (blk_drew BXC.out)
      refine (wpIn_wide (n := 1)).1 ?_
      refine wpIn_region_any (by kernel_rfl) (?_ : wpAnyIn _ _ _ _ _ _ 13 (Array.replicate 13 false) _ (World.drew _))
      refine ti_ 0 ?_
      (try simp only [Act.put, List.setIfInBounds_toArray, List.set_cons_zero, List.set_cons_succ])
      refine ti_ 1 ?_
      (try simp only [Act.put, List.setIfInBounds_toArray, List.set_cons_zero, List.set_cons_succ])
      refine ti_ 2 ?_
      (try simp only [Act.put, List.setIfInBounds_toArray, List.set_cons_zero, List.set_cons_succ])
      refine ti_ 4 ?_
      (try simp only [Act.put, List.setIfInBounds_toArray, List.set_cons_zero, List.set_cons_succ])
      refine ti_ 7 ?_
      (try simp only [Act.put, List.setIfInBounds_toArray, List.set_cons_zero, List.set_cons_succ])
      refine wpAnyIn_ready (rs := [3, 5, 8]) (by kernel_rfl) (by simp) ?_
      refine AllReadyIn.cons rfl (fun K' hK => ?_) ?_
      · go_simp
        refine hK _ _ ?_
        (try simp only [Act.put, List.setIfInBounds_toArray, List.set_cons_zero, List.set_cons_succ])
        refine wpAnyIn_ready (rs := [5, 8]) (by kernel_rfl) (by simp) ?_
        refine AllReadyIn.cons rfl (fun K' hK => ?_) ?_
        · go_simp
          refine hK _ _ ?_
          (try simp only [Act.put, List.setIfInBounds_toArray, List.set_cons_zero, List.set_cons_succ])
          refine ti_ 6 ?_
          (try simp only [Act.put, List.setIfInBounds_toArray, List.set_cons_zero, List.set_cons_succ])
          refine wpAnyIn_ready (rs := [8]) (by kernel_rfl) (by simp) ?_
          refine AllReadyIn.cons rfl (fun K' hK => ?_) ?_
          · go_simp
            refine hK _ _ ?_
            (try simp only [Act.put, List.setIfInBounds_toArray, List.set_cons_zero, List.set_cons_succ])
            refine wpAnyIn_ready (rs := [9]) (by kernel_rfl) (by simp) ?_
            refine AllReadyIn.cons rfl (fun K' hK => ?_) ?_
            · go_simp
              refine ⟨trivial, (callsIn_wide.2 (KP.out _ (RowKit.Below.refl _ wc).drew)).mono ?_⟩
              rintro e w3 ⟨n4, m4, n5, m5, rfl, hF, hb⟩
              have HF := A_ hF
              have HB3' := A_ ((RowKit.Below.refl _ wc).drew.trans hb)
              have HB3 := A_ (HBC.out.trans (HB3'.out.mono HBC.out.size))
              have BX3 := A_ (blk_below (blk_drew BXC.out) hb)
              obtain ⟨q0, q1, q2, q3, q4, q5, q6, q7⟩ := box8 BX3.out
              go_simp
              refine hK _ _ ?_
              (try simp only [Act.put, List.setIfInBounds_toArray, List.set_cons_zero, List.set_cons_succ])
              refine ti_ 10 ?_
              (try simp only [Act.put, List.setIfInBounds_toArray, List.set_cons_zero, List.set_cons_succ])
              refine wpAnyIn_ready (rs := [11]) (by kernel_rfl) (by simp) ?_
              refine AllReadyIn.cons rfl (fun K' hK => ?_) AllReadyIn.nil
              obtain ⟨fn, tmps, assign, body, hy, hR⟩ := HY.out pre (k, ⟨⟨y0, y1, plain yv⟩, n4, m4, n5, m5⟩) w3 (abides_below HJ.out HPJ2.out HB3'.out) HF.out (by have := HPL.out; omega)
              dsimp only [encC] at hy
              go_simp
              refine hR.mono ?_
              rintro e w4 (⟨rfl, hj, hk⟩ | ⟨rfl, hx⟩)
              · have HJ4 := A_ (And.intro hj (HB3.out.trans hk.1))
                clear hj hk hy hR
                refine hK _ _ ?_
                (try simp only [Act.put, List.setIfInBounds_toArray, List.set_cons_zero, List.set_cons_succ])
                refine ti_ 12 ?_
                (try simp only [Act.put, List.setIfInBounds_toArray, List.set_cons_zero, List.set_cons_succ])
                refine wpAnyIn_done (by kernel_rfl) ?_ _
                go_simp
                go_step
                go_meet
                exact ⟨false, rfl, ⟨fun _ => ⟨_, by rw [← HYX.out]; rfl, HJ4.out.1, HJ4.out.2⟩⟩, ⟨fun h => by cases h⟩⟩
              · have HJ4 := A_ hx
                clear hx hy hR
                refine hK _ _ ?_
                (try simp only [Act.put, List.setIfInBounds_toArray, List.set_cons_zero, List.set_cons_succ])
                refine ti_ 12 ?_
                (try simp only [Act.put, List.setIfInBounds_toArray, List.set_cons_zero, List.set_cons_succ])
                refine wpAnyIn_done (by kernel_rfl) ?_ _
                go_simp
                go_step
                go_meet
                exact ⟨true, rfl, ⟨fun h => by cases h⟩, ⟨fun _ => ⟨_, HJ4.out⟩⟩⟩
            exact AllReadyIn.nil
          exact AllReadyIn.nil
        refine AllReadyIn.cons rfl (fun K' hK => ?_) ?_
        · go_simp
          refine hK _ _ ?_
          (try simp only [Act.put, List.setIfInBounds_toArray, List.set_cons_zero, List.set_cons_succ])
          refine wpAnyIn_ready (rs := [5, 9]) (by kernel_rfl) (by simp) ?_
          refine AllReadyIn.cons rfl (fun K' hK => ?_) ?_
          · go_simp
            refine hK _ _ ?_
            (try simp only [Act.put, List.setIfInBounds_toArray, List.set_cons_zero, List.set_cons_succ])
            refine ti_ 6 ?_
            (try simp only [Act.put, List.setIfInBounds_toArray, List.set_cons_zero, List.set_cons_succ])
            refine wpAnyIn_ready (rs := [9]) (by kernel_rfl) (by simp) ?_
            refine AllReadyIn.cons rfl (fun K' hK => ?_) ?_
            · go_simp
              refine ⟨trivial, (callsIn_wide.2 (KP.out _ (RowKit.Below.refl _ wc).drew)).mono ?_⟩
              rintro e w3 ⟨n4, m4, n5, m5, rfl, hF, hb⟩
              have HF := A_ hF
              have HB3' := A_ ((RowKit.Below.refl _ wc).drew.trans hb)
              have HB3 := A_ (HBC.out.trans (HB3'.out.mono HBC.out.size))
              have BX3 := A_ (blk_below (blk_drew BXC.out) hb)
              obtain ⟨q0, q1, q2, q3, q4, q5, q6, q7⟩ := box8 BX3.out
              go_simp
              refine hK _ _ ?_
              (try simp only [Act.put, List.setIfInBounds_toArray, List.set_cons_zero, List.set_cons_succ])
              refine ti_ 10 ?_
              (try simp only [Act.put, List.setIfInBounds_toArray, List.set_cons_zero, List.set_cons_succ])
              refine wpAnyIn_ready (rs := [11]) (by kernel_rfl) (by simp) ?_
              refine AllReadyIn.cons rfl (fun K' hK => ?_) AllReadyIn.nil
              obtain ⟨fn, tmps, assign, body, hy, hR⟩ := HY.out pre (k, ⟨⟨y0, y1, plain yv⟩, n4, m4, n5, m5⟩) w3 (abides_below HJ.out HPJ2.out HB3'.out) HF.out (by have := HPL.out; omega)
              dsimp only [encC] at hy
              go_simp
              refine hR.mono ?_
              rintro e w4 (⟨rfl, hj, hk⟩ | ⟨rfl, hx⟩)
              · have HJ4 := A_ (And.intro hj (HB3.out.trans hk.1))
                clear hj hk hy hR
                refine hK _ _ ?_
                (try simp only [Act.put, List.setIfInBounds_toArray, List.set_cons_zero, List.set_cons_succ])
                refine ti_ 12 ?_
                (try simp only [Act.put, List.setIfInBounds_toArray, List.set_cons_zero, List.set_cons_succ])
                refine wpAnyIn_done (by kernel_rfl) ?_ _
                go_simp
                go_step
                go_meet
                exact ⟨false, rfl, ⟨fun _ => ⟨_, by rw [← HYX.out]; rfl, HJ4.out.1, HJ4.out.2⟩⟩, ⟨fun h => by cases h⟩⟩
              · have HJ4 := A_ hx
                clear hx hy hR
                refine hK _ _ ?_
                (try simp only [Act.put, List.setIfInBounds_toArray, List.set_cons_zero, List.set_cons_succ])
                refine ti_ 12 ?_
                (try simp only [Act.put, List.setIfInBounds_toArray, List.set_cons_zero, List.set_cons_succ])
                refine wpAnyIn_done (by kernel_rfl) ?_ _
                go_simp
                go_step
                go_meet
                exact ⟨true, rfl, ⟨fun h => by cases h⟩, ⟨fun _ => ⟨_, HJ4.out⟩⟩⟩
            exact AllReadyIn.nil
          refine AllReadyIn.cons rfl (fun K' hK => ?_) ?_
          · go_simp
            refine ⟨trivial, (callsIn_wide.2 (KP.out _ (RowKit.Below.refl _ wc).drew)).mono ?_⟩
            rintro e w3 ⟨n4, m4, n5, m5, rfl, hF, hb⟩
            have HF := A_ hF
            have HB3' := A_ ((RowKit.Below.refl _ wc).drew.trans hb)
            have HB3 := A_ (HBC.out.trans (HB3'.out.mono HBC.out.size))
            have BX3 := A_ (blk_below (blk_drew BXC.out) hb)
            obtain ⟨q0, q1, q2, q3, q4, q5, q6, q7⟩ := box8 BX3.out
            go_simp
            refine hK _ _ ?_
            (try simp only [Act.put, List.setIfInBounds_toArray, List.set_cons_zero, List.set_cons_succ])
            refine wpAnyIn_ready (rs := [5]) (by kernel_rfl) (by simp) ?_
            refine AllReadyIn.cons rfl (fun K' hK => ?_) ?_
            · go_simp
              refine hK _ _ ?_
              (try simp only [Act.put, List.setIfInBounds_toArray, List.set_cons_zero, List.set_cons_succ])
              refine ti_ 6 ?_
              (try simp only [Act.put, List.setIfInBounds_toArray, List.set_cons_zero, List.set_cons_succ])
              refine ti_ 10 ?_
              (try simp only [Act.put, List.setIfInBounds_toArray, List.set_cons_zero, List.set_cons_succ])
              refine wpAnyIn_ready (rs := [11]) (by kernel_rfl) (by simp) ?_
              refine AllReadyIn.cons rfl (fun K' hK => ?_) AllReadyIn.nil
              obtain ⟨fn, tmps, assign, body, hy, hR⟩ := HY.out pre (k, ⟨⟨y0, y1, plain yv⟩, n4, m4, n5, m5⟩) w3 (abides_below HJ.out HPJ2.out HB3'.out) HF.out (by have := HPL.out; omega)
              dsimp only [encC] at hy
              go_simp
              refine hR.mono ?_
              rintro e w4 (⟨rfl, hj, hk⟩ | ⟨rfl, hx⟩)
              · have HJ4 := A_ (And.intro hj (HB3.out.trans hk.1))
                clear hj hk hy hR
                refine hK _ _ ?_
                (try simp only [Act.put, List.setIfInBounds_toArray, List.set_cons_zero, List.set_cons_succ])
                refine ti_ 12 ?_
                (try simp only [Act.put, List.setIfInBounds_toArray, List.set_cons_zero, List.set_cons_succ])
                refine wpAnyIn_done (by kernel_rfl) ?_ _
                go_simp
                go_step
                go_meet
                exact ⟨false, rfl, ⟨fun _ => ⟨_, by rw [← HYX.out]; rfl, HJ4.out.1, HJ4.out.2⟩⟩, ⟨fun h => by cases h⟩⟩
              · have HJ4 := A_ hx
                clear hx hy hR
                refine hK _ _ ?_
                (try simp only [Act.put, List.setIfInBounds_toArray, List.set_cons_zero, List.set_cons_succ])
                refine ti_ 12 ?_
                (try simp only [Act.put, List.setIfInBounds_toArray, List.set_cons_zero, List.set_cons_succ])
                refine wpAnyIn_done (by kernel_rfl) ?_ _
                go_simp
                go_step
                go_meet
                exact ⟨true, rfl, ⟨fun h => by cases h⟩, ⟨fun _ => ⟨_, HJ4.out⟩⟩⟩
            exact AllReadyIn.nil
          exact AllReadyIn.nil
        exact AllReadyIn.nil
      refine AllReadyIn.cons rfl (fun K' hK => ?_) ?_
      · go_simp
        refine hK _ _ ?_
        (try simp only [Act.put, List.setIfInBounds_toArray, List.set_cons_zero, List.set_cons_succ])
        refine ti_ 6 ?_
        (try simp only [Act.put, List.setIfInBounds_toArray, List.set_cons_zero, List.set_cons_succ])
        refine wpAnyIn_ready (rs := [3, 8]) (by kernel_rfl) (by simp) ?_
        refine AllReadyIn.cons rfl (fun K' hK => ?_) ?_
        · go_simp
          refine hK _ _ ?_
          (try simp only [Act.put, List.setIfInBounds_toArray, List.set_cons_zero, List.set_cons_succ])
          refine wpAnyIn_ready (rs := [8]) (by kernel_rfl) (by simp) ?_
          refine AllReadyIn.cons rfl (fun K' hK => ?_) ?_
          · go_simp
            refine hK _ _ ?_
            (try simp only [Act.put, List.setIfInBounds_toArray, List.set_cons_zero, List.set_cons_succ])
            refine wpAnyIn_ready (rs := [9]) (by kernel_rfl) (by simp) ?_
            refine AllReadyIn.cons rfl (fun K' hK => ?_) ?_
            · go_simp
              refine ⟨trivial, (callsIn_wide.2 (KP.out _ (RowKit.Below.refl _ wc).drew)).mono ?_⟩
              rintro e w3 ⟨n4, m4, n5, m5, rfl, hF, hb⟩
              have HF := A_ hF
              have HB3' := A_ ((RowKit.Below.refl _ wc).drew.trans hb)
              have HB3 := A_ (HBC.out.trans (HB3'.out.mono HBC.out.size))
              have BX3 := A_ (blk_below (blk_drew BXC.out) hb)
              obtain ⟨q0, q1, q2, q3, q4, q5, q6, q7⟩ := box8 BX3.out
              go_simp
              refine hK _ _ ?_
              (try simp only [Act.put, List.setIfInBounds_toArray, List.set_cons_zero, List.set_cons_succ])
              refine ti_ 10 ?_
              (try simp only [Act.put, List.setIfInBounds_toArray, List.set_cons_zero, List.set_cons_succ])
              refine wpAnyIn_ready (rs := [11]) (by kernel_rfl) (by simp) ?_
              refine AllReadyIn.cons rfl (fun K' hK => ?_) AllReadyIn.nil
              obtain ⟨fn, tmps, assign, body, hy, hR⟩ := HY.out pre (k, ⟨⟨y0, y1, plain yv⟩, n4, m4, n5, m5⟩) w3 (abides_below HJ.out HPJ2.out HB3'.out) HF.out (by have := HPL.out; omega)
              dsimp only [encC] at hy
              go_simp
              refine hR.mono ?_
              rintro e w4 (⟨rfl, hj, hk⟩ | ⟨rfl, hx⟩)
              · have HJ4 := A_ (And.intro hj (HB3.out.trans hk.1))
                clear hj hk hy hR
                refine hK _ _ ?_
                (try simp only [Act.put, List.setIfInBounds_toArray, List.set_cons_zero, List.set_cons_succ])
                refine ti_ 12 ?_
                (try simp only [Act.put, List.setIfInBounds_toArray, List.set_cons_zero, List.set_cons_succ])
                refine wpAnyIn_done (by kernel_rfl) ?_ _
                go_simp
                go_step
                go_meet
                exact ⟨false, rfl, ⟨fun _ => ⟨_, by rw [← HYX.out]; rfl, HJ4.out.1, HJ4.out.2⟩⟩, ⟨fun h => by cases h⟩⟩
              · have HJ4 := A_ hx
                clear hx hy hR
                refine hK _ _ ?_
                (try simp only [Act.put, List.setIfInBounds_toArray, List.set_cons_zero, List.set_cons_succ])
                refine ti_ 12 ?_
                (try simp only [Act.put, List.setIfInBounds_toArray, List.set_cons_zero, List.set_cons_succ])
                refine wpAnyIn_done (by kernel_rfl) ?_ _
                go_simp
                go_step
                go_meet
                exact ⟨true, rfl, ⟨fun h => by cases h⟩, ⟨fun _ => ⟨_, HJ4.out⟩⟩⟩
            exact AllReadyIn.nil
          exact AllReadyIn.nil
        refine AllReadyIn.cons rfl (fun K' hK => ?_) ?_
        · go_simp
          refine hK _ _ ?_
          (try simp only [Act.put, List.setIfInBounds_toArray, List.set_cons_zero, List.set_cons_succ])
          refine wpAnyIn_ready (rs := [3, 9]) (by kernel_rfl) (by simp) ?_
          refine AllReadyIn.cons rfl (fun K' hK => ?_) ?_
          · go_simp
            refine hK _ _ ?_
            (try simp only [Act.put, List.setIfInBounds_toArray, List.set_cons_zero, List.set_cons_succ])
            refine wpAnyIn_ready (rs := [9]) (by kernel_rfl) (by simp) ?_
            refine AllReadyIn.cons rfl (fun K' hK => ?_) ?_
            · go_simp
              refine ⟨trivial, (callsIn_wide.2 (KP.out _ (RowKit.Below.refl _ wc).drew)).mono ?_⟩
              rintro e w3 ⟨n4, m4, n5, m5, rfl, hF, hb⟩
              have HF := A_ hF
              have HB3' := A_ ((RowKit.Below.refl _ wc).drew.trans hb)
              have HB3 := A_ (HBC.out.trans (HB3'.out.mono HBC.out.size))
              have BX3 := A_ (blk_below (blk_drew BXC.out) hb)
              obtain ⟨q0, q1, q2, q3, q4, q5, q6, q7⟩ := box8 BX3.out
              go_simp
              refine hK _ _ ?_
              (try simp only [Act.put, List.setIfInBounds_toArray, List.set_cons_zero, List.set_cons_succ])
              refine ti_ 10 ?_
              (try simp only [Act.put, List.setIfInBounds_toArray, List.set_cons_zero, List.set_cons_succ])
              refine wpAnyIn_ready (rs := [11]) (by kernel_rfl) (by simp) ?_
              refine AllReadyIn.cons rfl (fun K' hK => ?_) AllReadyIn.nil
              obtain ⟨fn, tmps, assign, body, hy, hR⟩ := HY.out pre (k, ⟨⟨y0, y1, plain yv⟩, n4, m4, n5, m5⟩) w3 (abides_below HJ.out HPJ2.out HB3'.out) HF.out (by have := HPL.out; omega)
              dsimp only [encC] at hy
              go_simp
              refine hR.mono ?_
              rintro e w4 (⟨rfl, hj, hk⟩ | ⟨rfl, hx⟩)
              · have HJ4 := A_ (And.intro hj (HB3.out.trans hk.1))
                clear hj hk hy hR
                refine hK _ _ ?_
                (try simp only [Act.put, List.setIfInBounds_toArray, List.set_cons_zero, List.set_cons_succ])
                refine ti_ 12 ?_
                (try simp only [Act.put, List.setIfInBounds_toArray, List.set_cons_zero, List.set_cons_succ])
                refine wpAnyIn_done (by kernel_rfl) ?_ _
                go_simp
                go_step
                go_meet
                exact ⟨false, rfl, ⟨fun _ => ⟨_, by rw [← HYX.out]; rfl, HJ4.out.1, HJ4.out.2⟩⟩, ⟨fun h => by cases h⟩⟩
              · have HJ4 := A_ hx
                clear hx hy hR
                refine hK _ _ ?_
                (try simp only [Act.put, List.setIfInBounds_toArray, List.set_cons_zero, List.set_cons_succ])
                refine ti_ 12 ?_
                (try simp only [Act.put, List.setIfInBounds_toArray, List.set_cons_zero, List.set_cons_succ])
                refine wpAnyIn_done (by kernel_rfl) ?_ _
                go_simp
                go_step
                go_meet
                exact ⟨true, rfl, ⟨fun h => by cases h⟩, ⟨fun _ => ⟨_, HJ4.out⟩⟩⟩
            exact AllReadyIn.nil
          refine AllReadyIn.cons rfl (fun K' hK => ?_) ?_
          · go_simp
            refine ⟨trivial, (callsIn_wide.2 (KP.out _ (RowKit.Below.refl _ wc).drew)).mono ?_⟩
            rintro e w3 ⟨n4, m4, n5, m5, rfl, hF, hb⟩
            have HF := A_ hF
            have HB3' := A_ ((RowKit.Below.refl _ wc).drew.trans hb)
            have HB3 := A_ (HBC.out.trans (HB3'.out.mono HBC.out.size))
            have BX3 := A_ (blk_below (blk_drew BXC.out) hb)
            obtain ⟨q0, q1, q2, q3, q4, q5, q6, q7⟩ := box8 BX3.out
            go_simp
            refine hK _ _ ?_
            (try simp only [Act.put, List.setIfInBounds_toArray, List.set_cons_zero, List.set_cons_succ])
            refine wpAnyIn_ready (rs := [3]) (by kernel_rfl) (by simp) ?_
            refine AllReadyIn.cons rfl (fun K' hK => ?_) ?_
            · go_simp
              refine hK _ _ ?_
              (try simp only [Act.put, List.setIfInBounds_toArray, List.set_cons_zero, List.set_cons_succ])
              refine ti_ 10 ?_
              (try simp only [Act.put, List.setIfInBounds_toArray, List.set_cons_zero, List.set_cons_succ])
              refine wpAnyIn_ready (rs := [11]) (by kernel_rfl) (by simp) ?_
              refine AllReadyIn.cons rfl (fun K' hK => ?_) AllReadyIn.nil
              obtain ⟨fn, tmps, assign, body, hy, hR⟩ := HY.out pre (k, ⟨⟨y0, y1, plain yv⟩, n4, m4, n5, m5⟩) w3 (abides_below HJ.out HPJ2.out HB3'.out) HF.out (by have := HPL.out; omega)
              dsimp only [encC] at hy
              go_simp
              refine hR.mono ?_
              rintro e w4 (⟨rfl, hj, hk⟩ | ⟨rfl, hx⟩)
              · have HJ4 := A_ (And.intro hj (HB3.out.trans hk.1))
                clear hj hk hy hR
                refine hK _ _ ?_
                (try simp only [Act.put, List.setIfInBounds_toArray, List.set_cons_zero, List.set_cons_succ])
                refine ti_ 12 ?_
                (try simp only [Act.put, List.setIfInBounds_toArray, List.set_cons_zero, List.set_cons_succ])
                refine wpAnyIn_done (by kernel_rfl) ?_ _
                go_simp
                go_step
                go_meet
                exact ⟨false, rfl, ⟨fun _ => ⟨_, by rw [← HYX.out]; rfl, HJ4.out.1, HJ4.out.2⟩⟩, ⟨fun h => by cases h⟩⟩
              · have HJ4 := A_ hx
                clear hx hy hR
                refine hK _ _ ?_
                (try simp only [Act.put, List.setIfInBounds_toArray, List.set_cons_zero, List.set_cons_succ])
                refine ti_ 12 ?_
                (try simp only [Act.put, List.setIfInBounds_toArray, List.set_cons_zero, List.set_cons_succ])
                refine wpAnyIn_done (by kernel_rfl) ?_ _
                go_simp
                go_step
                go_meet
                exact ⟨true, rfl, ⟨fun h => by cases h⟩, ⟨fun _ => ⟨_, HJ4.out⟩⟩⟩
            exact AllReadyIn.nil
          exact AllReadyIn.nil
        exact AllReadyIn.nil
      refine AllReadyIn.cons rfl (fun K' hK => ?_) ?_
      · go_simp
        refine hK _ _ ?_
        (try simp only [Act.put, List.setIfInBounds_toArray, List.set_cons_zero, List.set_cons_succ])
        refine wpAnyIn_ready (rs := [3, 5, 9]) (by kernel_rfl) (by simp) ?_
        refine AllReadyIn.cons rfl (fun K' hK => ?_) ?_
        · go_simp
          refine hK _ _ ?_
          (try simp only [Act.put, List.setIfInBounds_toArray, List.set_cons_zero, List.set_cons_succ])
          refine wpAnyIn_ready (rs := [5, 9]) (by kernel_rfl) (by simp) ?_
          refine AllReadyIn.cons rfl (fun K' hK => ?_) ?_
          · go_simp
            refine hK _ _ ?_
            (try simp only [Act.put, List.setIfInBounds_toArray, List.set_cons_zero, List.set_cons_succ])
            refine ti_ 6 ?_
            (try simp only [Act.put, List.setIfInBounds_toArray, List.set_cons_zero, List.set_cons_succ])
            refine wpAnyIn_ready (rs := [9]) (by kernel_rfl) (by simp) ?_
            refine AllReadyIn.cons rfl (fun K' hK => ?_) ?_
            · go_simp
              refine ⟨trivial, (callsIn_wide.2 (KP.out _ (RowKit.Below.refl _ wc).drew)).mono ?_⟩
              rintro e w3 ⟨n4, m4, n5, m5, rfl, hF, hb⟩
              have HF := A_ hF
              have HB3' := A_ ((RowKit.Below.refl _ wc).drew.trans hb)
              have HB3 := A_ (HBC.out.trans (HB3'.out.mono HBC.out.size))
              have BX3 := A_ (blk_below (blk_drew BXC.out) hb)
              obtain ⟨q0, q1, q2, q3, q4, q5, q6, q7⟩ := box8 BX3.out
              go_simp
              refine hK _ _ ?_
              (try simp only [Act.put, List.setIfInBounds_toArray, List.set_cons_zero, List.set_cons_succ])
              refine ti_ 10 ?_
              (try simp only [Act.put, List.setIfInBounds_toArray, List.set_cons_zero, List.set_cons_succ])
              refine wpAnyIn_ready (rs := [11]) (by kernel_rfl) (by simp) ?_
              refine AllReadyIn.cons rfl (fun K' hK => ?_) AllReadyIn.nil
              obtain ⟨fn, tmps, assign, body, hy, hR⟩ := HY.out pre (k, ⟨⟨y0, y1, plain yv⟩, n4, m4, n5, m5⟩) w3 (abides_below HJ.out HPJ2.out HB3'.out) HF.out (by have := HPL.out; omega)
              dsimp only [encC] at hy
              go_simp
              refine hR.mono ?_
              rintro e w4 (⟨rfl, hj, hk⟩ | ⟨rfl, hx⟩)
              · have HJ4 := A_ (And.intro hj (HB3.out.trans hk.1))
                clear hj hk hy hR
                refine hK _ _ ?_
                (try simp only [Act.put, List.setIfInBounds_toArray, List.set_cons_zero, List.set_cons_succ])
                refine ti_ 12 ?_
                (try simp only [Act.put, List.setIfInBounds_toArray, List.set_cons_zero, List.set_cons_succ])
                refine wpAnyIn_done (by kernel_rfl) ?_ _
                go_simp
                go_step
                go_meet
                exact ⟨false, rfl, ⟨fun _ => ⟨_, by rw [← HYX.out]; rfl, HJ4.out.1, HJ4.out.2⟩⟩, ⟨fun h => by cases h⟩⟩
              · have HJ4 := A_ hx
                clear hx hy hR
                refine hK _ _ ?_
                (try simp only [Act.put, List.setIfInBounds_toArray, List.set_cons_zero, List.set_cons_succ])
                refine ti_ 12 ?_
                (try simp only [Act.put, List.setIfInBounds_toArray, List.set_cons_zero, List.set_cons_succ])
                refine wpAnyIn_done (by kernel_rfl) ?_ _
                go_simp
                go_step
                go_meet
                exact ⟨true, rfl, ⟨fun h => by cases h⟩, ⟨fun _ => ⟨_, HJ4.out⟩⟩⟩
            exact AllReadyIn.nil
          refine AllReadyIn.cons rfl (fun K' hK => ?_) ?_
          · go_simp
            refine ⟨trivial, (callsIn_wide.2 (KP.out _ (RowKit.Below.refl _ wc).drew)).mono ?_⟩
            rintro e w3 ⟨n4, m4, n5, m5, rfl, hF, hb⟩
            have HF := A_ hF
            have HB3' := A_ ((RowKit.Below.refl _ wc).drew.trans hb)
            have HB3 := A_ (HBC.out.trans (HB3'.out.mono HBC.out.size))
            have BX3 := A_ (blk_below (blk_drew BXC.out) hb)
            obtain ⟨q0, q1, q2, q3, q4, q5, q6, q7⟩ := box8 BX3.out
            go_simp
            refine hK _ _ ?_
            (try simp only [Act.put, List.setIfInBounds_toArray, List.set_cons_zero, List.set_cons_succ])
            refine wpAnyIn_ready (rs := [5]) (by kernel_rfl) (by simp) ?_
            refine AllReadyIn.cons rfl (fun K' hK => ?_) ?_
            · go_simp
              refine hK _ _ ?_
              (try simp only [Act.put, List.setIfInBounds_toArray, List.set_cons_zero, List.set_cons_succ])
              refine ti_ 6 ?_
              (try simp only [Act.put, List.setIfInBounds_toArray, List.set_cons_zero, List.set_cons_succ])
              refine ti_ 10 ?_
              (try simp only [Act.put, List.setIfInBounds_toArray, List.set_cons_zero, List.set_cons_succ])
              refine wpAnyIn_ready (rs := [11]) (by kernel_rfl) (by simp) ?_
              refine AllReadyIn.cons rfl (fun K' hK => ?_) AllReadyIn.nil
              obtain ⟨fn, tmps, assign, body, hy, hR⟩ := HY.out pre (k, ⟨⟨y0, y1, plain yv⟩, n4, m4, n5, m5⟩) w3 (abides_below HJ.out HPJ2.out HB3'.out) HF.out (by have := HPL.out; omega)
              dsimp only [encC] at hy
              go_simp
              refine hR.mono ?_
              rintro e w4 (⟨rfl, hj, hk⟩ | ⟨rfl, hx⟩)
              · have HJ4 := A_ (And.intro hj (HB3.out.trans hk.1))
                clear hj hk hy hR
                refine hK _ _ ?_
                (try simp only [Act.put, List.setIfInBounds_toArray, List.set_cons_zero, List.set_cons_succ])
                refine ti_ 12 ?_
                (try simp only [Act.put, List.setIfInBounds_toArray, List.set_cons_zero, List.set_cons_succ])
                refine wpAnyIn_done (by kernel_rfl) ?_ _
                go_simp
                go_step
                go_meet
                exact ⟨false, rfl, ⟨fun _ => ⟨_, by rw [← HYX.out]; rfl, HJ4.out.1, HJ4.out.2⟩⟩, ⟨fun h => by cases h⟩⟩
              · have HJ4 := A_ hx
                clear hx hy hR
                refine hK _ _ ?_
                (try simp only [Act.put, List.setIfInBounds_toArray, List.set_cons_zero, List.set_cons_succ])
                refine ti_ 12 ?_
                (try simp only [Act.put, List.setIfInBounds_toArray, List.set_cons_zero, List.set_cons_succ])
                refine wpAnyIn_done (by kernel_rfl) ?_ _
                go_simp
                go_step
                go_meet
                exact ⟨true, rfl, ⟨fun h => by cases h⟩, ⟨fun _ => ⟨_, HJ4.out⟩⟩⟩
            exact AllReadyIn.nil
          exact AllReadyIn.nil
        refine AllReadyIn.cons rfl (fun K' hK => ?_) ?_
        · go_simp
          refine hK _ _ ?_
          (try simp only [Act.put, List.setIfInBounds_toArray, List.set_cons_zero, List.set_cons_succ])
          refine ti_ 6 ?_
          (try simp only [Act.put, List.setIfInBounds_toArray, List.set_cons_zero, List.set_cons_succ])
          refine wpAnyIn_ready (rs := [3, 9]) (by kernel_rfl) (by simp) ?_
          refine AllReadyIn.cons rfl (fun K' hK => ?_) ?_
          · go_simp
            refine hK _ _ ?_
            (try simp only [Act.put, List.setIfInBounds_toArray, List.set_cons_zero, List.set_cons_succ])
            refine wpAnyIn_ready (rs := [9]) (by kernel_rfl) (by simp) ?_
            refine AllReadyIn.cons rfl (fun K' hK => ?_) ?_
            · go_simp
              refine ⟨trivial, (callsIn_wide.2 (KP.out _ (RowKit.Below.refl _ wc).drew)).mono ?_⟩
              rintro e w3 ⟨n4, m4, n5, m5, rfl, hF, hb⟩
              have HF := A_ hF
              have HB3' := A_ ((RowKit.Below.refl _ wc).drew.trans hb)
              have HB3 := A_ (HBC.out.trans (HB3'.out.mono HBC.out.size))
              have BX3 := A_ (blk_below (blk_drew BXC.out) hb)
              obtain ⟨q0, q1, q2, q3, q4, q5, q6, q7⟩ := box8 BX3.out
              go_simp
              refine hK _ _ ?_
              (try simp only [Act.put, List.setIfInBounds_toArray, List.set_cons_zero, List.set_cons_succ])
              refine ti_ 10 ?_
              (try simp only [Act.put, List.setIfInBounds_toArray, List.set_cons_zero, List.set_cons_succ])
              refine wpAnyIn_ready (rs := [11]) (by kernel_rfl) (by simp) ?_
              refine AllReadyIn.cons rfl (fun K' hK => ?_) AllReadyIn.nil
              obtain ⟨fn, tmps, assign, body, hy, hR⟩ := HY.out pre (k, ⟨⟨y0, y1, plain yv⟩, n4, m4, n5, m5⟩) w3 (abides_below HJ.out HPJ2.out HB3'.out) HF.out (by have := HPL.out; omega)
              dsimp only [encC] at hy
              go_simp
              refine hR.mono ?_
              rintro e w4 (⟨rfl, hj, hk⟩ | ⟨rfl, hx⟩)
              · have HJ4 := A_ (And.intro hj (HB3.out.trans hk.1))
                clear hj hk hy hR
                refine hK _ _ ?_
                (try simp only [Act.put, List.setIfInBounds_toArray, List.set_cons_zero, List.set_cons_succ])
                refine ti_ 12 ?_
                (try simp only [Act.put, List.setIfInBounds_toArray, List.set_cons_zero, List.set_cons_succ])
                refine wpAnyIn_done (by kernel_rfl) ?_ _
                go_simp
                go_step
                go_meet
                exact ⟨false, rfl, ⟨fun _ => ⟨_, by rw [← HYX.out]; rfl, HJ4.out.1, HJ4.out.2⟩⟩, ⟨fun h => by cases h⟩⟩
              · have HJ4 := A_ hx
                clear hx hy hR
                refine hK _ _ ?_
                (try simp only [Act.put, List.setIfInBounds_toArray, List.set_cons_zero, List.set_cons_succ])
                refine ti_ 12 ?_
                (try simp only [Act.put, List.setIfInBounds_toArray, List.set_cons_zero, List.set_cons_succ])
                refine wpAnyIn_done (by kernel_rfl) ?_ _
                go_simp
                go_step
                go_meet
                exact ⟨true, rfl, ⟨fun h => by cases h⟩, ⟨fun _ => ⟨_, HJ4.out⟩⟩⟩
            exact AllReadyIn.nil
          refine AllReadyIn.cons rfl (fun K' hK => ?_) ?_
          · go_simp
            refine ⟨trivial, (callsIn_wide.2 (KP.out _ (RowKit.Below.refl _ wc).drew)).mono ?_⟩
            rintro e w3 ⟨n4, m4, n5, m5, rfl, hF, hb⟩
            have HF := A_ hF
            have HB3' := A_ ((RowKit.Below.refl _ wc).drew.trans hb)
            have HB3 := A_ (HBC.out.trans (HB3'.out.mono HBC.out.size))
            have BX3 := A_ (blk_below (blk_drew BXC.out) hb)
            obtain ⟨q0, q1, q2, q3, q4, q5, q6, q7⟩ := box8 BX3.out
            go_simp
            refine hK _ _ ?_
            (try simp only [Act.put, List.setIfInBounds_toArray, List.set_cons_zero, List.set_cons_succ])
            refine wpAnyIn_ready (rs := [3]) (by kernel_rfl) (by simp) ?_
            refine AllReadyIn.cons rfl (fun K' hK => ?_) ?_
            · go_simp
              refine hK _ _ ?_
              (try simp only [Act.put, List.setIfInBounds_toArray, List.set_cons_zero, List.set_cons_succ])
              refine ti_ 10 ?_
              (try simp only [Act.put, List.setIfInBounds_toArray, List.set_cons_zero, List.set_cons_succ])
              refine wpAnyIn_ready (rs := [11]) (by kernel_rfl) (by simp) ?_
              refine AllReadyIn.cons rfl (fun K' hK => ?_) AllReadyIn.nil
              obtain ⟨fn, tmps, assign, body, hy, hR⟩ := HY.out pre (k, ⟨⟨y0, y1, plain yv⟩, n4, m4, n5, m5⟩) w3 (abides_below HJ.out HPJ2.out HB3'.out) HF.out (by have := HPL.out; omega)
              dsimp only [encC] at hy
              go_simp
              refine hR.mono ?_
              rintro e w4 (⟨rfl, hj, hk⟩ | ⟨rfl, hx⟩)
              · have HJ4 := A_ (And.intro hj (HB3.out.trans hk.1))
                clear hj hk hy hR
                refine hK _ _ ?_
                (try simp only [Act.put, List.setIfInBounds_toArray, List.set_cons_zero, List.set_cons_succ])
                refine ti_ 12 ?_
                (try simp only [Act.put, List.setIfInBounds_toArray, List.set_cons_zero, List.set_cons_succ])
                refine wpAnyIn_done (by kernel_rfl) ?_ _
                go_simp
                go_step
                go_meet
                exact ⟨false, rfl, ⟨fun _ => ⟨_, by rw [← HYX.out]; rfl, HJ4.out.1, HJ4.out.2⟩⟩, ⟨fun h => by cases h⟩⟩
              · have HJ4 := A_ hx
                clear hx hy hR
                refine hK _ _ ?_
                (try simp only [Act.put, List.setIfInBounds_toArray, List.set_cons_zero, List.set_cons_succ])
                refine ti_ 12 ?_
                (try simp only [Act.put, List.setIfInBounds_toArray, List.set_cons_zero, List.set_cons_succ])
                refine wpAnyIn_done (by kernel_rfl) ?_ _
                go_simp
                go_step
                go_meet
                exact ⟨true, rfl, ⟨fun h => by cases h⟩, ⟨fun _ => ⟨_, HJ4.out⟩⟩⟩
            exact AllReadyIn.nil
          exact AllReadyIn.nil
        refine AllReadyIn.cons rfl (fun K' hK => ?_) ?_
        · go_simp
          refine ⟨trivial, (callsIn_wide.2 (KP.out _ (RowKit.Below.refl _ wc).drew)).mono ?_⟩
          rintro e w3 ⟨n4, m4, n5, m5, rfl, hF, hb⟩
          have HF := A_ hF
          have HB3' := A_ ((RowKit.Below.refl _ wc).drew.trans hb)
          have HB3 := A_ (HBC.out.trans (HB3'.out.mono HBC.out.size))
          have BX3 := A_ (blk_below (blk_drew BXC.out) hb)
          obtain ⟨q0, q1, q2, q3, q4, q5, q6, q7⟩ := box8 BX3.out
          go_simp
          refine hK _ _ ?_
          (try simp only [Act.put, List.setIfInBounds_toArray, List.set_cons_zero, List.set_cons_succ])
          refine wpAnyIn_ready (rs := [3, 5]) (by kernel_rfl) (by simp) ?_
          refine AllReadyIn.cons rfl (fun K' hK => ?_) ?_
          · go_simp
            refine hK _ _ ?_
            (try simp only [Act.put, List.setIfInBounds_toArray, List.set_cons_zero, List.set_cons_succ])
            refine wpAnyIn_ready (rs := [5]) (by kernel_rfl) (by simp) ?_
            refine AllReadyIn.cons rfl (fun K' hK => ?_) ?_
            · go_simp
              refine hK _ _ ?_
              (try simp only [Act.put, List.setIfInBounds_toArray, List.set_cons_zero, List.set_cons_succ])
              refine ti_ 6 ?_
              (try simp only [Act.put, List.setIfInBounds_toArray, List.set_cons_zero, List.set_cons_succ])
              refine ti_ 10 ?_
              (try simp only [Act.put, List.setIfInBounds_toArray, List.set_cons_zero, List.set_cons_succ])
              refine wpAnyIn_ready (rs := [11]) (by kernel_rfl) (by simp) ?_
              refine AllReadyIn.cons rfl (fun K' hK => ?_) AllReadyIn.nil
              obtain ⟨fn, tmps, assign, body, hy, hR⟩ := HY.out pre (k, ⟨⟨y0, y1, plain yv⟩, n4, m4, n5, m5⟩) w3 (abides_below HJ.out HPJ2.out HB3'.out) HF.out (by have := HPL.out; omega)
              dsimp only [encC] at hy
              go_simp
              refine hR.mono ?_
              rintro e w4 (⟨rfl, hj, hk⟩ | ⟨rfl, hx⟩)
              · have HJ4 := A_ (And.intro hj (HB3.out.trans hk.1))
                clear hj hk hy hR
                refine hK _ _ ?_
                (try simp only [Act.put, List.setIfInBounds_toArray, List.set_cons_zero, List.set_cons_succ])
                refine ti_ 12 ?_
                (try simp only [Act.put, List.setIfInBounds_toArray, List.set_cons_zero, List.set_cons_succ])
                refine wpAnyIn_done (by kernel_rfl) ?_ _
                go_simp
                go_step
                go_meet
                exact ⟨false, rfl, ⟨fun _ => ⟨_, by rw [← HYX.out]; rfl, HJ4.out.1, HJ4.out.2⟩⟩, ⟨fun h => by cases h⟩⟩
              · have HJ4 := A_ hx
                clear hx hy hR
                refine hK _ _ ?_
                (try simp only [Act.put, List.setIfInBounds_toArray, List.set_cons_zero, List.set_cons_succ])
                refine ti_ 12 ?_
                (try simp only [Act.put, List.setIfInBounds_toArray, List.set_cons_zero, List.set_cons_succ])
                refine wpAnyIn_done (by kernel_rfl) ?_ _
                go_simp
                go_step
                go_meet
                exact ⟨true, rfl, ⟨fun h => by cases h⟩, ⟨fun _ => ⟨_, HJ4.out⟩⟩⟩
            exact AllReadyIn.nil
          refine AllReadyIn.cons rfl (fun K' hK => ?_) ?_
          · go_simp
            refine hK _ _ ?_
            (try simp only [Act.put, List.setIfInBounds_toArray, List.set_cons_zero, List.set_cons_succ])
            refine ti_ 6 ?_
            (try simp only [Act.put, List.setIfInBounds_toArray, List.set_cons_zero, List.set_cons_succ])
            refine wpAnyIn_ready (rs := [3]) (by kernel_rfl) (by simp) ?_
            refine AllReadyIn.cons rfl (fun K' hK => ?_) ?_
            · go_simp
              refine hK _ _ ?_
              (try simp only [Act.put, List.setIfInBounds_toArray, List.set_cons_zero, List.set_cons_succ])
              refine ti_ 10 ?_
              (try simp only [Act.put, List.setIfInBounds_toArray, List.set_cons_zero, List.set_cons_succ])
              refine wpAnyIn_ready (rs := [11]) (by kernel_rfl) (by simp) ?_
              refine AllReadyIn.cons rfl (fun K' hK => ?_) AllReadyIn.nil
              obtain ⟨fn, tmps, assign, body, hy, hR⟩ := HY.out pre (k, ⟨⟨y0, y1, plain yv⟩, n4, m4, n5, m5⟩) w3 (abides_below HJ.out HPJ2.out HB3'.out) HF.out (by have := HPL.out; omega)
              dsimp only [encC] at hy
              go_simp
              refine hR.mono ?_
              rintro e w4 (⟨rfl, hj, hk⟩ | ⟨rfl, hx⟩)
              · have HJ4 := A_ (And.intro hj (HB3.out.trans hk.1))
                clear hj hk hy hR
                refine hK _ _ ?_
                (try simp only [Act.put, List.setIfInBounds_toArray, List.set_cons_zero, List.set_cons_succ])
                refine ti_ 12 ?_
                (try simp only [Act.put, List.setIfInBounds_toArray, List.set_cons_zero, List.set_cons_succ])
                refine wpAnyIn_done (by kernel_rfl) ?_ _
                go_simp
                go_step
                go_meet
                exact ⟨false, rfl, ⟨fun _ => ⟨_, by rw [← HYX.out]; rfl, HJ4.out.1, HJ4.out.2⟩⟩, ⟨fun h => by cases h⟩⟩
              · have HJ4 := A_ hx
                clear hx hy hR
                refine hK _ _ ?_
                (try simp only [Act.put, List.setIfInBounds_toArray, List.set_cons_zero, List.set_cons_succ])
                refine ti_ 12 ?_
                (try simp only [Act.put, List.setIfInBounds_toArray, List.set_cons_zero, List.set_cons_succ])
                refine wpAnyIn_done (by kernel_rfl) ?_ _
                go_simp
                go_step
                go_meet
                exact ⟨true, rfl, ⟨fun h => by cases h⟩, ⟨fun _ => ⟨_, HJ4.out⟩⟩⟩
            exact AllReadyIn.nil
          exact AllReadyIn.nil
        exact AllReadyIn.nil
      exact AllReadyIn.nil
     case' rest => obtain ⟨c, rfl, HC1, HC2⟩ := hcut
     cases c
     case false =>
      obtain ⟨y, hy, hj, hb⟩ := HC1.out rfl
      have HPJ4 := A_ hj
      have HB4 := A_ hb
      have HPS1 := A_ (show (pre ++ [(k, y)]).map strC = chgs s (k + 1) from by rw [chgs_succ, HCH.out, if_pos rfl, List.map_append, HPS.out, ← hy]; rfl)
      clear hy hj hb HC1 HC2
      go_wp2
      exact ⟨⟨k + 1, _, by omega, by first | (rw [HWK.out]; simp; done) | (simp; done), HB4, HPJ4, HPS1⟩, by first | (rw [HWK.out]; simp [intOf]; omega) | (simp [intOf]; omega)⟩
     case true =>
      obtain ⟨pre', hx⟩ := HC2.out rfl
      have HX4 := A_ hx
      clear hx HC1 HC2
      go_wp2
      refine bodyPost_ret (results_none rfl _ _ _) rfl ⟨⟨_, rfl⟩, Or.inr ⟨pre', ?_, HX4.out⟩⟩
      intro h0
      have h1 := chgs_mono s (show k + 1 ≤ s.now.length by have := HLN.out; have := HN.out; omega)
      rw [h0, chgs_succ, HCH.out, if_pos rfl] at h1
      have h2 := List.prefix_nil.1 h1
      simp at h2
  · obtain rfl : N = k := by omega
    have HPS1 := A_ (show pre.map strC = chgs s s.now.length from by rw [HPS.out]; congr 1; have := HLN.out; have := HN.out; omega)
    go_wp2
    go_end0
    exact ⟨⟨_, rfl⟩, Or.inl ⟨pre, HPS1.out, HPJ.out⟩⟩
def cellsC (x : Nat × RS) : List Value := [.int .i64 x.1, .int .i64 x.2.x.f0, .bool (!x.2.x.f1), .int .i64 x.2.x.f2.f0, .int .i64 x.2.x.f2.f1, .int .i64 x.2.x.f2.f2, .string x.2.x.f2.f3, .slice x.2.a4 x.2.x.f2.f4.length x.2.c4, .slice x.2.a5 x.2.x.f2.f5.length x.2.c5]
def flatC (xs : List (Nat × RS)) : List Value := xs.flatMap cellsC
theorem flatC_snoc (l : List (Nat × RS)) (x : Nat × RS) : flatC (l ++ [x]) = flatC l ++ cellsC x := by simp [flatC]
def CRow (b : Nat) (v : Value) (xs : List (Nat × RS)) (W : World) : Prop := W.ownsRow b 67 9 v xs.length (flatC xs) ∧ ∀ x ∈ xs, FT x.2 W
theorem cellsC_new (w : World) (cs : List Value) (t : TypeId) (j : Nat) (u : Value) (h : cs[j]? = some u) : (w.alloc (.cells cs.toArray t)).cell? ((⟨w.heap.size, 0, none⟩ : Addr).add j) = some u := by
 have e : (⟨w.heap.size, 0, none⟩ : Addr).add j = ⟨w.heap.size, j, none⟩ := by unfold Addr.add; split <;> simp_all
 rw [e, cell_of_row _ _ _ _ _ _ (World.alloc_heap_new w (.cells cs.toArray t)), List.getElem?_toArray]
 exact h
theorem KeepU.grown {B : Nat} {W W' : World} {v : Value} {n : Nat} {base e size : Nat} {xs : List Value} (h : W.grownBy W' v.ownBlock) (ho : W.ownsRow base e size v n xs) (hB : B ≤ base) (hBW : B ≤ W.heap.size) (he : ¬ (e = 35 ∨ e = 89)) : KeepU B W W' :=
 ⟨(RowKit.Below.refl B W).grown h hBW (fun k hk => Nat.le_trans hB (own_base ho k hk)), fun k hk => by
   refine h.block k hk.lt (fun e' => ?_)
   obtain ⟨cells, hc⟩ := own_typed ho k e'.symm
   obtain ⟨q, cs, hq, hh⟩ := hk
   rw [hc] at hh
   injection hh with hh; injection hh with _ h2 _
   exact he (h2 ▸ hq)⟩
theorem KeepU.box {B : Nat} {W : World} {b t : Nat} {u : Value} (h : Boxed W b t u) (hB : B ≤ b) (ht : ¬ (t = 35 ∨ t = 89)) (u' : Value) : KeepU B W (W.setCell ⟨b, 0, none⟩ u') :=
 ⟨(RowKit.Below.refl B W).setCell hB u', fun k hk => by
   refine Below.heap_setCell W ⟨b, 0, none⟩ u' k (fun e' => ?_)
   obtain ⟨q, cs, hq, hh⟩ := hk
   have e2 : k = b := e'
   subst e2
   rw [show W.heap[k]? = _ from h] at hh
   injection hh with hh; injection hh with _ h2 _
   exact ht (h2 ▸ hq)⟩
theorem box9 {w : World} {b T : Nat} {c0 c1 c2 c3 c4 c5 c6 c7 c8 : Value} (h : w.heap[b]? = some (.cells #[c0, c1, c2, c3, c4, c5, c6, c7, c8] T (0, 0))) : w.cell? ⟨b, 0, none⟩ = some c0 ∧ w.cell? ⟨b, 1, none⟩ = some c1 ∧ w.cell? ⟨b, 2, none⟩ = some c2 ∧ w.cell? ⟨b, 3, none⟩ = some c3 ∧ w.cell? ⟨b, 4, none⟩ = some c4 ∧ w.cell? ⟨b, 5, none⟩ = some c5 ∧ w.cell? ⟨b, 6, none⟩ = some c6 ∧ w.cell? ⟨b, 7, none⟩ = some c7 ∧ w.cell? ⟨b, 8, none⟩ = some c8 := by
 refine ⟨?_, ?_, ?_, ?_, ?_, ?_, ?_, ?_, ?_⟩ <;> (rw [cell_of_row w b _ _ _ _ h]; rfl)
theorem ft_own (B : Nat) : OwnFrom B (fun (pre : List (Nat × RS)) W => ∀ x ∈ pre, FT x.2 W) := fun pre X Y row h hg hr x hx =>
 (h x hx).keep (B := 0) ⟨⟨hg.os, hg.tape, hg.output, hg.size, fun k hk => absurd hk (Nat.not_lt_zero k)⟩, fun k hk => by
  refine hg.block k hk.lt (fun e' => ?_)
  obtain ⟨_, o, ho, hc⟩ := hr k e'.symm
  obtain ⟨q, cs, hq, hh⟩ := hk
  rw [hh] at ho
  cases ho
  cases hc⟩
theorem others_calls (wb : Nat) (w : World) : Calls Try.prog 100 #[.pointer (some ⟨wb, 0, none⟩)] w fun e w' => e = .returned (.func (.func 143) #[] #[.pointer (some ⟨w.heap.size, 0, none⟩)]) ∧ w' = w.alloc (.cells #[.pointer (some ⟨wb, 0, none⟩)] 23) := by
 have hu23 := Try.underlying23
 go_enter Try.func100, Try.ntmps100
 go_wp2
 go_ret
 exact ⟨rfl, rfl⟩
set_option maxRecDepth 100000 in
set_option maxHeartbeats 8000000 in
theorem append_seq (lb : Array Value) (S Sp : List (Nat × RS) → Prop) (w : World) (hseq : GoodSeq 143 lb encC (KeepU w.heap.size) (fun x W => FT x.2 W) S Sp 90000 w) :
 Calls Try.prog 142 #[.slice none 0 0, .func (.func 143) #[] lb] w fun e w' => ∃ v0 xs, e = .returned v0 ∧ S xs ∧ CRow w.heap.size v0 xs w' ∧ RowKit.Below w.heap.size w w' := by
 have hu60 := Try.underlying60
 have hu67 := Try.underlying67
 obtain ⟨i0, hi, hz0, hz1, hz2⟩ := info_parts info67
 refine (callsIn_wide (n := 6)).1 ?_
 refine callsIn_of_wp_marks Try.func142 rfl trivial ?_ rfl
 simp only [Try.ntmps142, List.size_toArray, List.length_cons, List.length_nil, Nat.reduceAdd, Nat.reduceSub, Array.replicate_succ, Array.replicate_zero, List.push_toArray, List.append_toArray, List.nil_append, List.cons_append]
 gi_wp2_with fail
 have b2 := Boxed.new w 60 (.slice none 0 0)
 have hB0 : RowKit.Below w.heap.size w (w.alloc (.cells #[.slice none 0 0] 60)) := below_alloc (RowKit.Below.refl _ w) _
 have hsz : (w.alloc (.cells #[.slice none 0 0] 60)).heap.size = w.heap.size + 1 := by simp
 have ow0 : (w.alloc (.cells #[.slice none 0 0] 60)).ownsRow w.heap.size 67 9 (.slice none 0 0) 0 [] := ⟨rfl, .inl ⟨rfl, rfl⟩⟩
 obtain ⟨W0, hW0⟩ : ∃ W0, (w.alloc (.cells #[.slice none 0 0] 60)) = W0 := ⟨_, rfl⟩
 rw [hW0] at b2 hB0 hsz ow0 ⊢
 clear hW0
 refine range_all rfl (enters_of Try.func143 (by kernel_rfl) rfl) hseq KeepU.trans (fun W l o o' hl h1 h2 h3 => KeepU.put (w := W0) (by omega) W l o o' hl h1 h2 h3) (fun h k => h.keep k) hB0 (fun _ => rfl)
  (fun pre W => (∃ v, Boxed W w.heap.size 60 v ∧ W.ownsRow w.heap.size 67 9 v pre.length (flatC pre) ∧ True) ∧ RowKit.Below w.heap.size w W ∧ ∀ x ∈ pre, FT x.2 W)
  (OwnFrom.and (Own.from (holdsRow_own w.heap.size w.heap.size 60 67 9 (fun pre : List (Nat × RS) => pre.length) (fun pre : List (Nat × RS) => flatC pre) (fun _ _ => True)) _) (OwnFrom.and (ownFrom_below (Nat.le_refl _) (by omega)) (ft_own _)))
  ⟨⟨_, b2, ow0, trivial⟩, hB0, fun x hx => by simp at hx⟩
  (fun x a' W => ∃ Bx, w.heap.size < Bx ∧ W.heap[Bx]? = some (.cells (cellsC x).toArray 67 (0, 0)) ∧ a' = { tmps := #[.slice none 0 0, .func (.func 143) #[] lb, .pointer (some ⟨w.heap.size, 0, none⟩), undef, .slice none 0 0, .pointer (some ⟨Bx, 0, none⟩), .func (.func 143) #[] lb, .agg #[.int .i64 x.1, .int .i64 x.2.x.f0, .bool (!x.2.x.f1), .int .i64 x.2.x.f2.f0, .int .i64 x.2.x.f2.f1, .int .i64 x.2.x.f2.f2, .string x.2.x.f2.f3, .slice x.2.a4 x.2.x.f2.f4.length x.2.c4, .slice x.2.a5 x.2.x.f2.f5.length x.2.c5], undef, undef, undef, undef, undef], defers := [] })
  (fun x a' _ X Y row hs hg hr => by
   obtain ⟨Bx, e1, e2, e3⟩ := hs
   refine ⟨Bx, e1, (hg.block Bx (blk_lt e2) (fun e' => ?_)).trans e2, e3⟩
   obtain ⟨_, o, ho, hc⟩ := hr Bx e'.symm
   rw [e2] at ho
   cases ho
   cases hc)
  ?assign ?body ?done
 case assign =>
  rintro l pre x W K ⟨⟨v1, bR1, hrow, -⟩, hB1, hFT⟩ hK
  dsimp only [encC]
  gi_wp2
  exact hK _ _ ((KeepsOthers.alloc _ _).from _) (KeepU.of_below hB1.size (below_alloc (RowKit.Below.refl _ W) _)) ⟨⟨_, bR1.alloc _, hrow.alloc _, trivial⟩, hB1.alloc hB1.size _, fun y hy => (hFT y hy).keep (KeepU.of_below hB1.size (below_alloc (RowKit.Below.refl _ W) _))⟩ ⟨W.heap.size, bR1.lt, World.alloc_heap_new W _, rfl⟩
 case body =>
  rintro l pre x a' W ⟨⟨v1, bR1, hrow, -⟩, hB1, hFT⟩ ⟨Bx, hBx, bX, rfl⟩ hgood hlt
  obtain ⟨x0, x1, x2, x3, x4, x5, x6, x7, x8⟩ := box9 bX
  have cR := bR1.cell
  have fR := bR1.frozen
  have hsW := hB1.size
  gi_wp2_with (gi_at_builtin; refine wpListIn_append_own _ rfl _ _ 60 rfl w.heap.size 67 i0 _ 9 112 Try.underlying60 hi hz0 hz1 hz2 rfl (by decide) _ _ _ rfl (hrow.alloc _) ⟨W.heap.size, 0, none⟩ 1 1 (cellsC x) rfl rfl (cellsC_new W (cellsC x) _) (by simp [cellsC, Value.oneCell']) (by simp [maxLen]; omega) (by omega) (by simp; omega) ?_; intro v' w1 hown' hgrow _; obtain ⟨g', cap', rfl⟩ := ownsRow_succ hown'; obtain ⟨hv1, hv2, hr2, hk2, hb2⟩ := bR1.appended (by decide) hrow hB1.size (by omega) hown' hgrow; have hc1 := hv1.cell; have hf1 := hv1.frozen)
  have hr3 : (w1.setCell ⟨w.heap.size, 0, none⟩ (.slice (some ⟨g', 0, none⟩) (pre.length + 1) cap')).ownsRow w.heap.size 67 9 (.slice (some ⟨g', 0, none⟩) (pre.length + 1) cap') (pre ++ [x]).length (flatC (pre ++ [x])) := by rw [List.length_append, flatC_snoc]; exact hr2
  have hku := (KeepU.of_below hB1.size (below_alloc (RowKit.Below.refl _ W) (.cells (cellsC x).toArray 67))).trans ((KeepU.grown (B := w.heap.size) hgrow (hrow.alloc _) (Nat.le_refl _) (by simp; omega) (by decide)).trans (KeepU.box hv1 (Nat.le_refl _) (by decide) (.slice (some ⟨g', 0, none⟩) (pre.length + 1) cap')))
  exact ⟨hk2.from _, hku, ⟨_, hv2, hr3, trivial⟩, hB1.trans hb2, fun y hy => by
   rcases List.mem_append.1 hy with hy | hy
   · exact (hFT y hy).keep hku
   · obtain rfl := List.mem_singleton.1 hy
     exact hgood.keep hku⟩
 case done =>
  rintro D ys W hD hS ⟨⟨v1, bR1, hrow, -⟩, hB1, hFT⟩ hK
  have cR := bR1.cell
  have hkd := KeepU.put (B := w.heap.size) (w := w) (Nat.le_refl _) W D _ (.deferred none) (by omega) hK rfl rfl
  gi_wp2
  refine ⟨by simp, .inl ⟨_, _, rfl, run_takeDeferred hK, ?_⟩⟩
  exact ⟨_, results_tmp rfl _ _ _, v1, ys, rfl, hS, ⟨ownsRow_putObj hrow _ hK rfl, fun y hy => (hFT y hy).keep (KeepU.put (B := w.heap.size) (w := w) (Nat.le_refl _) W D _ _ (by omega) hK rfl rfl)⟩, hB1.trans (belowK_b (w := w) (Nat.le_refl _) W D _ _ (by omega) hK rfl rfl)⟩
set_option maxHeartbeats 4000000 in
theorem collect_calls (lb : Array Value) (S Sp : List (Nat × RS) → Prop) (w : World) (hseq : GoodSeq 143 lb encC (KeepU w.heap.size) (fun x W => FT x.2 W) S Sp 90000 w) :
 Calls Try.prog 99 #[.func (.func 143) #[] lb] w fun e w' => ∃ v0 xs, e = .returned v0 ∧ S xs ∧ CRow w.heap.size v0 xs w' ∧ RowKit.Below w.heap.size w w' := by
 have KA := A_ (append_seq lb S Sp w hseq)
 clear hseq
 go_enter Try.func99, Try.ntmps99
 go_wp2_with fail
 refine Calls.mono KA.out ?_
 rintro e w1 ⟨v0, xs, rfl, hS, hC, hb⟩
 have HP := A_ (And.intro hS (And.intro hC hb))
 clear hS hC hb
 go_wp2
 go_ret
 exact ⟨v0, xs, rfl, HP.out.1, HP.out.2.1, HP.out.2.2⟩
theorem CRow.lower {b b' : Nat} {v : Value} {xs : List (Nat × RS)} {W : World} (h : CRow b v xs W) (hb : b' ≤ b) : CRow b' v xs W := ⟨own_weaken h.1 hb, h.2⟩
set_option maxHeartbeats 8000000 in
theorem changes_calls (b0 : Nat) (L : WL) (s : WS) (w : World) (h : WorkIs b0 L s w) (hl9 : L.rs.length ≤ 90000) (hfn : ∀ x ∈ s.now, fewV x.f2) (hfb : ∀ x ∈ s.base, fewV x.f2) :
 Calls Try.prog 33 #[.pointer (some ⟨L.wb, 0, none⟩)] w fun e w' => ∃ v0 xs, e = .returned v0 ∧ xs.map strC = chgs s s.now.length ∧ CRow w.heap.size v0 xs w' ∧ RowKit.Below w.heap.size w w' := by
 have hu23 := Try.underlying23
 have H := A_ h
 have HP := A_ (And.intro hl9 (And.intro hfn hfb))
 clear h hl9 hfn hfb
 go_enter Try.func33, Try.ntmps33
 go_wp2_with fail
 refine Calls.mono (others_calls L.wb w) ?_
 rintro e w1 ⟨rfl, rfl⟩
 have hb1 := below_alloc (RowKit.Below.refl w.heap.size w) (.cells #[.pointer (some ⟨L.wb, 0, none⟩)] 23)
 have KC := A_ (collect_calls _ _ _ _ (others143 b0 L s w.heap.size _ (H.out.below hb1) HP.out.1 HP.out.2.1 HP.out.2.2 (blk_new w _)))
 have HB := A_ hb1
 clear hb1
 go_wp2_with fail
 refine Calls.mono KC.out ?_
 rintro e w2 ⟨v0, xs, rfl, hS, hC, hb⟩
 have HR := A_ (And.intro hS (And.intro (hC.lower HB.out.size) (HB.out.trans (hb.mono HB.out.size))))
 clear hS hC hb
 go_wp2
 go_ret
 exact ⟨v0, xs, rfl, HR.out.1, HR.out.2.1, HR.out.2.2⟩
noncomputable def dirtyB (s : WS) : Bool := !(chgs s s.now.length).isEmpty || !(s.rn == s.bn && s.rg == s.bg)
theorem keepB {B b t : Nat} {u : Value} {X Y : World} {row : Option Nat} (h : Boxed X b t u) (hg : X.grownBy Y row) (hr : ∀ r, row = some r → B ≤ r ∧ ∃ o : Obj, X.heap[r]? = some o ∧ o.isCells = false) : Boxed Y b t u :=
 (hg.block b h.lt (fun e' => by
  obtain ⟨_, o, ho, hc⟩ := hr b e'.symm
  rw [show X.heap[b]? = _ from h] at ho
  cases ho
  cases hc)).trans h
set_option maxRecDepth 100000 in
set_option maxHeartbeats 8000000 in
theorem dirty_calls (b0 : Nat) (L : WL) (s : WS) (w : World) (h : WorkIs b0 L s w) (hl9 : L.rs.length ≤ 90000) (hfn : ∀ x ∈ s.now, fewV x.f2) (hfb : ∀ x ∈ s.base, fewV x.f2) :
 Calls Try.prog 35 #[.pointer (some ⟨L.wb, 0, none⟩)] w fun e w' => e = .returned (.bool (dirtyB s)) ∧ RowKit.Below w.heap.size w w' := by
 have hu23 := Try.underlying23
 have hu28 := Try.underlying28
 have hu120 := Try.underlying120
 have hu123 := Try.underlying123
 have H := A_ h
 have hb1 : RowKit.Below w.heap.size w ((w.alloc (.cells #[.bool false] 4)).alloc (.cells #[.pointer (some ⟨L.wb, 0, none⟩)] 23)) := below_alloc (below_alloc (RowKit.Below.refl _ w) _) _
 have GS := A_ (others143 b0 L s (w.heap.size + 1) _ (h.below hb1) hl9 hfn hfb (by have := blk_new (w.alloc (.cells #[.bool false] 4)) (.cells #[.pointer (some ⟨L.wb, 0, none⟩)] 23); simpa using this))
 have HBX := A_ (show Boxed ((w.alloc (.cells #[.bool false] 4)).alloc (.cells #[.pointer (some ⟨L.wb, 0, none⟩)] 23)) w.heap.size 4 (.bool false) from (Boxed.new w 4 (.bool false)).alloc _)
 have HB := A_ hb1
 clear hl9 hfn hfb hb1 h
 refine (callsIn_wide (n := 6)).1 ?_
 refine callsIn_of_wp_marks Try.func35 rfl trivial ?_ rfl
 simp only [Try.ntmps35, List.size_toArray, List.length_cons, List.length_nil, Nat.reduceAdd, Nat.reduceSub, Array.replicate_succ, Array.replicate_zero, List.push_toArray, List.append_toArray, List.nil_append, List.cons_append]
 have h100 : Fence.wide.fn 100 := trivial
 gi_wp2_with (gi_at_call 100; refine (callsIn_wide.2 (others_calls L.wb _)).mono ?_; rintro e w' ⟨rfl, rfl⟩)
 have hsz : ((w.alloc (.cells #[.bool false] 4)).alloc (.cells #[.pointer (some ⟨L.wb, 0, none⟩)] 23)).heap.size = w.heap.size + 2 := by simp
 obtain ⟨W0, hW0⟩ : ∃ W0, ((w.alloc (.cells #[.bool false] 4)).alloc (.cells #[.pointer (some ⟨L.wb, 0, none⟩)] 23)) = W0 := ⟨_, rfl⟩
 rw [hW0] at GS HBX HB hsz
 (try simp only [World.size_alloc] at hW0 ⊢)
 rw [hW0]
 clear hW0
 refine wpIn_rangeFunc_ownH rfl (by decide) (gf := 143) (lb := #[.pointer (some ⟨w.heap.size + 1, 0, none⟩)]) rfl trivial (enters_of Try.func143 (by kernel_rfl) rfl)
  (GS.out.stops 5) KeepU.trans (fun W l o o' hl h1 h2 h3 => KeepU.put (w := W0) (Nat.le_refl _) W l o o' hl h1 h2 h3) (RowKit.Below.refl _ _) (fun _ => rfl)
  (fun pre W => Boxed W w.heap.size 4 (.bool false) ∧ RowKit.Below w.heap.size w W ∧ pre = [])
  (fun c pre W => c = .ret ∧ Boxed W w.heap.size 4 (.bool true) ∧ RowKit.Below w.heap.size w W)
  (fun pre X Y row hs hg hr => ⟨keepB hs.1 hg hr, (ownFrom_below (n₀ := w.heap.size) (w₀ := w) (β := Unit) (Nat.le_refl _) (by omega)) () X Y row hs.2.1 hg hr, hs.2.2⟩)
  (fun c pre X Y row hs hg hr => ⟨hs.1, keepB hs.2.1 hg hr, (ownFrom_below (n₀ := w.heap.size) (w₀ := w) (β := Unit) (Nat.le_refl _) (by omega)) () X Y row hs.2.2 hg hr⟩)
  ⟨HBX.out, HB.out, rfl⟩
  (fun x a' W => a' = { tmps := #[.pointer (some ⟨L.wb, 0, none⟩), undef, .pointer (some ⟨w.heap.size, 0, none⟩), .pointer (some ⟨L.wb, 0, none⟩), .bool false, .pointer (some ⟨L.wb, 0, none⟩), .func (.func 143) #[] #[.pointer (some ⟨w.heap.size + 1, 0, none⟩)], .agg #[.int .i64 x.1, .int .i64 x.2.x.f0, .bool (!x.2.x.f1), .int .i64 x.2.x.f2.f0, .int .i64 x.2.x.f2.f1, .int .i64 x.2.x.f2.f2, .string x.2.x.f2.f3, .slice x.2.a4 x.2.x.f2.f4.length x.2.c4, .slice x.2.a5 x.2.x.f2.f5.length x.2.c5], undef, undef, undef, undef, undef, undef, undef, undef, undef, undef, undef], defers := [] })
  (fun x a' _ X Y row hs hg hr => hs)
  ?assign ?body ?done ?stop
 case assign =>
  rintro l pre x W K hI hK
  dsimp only [encC]
  gi_wp2
  exact hK _ W (KeepsFrom.refl _ _) (KeepU.refl _ _) hI (by simp)
 case body =>
  rintro l pre x a' W hl ⟨r, hr⟩ ⟨hbx, hbw, rfl⟩ rfl hlt
  have cB := hbx.cell
  have fB := hbx.frozen
  gi_wp2
  exact ⟨(KeepsOthers.setCell _ _ _).from _, rfl, hbx.set _, hbw.setCell (Nat.le_refl _) _⟩
 case done =>
  rintro D ys W hD hS ⟨hbx, hbw, rfl⟩ hK
  have HBX2 := A_ hbx
  have HBW := A_ hbw
  have HKD := A_ hK
  obtain ⟨-, k1, k2, -, k4, k5, -⟩ := (H.out.below hbw).box
  have hlb := (H.out.below hbw).lt.1
  have hwl := hbx.lt
  have hch : chgs s s.now.length = [] := hS.symm
  clear hK hbx hbw hS
  gi_wp2_with fail
  obtain ⟨c, hc⟩ : ∃ c, c = (!(s.rn == s.bn) || !(s.rg == s.bg)) := ⟨_, rfl⟩
  refine wpIn_wide.2 (wp_mono (Q := Exit.then (fun a' W' => a' = { tmps := #[.pointer (some ⟨L.wb, 0, none⟩), undef, .pointer (some ⟨w.heap.size, 0, none⟩), .pointer (some ⟨L.wb, 0, none⟩), .bool false, .pointer (some ⟨L.wb, 0, none⟩), .func (.func 143) #[] #[.pointer (some ⟨w.heap.size + 1, 0, none⟩)], undef, .pointer (some ⟨L.wb, 0, none⟩), .pointer (some ⟨L.wb, 0, none⟩), .pointer (some ⟨L.wb, 0, none⟩), .pointer (some ⟨L.wb, 1, none⟩), .agg #[.int .i64 s.rn, .int .i64 s.rg], .pointer (some ⟨L.wb, 0, none⟩), .pointer (some ⟨L.wb, 0, none⟩), .pointer (some ⟨L.wb, 3, none⟩), .pointer (some ⟨L.wb, 4, none⟩), .agg #[.int .i64 s.bn, .int .i64 s.bg], .bool c], defers := [{ target := .collected D, args := #[] }] } ∧ W' = (W.setCell ⟨w.heap.size, 0, none⟩ (.bool c)).drew) (fun _ _ _ => False)) ?_ ?_)
  · refine start_ (n := 12) (S := (fun w' => w'.cell? ⟨L.wb, 1, none⟩ = some (.int .i64 s.rn) ∧ w'.cell? ⟨L.wb, 2, none⟩ = some (.int .i64 s.rg) ∧ w'.cell? ⟨L.wb, 4, none⟩ = some (.int .i64 s.bn) ∧ w'.cell? ⟨L.wb, 5, none⟩ = some (.int .i64 s.bg))) (ds := [11]) #[false, false, false, false, false, false, false, false, false, false, false, false] (by kernel_rfl) rfl rfl (by refine ⟨?_, ?_, ?_, ?_⟩ <;> go_simp) (fun hHeld => ?_)
    have HH := A_ hHeld
    clear hHeld
    refine pu_ 0 8 ?_
    refine pu_ 1 9 ?_
    refine pu_ 2 10 ?_
    refine pu_ 3 11 ?_
    refine ta_ 4 12 HH.out ?_
    refine pu_ 5 13 ?_
    refine pu_ 6 14 ?_
    refine pu_ 7 15 ?_
    refine pu_ 8 16 ?_
    refine ta_ 9 17 HH.out ?_
    refine pu_ 10 18 ?_ (hy := Or.inl ⟨by rfl, by intro w'; go_simp; (try simp only [HNE]); with_reducible rfl⟩)
    refine chain_ [11] _ _ _ _ (⟨_, _, rfl, rfl, rfl⟩) (by kernel_rfl) (by decide) ?_
    have cB := HBX2.out.cell
    have fB := HBX2.out.frozen
    go_wp2
    rw [hc]
    exact ⟨rfl, rfl⟩
  · intro e a' W' h
    cases e with
    | normal =>
      obtain ⟨rfl, rfl⟩ := h
      gi_wp2
      have hbs : Boxed (W.setCell ⟨w.heap.size, 0, none⟩ (.bool c)).drew w.heap.size 4 (.bool c) := HBX2.out.set (.bool c)
      have hKd : (W.setCell ⟨w.heap.size, 0, none⟩ (.bool c)).drew.heap[D]? = some (.deferred (some [])) := (Below.heap_setCell W ⟨w.heap.size, 0, none⟩ (.bool c) D (by show D ≠ w.heap.size; omega)).trans HKD.out
      have hbp : Boxed ((W.setCell ⟨w.heap.size, 0, none⟩ (.bool c)).drew.putObj D (.deferred none)) w.heap.size 4 (.bool c) := (World.putObj_heap_other (by omega)).trans hbs
      have cP := hbp.cell
      refine ⟨by simp, .inl ⟨_, _, rfl, run_takeDeferred hKd, ?_⟩⟩
      refine ⟨.bool c, ?_, ?_, ?_⟩
      · simp [results, Try.results35, go_sem, cP]
      · rw [hc]
        unfold dirtyB
        rw [hch]
        cases s.rn == s.bn <;> cases s.rg == s.bg <;> rfl
      · exact ((HBW.out.setCell (Nat.le_refl _) _).drew).trans (belowK_b (w := w) (Nat.le_refl _) _ D _ _ (by omega) hKd rfl rfl)
    | ret => exact h.elim
    | exit id => exact h.elim
    | goto t => exact h.elim
    | panic ch => exact h.elim
    | outgrown => exact h.elim
 case stop =>
  rintro D c pre W hD hS ⟨rfl, hbx, hbw⟩ hK
  gi_wp2
  have hbp : Boxed (W.putObj D (.deferred none)) w.heap.size 4 (.bool true) := (World.putObj_heap_other (by omega)).trans hbx
  have cP := hbp.cell
  refine ⟨by simp, .inl ⟨_, _, rfl, run_takeDeferred hK, ?_⟩⟩
  refine ⟨.bool true, ?_, ?_, ?_⟩
  · simp [results, Try.results35, go_sem, cP]
  · have hne : (chgs s s.now.length).isEmpty = false := by simpa using hS
    unfold dirtyB
    rw [hne]
    rfl
  · exact hbw.trans (belowK_b (w := w) (Nat.le_refl _) W D _ _ (by omega) hK rfl rfl)
theorem alloc_nil (w : World) : Calls Try.prog 20 #[.pointer none] w fun e w' => e = .returned (.tuple #[.agg #[.int .i64 0, .int .i64 0], .int .i64 1]) ∧ RowKit.Below w.heap.size w w' := by
 have hu23 := Try.underlying23
 have hu28 := Try.underlying28
 have HB := below_alloc (RowKit.Below.refl w.heap.size w) (.cells #[.int .i64 0, .int .i64 0] 28)
 obtain ⟨z0, z1⟩ := box2 (blk_new w (.cells #[.int .i64 0, .int .i64 0] 28))
 go_enter Try.func20, Try.ntmps20
 go_wp2
 refine bodyPost_ret (v := .tuple #[.agg #[.int .i64 0, .int .i64 0], .int .i64 1]) (by simp [results, Try.results20, go_sem, z0, z1]) rfl ⟨rfl, HB⟩
theorem settle_nil (w : World) : Calls Try.prog 25 #[.pointer none] w fun e w' => e = .returned (.int .i64 1) ∧ w' = w := by
 have hu23 := Try.underlying23
 go_enter Try.func25, Try.ntmps25
 go_wp2
 go_ret
 exact ⟨rfl, rfl⟩
theorem reset_nil (w : World) : Calls Try.prog 38 #[.pointer none] w fun e w' => e = .returned (.int .i64 1) ∧ w' = w := by
 have hu23 := Try.underlying23
 go_enter Try.func38, Try.ntmps38
 go_wp2
 go_ret
 exact ⟨rfl, rfl⟩
theorem root_nil (w : World) : Calls Try.prog 31 #[.pointer none] w fun e w' => e = .returned (.agg #[.int .i64 0, .int .i64 0]) ∧ RowKit.Below w.heap.size w w' := by
 have hu23 := Try.underlying23
 have hu28 := Try.underlying28
 have HB := below_alloc (RowKit.Below.refl w.heap.size w) (.cells #[.int .i64 0, .int .i64 0] 28)
 obtain ⟨z0, z1⟩ := box2 (blk_new w (.cells #[.int .i64 0, .int .i64 0] 28))
 go_enter Try.func31, Try.ntmps31
 go_wp2
 refine bodyPost_ret (v := .agg #[.int .i64 0, .int .i64 0]) (by simp [results, Try.results31, go_sem, z0, z1]) rfl ⟨rfl, HB⟩
theorem slots_nil (w : World) : Calls Try.prog 30 #[.pointer none] w fun e w' => e = .returned (.slice none 0 0) ∧ w' = w := by
 have hu23 := Try.underlying23
 go_enter Try.func30, Try.ntmps30
 go_wp2
 go_ret
 exact ⟨rfl, rfl⟩
theorem changes_nil (w : World) : Calls Try.prog 33 #[.pointer none] w fun e w' => e = .returned (.slice none 0 0) ∧ w' = w := by
 have hu23 := Try.underlying23
 go_enter Try.func33, Try.ntmps33
 go_wp2
 go_ret
 exact ⟨rfl, rfl⟩
theorem dirty_nil (w : World) : Calls Try.prog 35 #[.pointer none] w fun e w' => e = .returned (.bool false) ∧ RowKit.Below w.heap.size w w' := by
 have hu23 := Try.underlying23
 have HB := below_alloc (RowKit.Below.refl w.heap.size w) (.cells #[.bool false] 4)
 have cP := (Boxed.new w 4 (.bool false)).cell
 go_enter Try.func35, Try.ntmps35
 go_wp2
 refine bodyPost_ret (v := .bool false) (by simp [results, Try.results35, go_sem, cP]) rfl ⟨rfl, HB⟩
theorem slot_nil (n g : Int) (w : World) : Calls Try.prog 88 #[.pointer none, .agg #[.int .i64 n, .int .i64 g]] w fun e w' => e = .returned (.tuple #[.pointer none, .int .i64 1]) ∧ RowKit.Below w.heap.size w w' := by
 have hu23 := Try.underlying23
 have hu28 := Try.underlying28
 have HB := below_alloc (RowKit.Below.refl w.heap.size w) (.cells #[.int .i64 n, .int .i64 g] 28)
 go_enter Try.func88, Try.ntmps88
 go_wp2
 refine bodyPost_ret (v := .tuple #[.pointer none, .int .i64 1]) (by simp [results, Try.results88, go_sem]) rfl ⟨rfl, HB⟩
theorem put_nil (n g : Int) (v : S35) (A4 : Option Addr) (c4 : Nat) (A5 : Option Addr) (c5 : Nat) (w : World) : Calls Try.prog 24 #[.pointer none, .agg #[.int .i64 n, .int .i64 g], .agg #[.int .i64 v.f0, .int .i64 v.f1, .int .i64 v.f2, .string v.f3, .slice A4 v.f4.length c4, .slice A5 v.f5.length c5]] w fun e w' => e = .returned (.int .i64 1) ∧ RowKit.Below w.heap.size w w' := by
 have hu23 := Try.underlying23
 have hu28 := Try.underlying28
 have hu35 := Try.underlying35
 go_enter Try.func24, Try.ntmps24
 go_wp2_with fail
 refine Calls.mono (slot_nil n g _) ?_
 rintro e w1 ⟨rfl, hb⟩
 have HB := A_ (below_step (below_alloc (below_alloc (RowKit.Below.refl w.heap.size w) _) _) hb)
 clear hb
 go_wp2
 go_ret
 exact ⟨rfl, HB.out⟩
end Go.Proofs.Ytogpnkkoablmiaa.V
end
