/- Parts of the proof: what the theorem reaches, put together by a program of this session. -/
import Derived.ArgAppend
import Derived.Below
import Derived.BigGuardPart
import Derived.BigQuiet
import Derived.Deep.AppendLies
import Derived.Deep.CutBlock
import Derived.Deep.DeepCutAuto
import Derived.Deep.Draws
import Derived.Deep.LoopGhost
import Derived.Deep.OwnRows
import Derived.Deep.QuietTactic
import Derived.Deep.RegionHeld3
import Derived.KernelRfl
import Derived.Laws.BitsLemmas
import Derived.Laws.BytesArg
import Derived.Laws.IdiomCopy
import Derived.Laws.MakeOwn
import Derived.Laws.OwnMore
import Derived.Laws.Rows
import Derived.Laws.Slices
import Derived.Laws.StructEq
import Derived.Lib.AppendStr
import Derived.Lib.Bytealg
import Derived.Lib.ConvBytes
import Derived.Maps.AppendAt
import Derived.Maps.OwnOps
import Derived.Maps.Views
import Derived.OrdersHeld
import Derived.OwnWalk
import Derived.RowKit
import Derived.RowKit3
import Derived.Tactics
import Derived.Test.YtogpnkkoablmiaaProg
import Derived.WalkKit
import Derived.WideLaws
import Derived.Test.YtogpnkkoablmiaaBB1
import Derived.Test.YtogpnkkoablmiaaBB2
import Derived.Test.YtogpnkkoablmiaaBB3
import Derived.Test.YtogpnkkoablmiaaBB4
import Derived.Test.YtogpnkkoablmiaaBB5
import Derived.Test.YtogpnkkoablmiaaBB6
import Derived.Test.YtogpnkkoablmiaaBB7
import Derived.Test.YtogpnkkoablmiaaBB11
import Derived.Test.YtogpnkkoablmiaaBB12
section
namespace Go.Proofs.Ytogpnkkoablmiaa.V
open Go.RowKit Go.Proofs.Ytogpnkkoablmiaa.Q Go.Proofs.YtogpnkkoablmiaaW.PrintWords Go.Proofs.YtogpnkkoablmiaaW.PrintLast Go.Proofs.YtogpnkkoablmiaaW.PrintMore
set_option linter.unusedVariables false
set_option linter.unusedSimpArgs false
open Go.Maps Go.WideMaps
def memK (s : ByteArray) (ks : List ByteArray) : Bool := ks.any (fun t => decide (t.data = s.data))
theorem memK_iff (s : ByteArray) (ks : List ByteArray) : memK s ks = true ↔ s ∈ ks := by
  unfold memK
  rw [List.any_eq_true]
  constructor
  · rintro ⟨t, ht, h⟩
    have : t = s := ByteArray.ext (of_decide_eq_true h)
    rwa [← this]
  · intro h
    exact ⟨s, h, decide_eq_true rfl⟩
def Seen (w : World) (b : Nat) (ks : List ByteArray) : Prop :=
  ∃ D : DataW Unit, w.ownsMap Try.prog 9 (plainElem Try.prog 3) b ks.length D ∧ IsMap D ∧ ∀ s : ByteArray, D.atKey (.string s.data.toList) (.lit (.int .i64 0)) = .lit (.int .i64 (if memK s ks = true then 1 else 0))
theorem Seen.start (w : World) : Seen (w.alloc (.map #[] 0)) w.heap.size [] := ⟨.map [], World.ownsMap_made _ _ _ _, isMap_empty, fun s => rfl⟩
theorem Seen.lt {w : World} {b : Nat} {ks : List ByteArray} (h : Seen w b ks) : b < w.heap.size := by obtain ⟨D, h, _⟩ := h; exact h.lt
theorem Seen.below {w w1 : World} {b : Nat} {ks : List ByteArray} (h : Seen w b ks) (hb : Below w.heap.size w w1) : Seen w1 b ks := by
  have hl := h.lt
  obtain ⟨D, ⟨es, clock, hh, F, hs, hD⟩, h2⟩ := h
  exact ⟨D, ⟨es, clock, (hb.block b hl).trans hh, F, hs, hD⟩, h2⟩
theorem Seen.put {w1 : World} {b : Nat} {ks : List ByteArray} {D : DataW Unit} (s : ByteArray) (hD : IsMap D) (h3 : ∀ s : ByteArray, D.atKey (.string s.data.toList) (.lit (.int .i64 0)) = .lit (.int .i64 (if memK s ks = true then 1 else 0)))
    (h : w1.ownsMap Try.prog 9 (plainElem Try.prog 3) b (ks.length + 1) (D.put (.string s.data.toList) (.lit (.int .i64 1)))) : Seen w1 b (ks ++ [s]) := by
  refine ⟨_, by simpa using h, hD.put _ _, fun t => ?_⟩
  by_cases e : t = s
  · subst e
    rw [atKey_put_same hD (by trivial)]
    rw [if_pos ((memK_iff _ _).2 (by simp))]
  · rw [atKey_put_other (by intro h; apply e; injection h with h; exact ByteArray.ext (Array.toList_inj.1 h)), h3]
    have : memK t (ks ++ [s]) = memK t ks := by
      rw [Bool.eq_iff_iff, memK_iff, memK_iff]
      simp [e]
    rw [this]
theorem box7 {w : World} {b T : Nat} {c0 c1 c2 c3 c4 c5 c6 : Value} (h : w.heap[b]? = some (.cells #[c0, c1, c2, c3, c4, c5, c6] T (0, 0))) : w.cell? ⟨b, 0, none⟩ = some c0 ∧ w.cell? ⟨b, 1, none⟩ = some c1 ∧ w.cell? ⟨b, 2, none⟩ = some c2 ∧ w.cell? ⟨b, 3, none⟩ = some c3 ∧ w.cell? ⟨b, 4, none⟩ = some c4 ∧ w.cell? ⟨b, 5, none⟩ = some c5 ∧ w.cell? ⟨b, 6, none⟩ = some c6 := by
  refine ⟨?_, ?_, ?_, ?_, ?_, ?_, ?_⟩ <;> (rw [cell_of_row w b _ _ _ _ h]; rfl)
end Go.Proofs.Ytogpnkkoablmiaa.V
end
section
namespace Go.Proofs.Ytogpnkkoablmiaa.V
open Go.RowKit Go.Proofs.Ytogpnkkoablmiaa.Q Go.Proofs.YtogpnkkoablmiaaW.PrintWords Go.Proofs.YtogpnkkoablmiaaW.PrintLast Go.Proofs.YtogpnkkoablmiaaW.PrintMore
set_option linter.unusedVariables false
set_option linter.unusedSimpArgs false
open Go.Maps Go.WideMaps
mutual
/-- All texts of a value are texts that may be. -/
def szV : S35 → Prop
  | ⟨_, _, _, s, l, d⟩ => s.size ≤ 9223372036854775807 ∧ szL l ∧ szD d
def szL : List S35 → Prop
  | [] => True
  | x :: r => szV x ∧ szL r
def szD : List (P89 S35) → Prop
  | [] => True
  | p :: r => szP p ∧ szD r
def szP : P89 S35 → Prop
  | ⟨k, v⟩ => k.size ≤ 9223372036854775807 ∧ szV v
end
end Go.Proofs.Ytogpnkkoablmiaa.V
end
section
namespace Go.Proofs.Ytogpnkkoablmiaa.V
open Go.RowKit Go.Proofs.Ytogpnkkoablmiaa.Q Go.Proofs.YtogpnkkoablmiaaW.PrintWords Go.Proofs.YtogpnkkoablmiaaW.PrintLast Go.Proofs.YtogpnkkoablmiaaW.PrintMore
set_option linter.unusedVariables false
set_option linter.unusedSimpArgs false
theorem box7p {w : World} {b T : Nat} {c0 c1 c2 c3 c4 c5 c6 : Value} (h : w.heap[b]? = some (.cells #[c0, c1, c2, c3, c4, c5, c6] T (0, 0))) : w.cell? ⟨b, 0, none⟩ = some c0 ∧ w.cell? ⟨b, 1, none⟩ = some c1 ∧ w.cell? ⟨b, 2, none⟩ = some c2 ∧ w.cell? ⟨b, 3, none⟩ = some c3 ∧ w.cell? ⟨b, 4, none⟩ = some c4 ∧ w.cell? ⟨b, 5, none⟩ = some c5 ∧ w.cell? ⟨b, 6, none⟩ = some c6 := by
  refine ⟨?_, ?_, ?_, ?_, ?_, ?_, ?_⟩ <;> (rw [cell_of_row w b _ _ _ _ h]; rfl)
def ltK (a b : ByteArray) : Bool := Op.bytesLess a.toList b.toList
def insB : List S89 → S89 → List S89
  | [], p => [p]
  | x :: r, p => if ltK p.f0 x.f0 = true then p :: x :: r else x :: insB r p
def anyLt (xs : List S89) (p : S89) : Bool := xs.any (fun x => ltK p.f0 x.f0)
def anyEq (xs : List S89) (p : S89) : Bool := xs.any (fun x => decide (x.f0.data = p.f0.data))
def rput (d : List S89) (p : S89) : List S89 := if anyEq d p = true then d else insB d p
theorem anyLt_cons (y : S89) (r : List S89) (p : S89) : anyLt (y :: r) p = (ltK p.f0 y.f0 || anyLt r p) := by simp [anyLt]
theorem insB_snoc (p x : S89) : ∀ xs : List S89, insB (xs ++ [x]) p = if anyLt xs p = true then insB xs p ++ [x] else if ltK p.f0 x.f0 = true then xs ++ [p, x] else xs ++ [x, p]
  | [] => by simp [insB, anyLt]
  | y :: r => by
    have ih := insB_snoc p x r
    rw [List.cons_append, insB, anyLt_cons, insB]
    cases h : ltK p.f0 y.f0 with
    | true => simp
    | false =>
      simp only [Bool.false_or, Bool.false_eq_true, if_false]
      rw [ih]
      cases h1 : anyLt r p <;> cases h2 : ltK p.f0 x.f0 <;> simp
theorem insB_end (p : S89) : ∀ xs : List S89, anyLt xs p = false → insB xs p = xs ++ [p]
  | [], _ => rfl
  | y :: r, h => by
    simp only [anyLt, List.any_cons, Bool.or_eq_false_iff] at h
    rw [insB, if_neg (by rw [h.1]; decide), insB_end p r h.2]
    rfl
theorem anyLt_snoc (xs : List S89) (x p : S89) : anyLt (xs ++ [x]) p = (anyLt xs p || ltK p.f0 x.f0) := by simp [anyLt]
def outAt (d : List S89) (p : S89) (k : Nat) : List S89 := if anyLt (d.take k) p = true then insB (d.take k) p else d.take k
theorem outAt_len (d : List S89) (p : S89) (k : Nat) : (outAt d p k).length ≤ d.length + 1 := by
  unfold outAt
  have h1 : ∀ xs : List S89, (insB xs p).length = xs.length + 1 := by
    intro xs
    induction xs with
    | nil => rfl
    | cons y r ih => simp only [insB]; split <;> simp [ih]
  split
  · rw [h1]; simp; omega
  · simp; omega
theorem insB_len (p : S89) : ∀ xs : List S89, (insB xs p).length = xs.length + 1
  | [] => rfl
  | y :: r => by simp only [insB]; split <;> simp [insB_len p r]
theorem take_snocD (d : List S89) (k : Nat) (h : k < d.length) : d.take (k + 1) = d.take k ++ [d.getD k z89] := by
  rw [List.take_succ_eq_append_getElem h, List.getD_eq_getElem?_getD, List.getElem?_eq_getElem h]; rfl
theorem outAt_succ (d : List S89) (p : S89) (k : Nat) (h : k < d.length) : outAt d p (k + 1) = if (!(anyLt (d.take k) p) && ltK p.f0 (d.getD k z89).f0) = true then (outAt d p k ++ [p]) ++ [d.getD k z89] else outAt d p k ++ [d.getD k z89] := by
  unfold outAt
  rw [take_snocD d k h, anyLt_snoc, insB_snoc]
  cases h1 : anyLt (d.take k) p <;> cases h2 : ltK p.f0 (d.getD k z89).f0 <;> simp
theorem M_old {α : Type} {d : Kd α} {W wr : World} {b0 : Nat} {x : α} {cs : List Value} {vo : Value} (h : d.M W b0 (fun _ => True) x cs) (hb : Below W.heap.size W wr) (hv : ∀ k, vo.ownBlock = some k → W.heap.size ≤ k) : d.M wr b0 (fun k => some k ≠ vo.ownBlock) x cs :=
  d.M_mono (fun k hk e => by have := hv k e.symm; omega) (d.M_move (fun k hk => hb.block k hk.2.2.1) (d.M_bound h))
theorem elem89 {W : World} {base g n cap : Nat} {ok : Nat → Prop} {xs : List S89} (HO : k89.R 89 W base ok (.slice (some ⟨g, 0, none⟩) n cap) xs) (i : Nat) (hi : i < n) : ∃ v4 v5,
    k89.M W base (fun k => ok k ∧ k ≠ g) (xs.getD i z89) [.string (xs.getD i z89).f0, .int .i64 (xs.getD i z89).f1.f0, .int .i64 (xs.getD i z89).f1.f1, .int .i64 (xs.getD i z89).f1.f2, .string (xs.getD i z89).f1.f3, v4, v5] ∧
    W.cell? ⟨g, i * 7, none⟩ = some (.string (xs.getD i z89).f0) ∧ W.cell? ⟨g, i * 7 + 1, none⟩ = some (.int .i64 (xs.getD i z89).f1.f0) ∧ W.cell? ⟨g, i * 7 + 2, none⟩ = some (.int .i64 (xs.getD i z89).f1.f1) ∧ W.cell? ⟨g, i * 7 + 3, none⟩ = some (.int .i64 (xs.getD i z89).f1.f2) ∧
    W.cell? ⟨g, i * 7 + 4, none⟩ = some (.string (xs.getD i z89).f1.f3) ∧ W.cell? ⟨g, i * 7 + 5, none⟩ = some v4 ∧ W.cell? ⟨g, i * 7 + 6, none⟩ = some v5 := by
  obtain ⟨c, hcl, hM, hc, hf⟩ := Kd.R_elem HO z89 (i : Int) (by omega) (by omega)
  simp only [Int.toNat_natCast] at *
  have hM' := hM
  obtain ⟨v4, v5, rfl, _⟩ := k89_openM hM
  have hc' : ∀ j u, _ → W.cell? ⟨g, i * 7 + j, none⟩ = some u := hc
  exact ⟨v4, v5, hM', hc' 0 _ rfl, hc' 1 _ rfl, hc' 2 _ rfl, hc' 3 _ rfl, hc' 4 _ rfl, hc' 5 _ rfl, hc' 6 _ rfl⟩
theorem app_state {w wq w1 : World} {vo v1 : Value} {o : Obj} (HBq : Below w.heap.size w wq) (HVO : ∀ j, vo.ownBlock = some j → w.heap.size < j) (hg : wq.grownBy w1 vo.ownBlock)
    (hat : v1.ownBlock = vo.ownBlock ∨ ∃ b, v1.ownBlock = some b ∧ wq.heap.size ≤ b) (BK : wq.heap[w.heap.size]? = some o) :
    Below w.heap.size w w1 ∧ (∀ j, v1.ownBlock = some j → w.heap.size < j) ∧ w1.heap[w.heap.size]? = some o := by
  have hl := blk_lt BK
  refine ⟨HBq.grown hg HBq.size (fun k hk => Nat.le_of_lt (HVO k hk)), fun j hj => ?_, (hg.block _ hl (fun e => Nat.lt_irrefl _ (HVO _ e.symm))).trans BK⟩
  rcases hat with h | ⟨b, h, hle⟩
  · exact HVO j (by rw [← h]; exact hj)
  · rw [h] at hj
    injection hj with hj
    omega
theorem cells7 {w wq : World} {g o : Nat} {c0 c1 c2 c3 c4 c5 c6 : Value} (h : w.cell? ⟨g, o, none⟩ = some c0 ∧ w.cell? ⟨g, o + 1, none⟩ = some c1 ∧ w.cell? ⟨g, o + 2, none⟩ = some c2 ∧ w.cell? ⟨g, o + 3, none⟩ = some c3 ∧ w.cell? ⟨g, o + 4, none⟩ = some c4 ∧ w.cell? ⟨g, o + 5, none⟩ = some c5 ∧ w.cell? ⟨g, o + 6, none⟩ = some c6) (hb : Below w.heap.size w wq) :
    wq.cell? ⟨g, o, none⟩ = some c0 ∧ wq.cell? ⟨g, o + 1, none⟩ = some c1 ∧ wq.cell? ⟨g, o + 2, none⟩ = some c2 ∧ wq.cell? ⟨g, o + 3, none⟩ = some c3 ∧ wq.cell? ⟨g, o + 4, none⟩ = some c4 ∧ wq.cell? ⟨g, o + 5, none⟩ = some c5 ∧ wq.cell? ⟨g, o + 6, none⟩ = some c6 := by
  obtain ⟨h0, h1, h2, h3, h4, h5, h6⟩ := h
  exact ⟨past_cell h0 ⟨wq, hb⟩, past_cell h1 ⟨wq, hb⟩, past_cell h2 ⟨wq, hb⟩, past_cell h3 ⟨wq, hb⟩, past_cell h4 ⟨wq, hb⟩, past_cell h5 ⟨wq, hb⟩, past_cell h6 ⟨wq, hb⟩⟩
set_option maxHeartbeats 8000000 in
set_option maxRecDepth 100000 in
theorem put_calls (b0 : Nat) (d : List S89) (A : Option Addr) (c : Nat) (p : S89) (v4 v5 : Value) (w : World) (hbw : b0 ≤ w.heap.size) (hd : k89.R 89 w b0 (fun _ => True) (.slice A d.length c) d) (hlen : d.length ≤ 100000) (h4 : k35.R 35 w b0 (fun _ => True) v4 p.f1.f4) (h5 : k89.R 89 w b0 (fun _ => True) v5 p.f1.f5) :
    Calls Try.prog 159 #[.slice A d.length c, .agg #[.string p.f0, .int .i64 p.f1.f0, .int .i64 p.f1.f1, .int .i64 p.f1.f2, .string p.f1.f3, v4, v5]] w fun e w' => ∃ v, e = .returned v ∧ k89.R 89 w' b0 (fun _ => True) v (rput d p) ∧ Below w.heap.size w w' := by
  have hu89 := Try.underlying89
  have hu35 := Try.underlying35
  have hu33 := Try.underlying33
  have HP := Aside0.mk (k89_mkM w b0 (fun _ => True) p h4 h5)
  have HD := Aside0.mk hd
  have HC := Aside0.mk (Kd.R_reads' hd).2.2
  clear h4 h5 hd
  go_enter Try.func159, Try.ntmps159
  have hbx := Aside0.mk (below_alloc (Below.refl w.heap.size w) (.cells #[.string p.f0, .int .i64 p.f1.f0, .int .i64 p.f1.f1, .int .i64 p.f1.f2, .string p.f1.f3, v4, v5] 89))
  have bk := Aside0.mk (blk_new w (.cells #[.string p.f0, .int .i64 p.f1.f0, .int .i64 p.f1.f1, .int .i64 p.f1.f2, .string p.f1.f3, v4, v5] 89))
  go_wp2_with (first | ((with_reducible refine gate_dst (N := 8) rfl ?_); refine Kd.R_lit k89 b0 89 ?hg (N := 8) ?hd (w0 := w) (xs := ([] : List S89)) (inner := []) (ok := fun _ => True) (okp := fun _ => True) ?hr (Reps.none _ _) (fun _ hk => hk) trivial (hbx.out.mono hbw) (Nat.le_trans hbw hbx.out.size) (by simp) ?_; (case hd => rfl); (case hg => rfl); (case hr => first | (go_simp; done) | (go_simp; rfl))))
  intro vo w2 HO HB2 hg2 b hob hle
  have hb2 := Aside0.mk (hbx.out.trans ((Below.refl _ _).grown hg2 (Nat.le_refl _) (fun k hk => by cases hk) |>.mono hbx.out.size))
  have bk2 := Aside0.mk ((hg2.block _ (blk_lt bk.out) (by simp)).trans bk.out)
  have hvo : ∀ k, vo.ownBlock = some k → w.heap.size < k := by
    intro k hk
    rw [hob] at hk
    injection hk with hk
    have : w.heap.size < (w.alloc (.cells #[.string p.f0, .int .i64 p.f1.f0, .int .i64 p.f1.f1, .int .i64 p.f1.f2, .string p.f1.f3, v4, v5] 89)).heap.size := by simp
    omega
  have HVO := Aside0.mk hvo
  have HO2 := Aside0.mk HO
  clear hle hob hg2 HB2 hvo HO hbx bk
  go_wp2
  have hmd := Kd.C_max HC.out
  go_loopw [5, 6, 7] (fun o dn i wr => ∃ k : Nat, k ≤ d.length ∧ i = .int .i64 k ∧ dn = .bool (anyLt (d.take k) p) ∧ Aside0 (k89.R 89 wr b0 (fun _ => True) o (outAt d p k)) ∧ Aside0 (∀ j, o.ownBlock = some j → w.heap.size < j) ∧ Aside0 (Below w.heap.size w wr) ∧
    Aside0 (wr.heap[w.heap.size]? = some (.cells #[.string p.f0, .int .i64 p.f1.f0, .int .i64 p.f1.f1, .int .i64 p.f1.f2, .string p.f1.f3, v4, v5] 89 (0, 0))) ∧ Aside0 (anyEq (d.take k) p = false)) (fun _ _ i _ => d.length - (intOf i).toNat)
  case atStart => exact ⟨0, Nat.zero_le _, rfl, rfl, HO2, HVO, hb2, bk2, ⟨rfl⟩⟩
  case round =>
    clear HO2 HVO hb2 bk2
    obtain ⟨k, hk, rfl, rfl, HO, HVO, HB, BK, HE⟩ := hrel
    obtain ⟨x0, x1, x2, x3, x4, x5, x6⟩ := box7p BK.out
    by_cases hlt : k < d.length
    · obtain ⟨g, cap, hv, _⟩ := Kd.R_form HD.out (by omega)
      injection hv with hA _ hcap
      subst hA
      subst hcap
      obtain ⟨e4, e5, hM, y0, y1, y2, y3, y4, y5, y6⟩ := elem89 HD.out k hlt
      have HS := Aside0.mk (outAt_succ d p k hlt)
      have HT := Aside0.mk (take_snocD d k hlt)
      have HM := Aside0.mk hM
      have HLO := Aside0.mk (outAt_len d p k)
      clear hM
      have HMEM := Aside0.mk (getD_mem d k hlt z89)
      generalize d.getD k z89 = x at *
      generalize outAt d p k = ok at *
      generalize hdn : anyLt (d.take k) p = dn at *
      have HDN := Aside0.mk hdn
      clear hdn
      have YW := Aside0.mk (And.intro y0 (And.intro y1 (And.intro y2 (And.intro y3 (And.intro y4 (And.intro y5 y6))))))
      replace y0 := past_cell (cells7 YW.out HB.out).1
      clear y1 y2 y3 y4 y5 y6
      have z0 := past_cell x0
      by_cases hke : x.f0 = p.f0
      · go_wp2_with fail
        refine wp_region_past (by kernel_rfl) (by kernel_rfl) ?_
        repeat (quiet_step (fail))
        refine wpQuiet_nil ?_
        intro _ hw'
        obtain ⟨q, hw''⟩ := hw'
        subst hw''
        have HBq := Aside0.mk (below_step HB.out q.h)
        have hany := Aside0.mk (show anyEq d p = true by
          unfold anyEq
          rw [List.any_eq_true]
          exact ⟨x, HMEM.out, by simp [hke]⟩)
        clear hke y0 z0 x0 x1 x2 x3 x4 x5 x6
        go_wp2
        go_ret
        exact ⟨_, rfl, by rw [show rput d p = d from if_pos hany.out]; exact Kd.R_below HD.out HBq.out, HBq.out⟩
      · have hke' : ¬ x.f0.toList = p.f0.toList := fun h => hke (ba_inj h)
        have hke2 : (x.f0.toList == p.f0.toList) = false := by rw [Bool.eq_false_iff]; intro h; exact hke' (eq_of_beq h)
        have HNE := Aside0.mk hke
        clear hke
        have hE1 : Aside0 (anyEq (d.take (k + 1)) p = false) := ⟨by
          rw [HT.out]
          unfold anyEq
          rw [List.any_append, show (d.take k).any (fun x => decide (x.f0.data = p.f0.data)) = false from HE.out]
          simp only [List.any_cons, List.any_nil, Bool.or_false, Bool.false_or, decide_eq_false_iff_not]
          exact fun h => HNE.out (ByteArray.ext h)⟩
        go_wp2_with fail
        refine wp_region_past (by kernel_rfl) (by kernel_rfl) ?_
        repeat (quiet_step (fail))
        refine wpQuiet_nil ?_
        intro _ hw'
        obtain ⟨q, hw''⟩ := hw'
        subst hw''
        have HBq := Aside0.mk (below_step HB.out q.h)
        have HOq := Aside0.mk (Kd.R_below HO.out q.h)
        have BKq := Aside0.mk (blk_below BK.out q.h)
        obtain ⟨wq, hwq⟩ : ∃ w', w' = q.w' := ⟨_, rfl⟩
        rw [← hwq] at HBq HOq BKq ⊢
        clear hwq y0 z0 x0 x1 x2 x3 x4 x5 x6 HB HO BK
        have HP' := Aside0.mk (M_old HP.out HBq.out (fun j hj => Nat.le_of_lt (HVO.out j hj)))
        have HM' := Aside0.mk (M_old (k89.M_mono (fun _ _ => trivial) HM.out) HBq.out (fun j hj => Nat.le_of_lt (HVO.out j hj)))
        obtain ⟨x0, x1, x2, x3, x4, x5, x6⟩ := box7p BKq.out
        have HBr := Aside0.mk (below_drew HBq.out)
        have HOr := Aside0.mk (Kd.R_drew HOq.out)
        have BKr := Aside0.mk (blk_drew BKq.out)
        have HMr := Aside0.mk (M_old (k89.M_mono (fun _ _ => trivial) HM.out) HBr.out (fun j hj => Nat.le_of_lt (HVO.out j hj)))
        obtain ⟨y0, y1, y2, y3, y4, y5, y6⟩ := cells7 YW.out HBq.out
        cases dn with
        | true =>
          have hs := Aside0.mk (show outAt d p (k + 1) = ok ++ [x] by rw [HS.out]; simp)
          have hd1 := Aside0.mk (show anyLt (d.take (k + 1)) p = true by rw [HT.out, anyLt_snoc, HDN.out]; rfl)
          go_wp2_with fail
          go_region
          obtain ⟨wr2, hwr⟩ : ∃ w', w' = wq.drew := ⟨_, rfl⟩
          rw [← hwr] at HBr HOr BKr HMr ⊢
          clear hwr x0 x1 x2 x3 x4 x5 x6 y0 y1 y2 y3 y4 y5 y6 HOq BKq HBq
          obtain ⟨y0, y1, y2, y3, y4, y5, y6⟩ := cells7 YW.out HBr.out
          go_wp2_with (first | ((with_reducible refine gate_dst (N := 46) rfl ?_); refine Kd.R_append k89 (w0 := w) b0 rfl (.tmp 40) (.tmp 45) 33 89 (.agg #[(.string ⟨#[]⟩), (.int .i64 0), (.int .i64 0), (.int .i64 0), (.string ⟨#[]⟩), (.slice none 0 0), (.slice none 0 0)]) 104 rfl Try.underlying33 info89 rfl (by decide) (by omega) u5 ok x [.string x.f0, .int .i64 x.f1.f0, .int .i64 x.f1.f1, .int .i64 x.f1.f2, .string x.f1.f3, e4, e5] (fun _ => True) (fun k_ => some k_ ≠ (u5 : Value).ownBlock) rfl rfl ?aP (fun _ hk => ⟨trivial, hk⟩) ?aF ?aO ?aB ?aS ?aL ?_; (case aP => exact HMr.out); (case aF => exact (fun _ _ => trivial)); (case aO => exact HOr.out); (case aB => exact HBr.out.mono hbw); (case aS => exact Nat.le_trans hbw HBr.out.size); (case aL => have := HLO.out; omega)))
          intro v1 w1 HO1 HB1 hg1 hat1
          have hst := app_state HBr.out HVO.out hg1 hat1 BKr.out
          have A1 := Aside0.mk hst.1
          have A2 := Aside0.mk hst.2.1
          have A3 := Aside0.mk hst.2.2
          have A4 := Aside0.mk HO1
          clear hst HO1 HB1 hg1 hat1 y0 y1 y2 y3 y4 y5 y6
          go_wp2
          exact ⟨⟨k + 1, by omega, by go_num, by rw [hd1.out], ⟨by rw [hs.out]; exact A4.out⟩, A2, A1, A3, hE1⟩, by simp [intOf]; omega⟩
        | false =>
          cases hl : ltK p.f0 x.f0 with
          | false =>
            have hs := Aside0.mk (show outAt d p (k + 1) = ok ++ [x] by rw [HS.out, hl]; simp)
            have hd1 := Aside0.mk (show anyLt (d.take (k + 1)) p = false by rw [HT.out, anyLt_snoc, HDN.out, hl]; rfl)
            have hl2 : Op.bytesLess p.f0.toList x.f0.toList = false := hl
            clear hl
            go_wp2_with fail
            go_region
            obtain ⟨wr2, hwr⟩ : ∃ w', w' = wq.drew := ⟨_, rfl⟩
            rw [← hwr] at HBr HOr BKr HMr ⊢
            clear hwr x0 x1 x2 x3 x4 x5 x6 y0 y1 y2 y3 y4 y5 y6 HOq BKq HBq
            obtain ⟨y0, y1, y2, y3, y4, y5, y6⟩ := cells7 YW.out HBr.out
            go_wp2_with (first | ((with_reducible refine gate_dst (N := 46) rfl ?_); refine Kd.R_append k89 (w0 := w) b0 rfl (.tmp 40) (.tmp 45) 33 89 (.agg #[(.string ⟨#[]⟩), (.int .i64 0), (.int .i64 0), (.int .i64 0), (.string ⟨#[]⟩), (.slice none 0 0), (.slice none 0 0)]) 104 rfl Try.underlying33 info89 rfl (by decide) (by omega) u5 ok x [.string x.f0, .int .i64 x.f1.f0, .int .i64 x.f1.f1, .int .i64 x.f1.f2, .string x.f1.f3, e4, e5] (fun _ => True) (fun k_ => some k_ ≠ (u5 : Value).ownBlock) rfl rfl ?aP (fun _ hk => ⟨trivial, hk⟩) ?aF ?aO ?aB ?aS ?aL ?_; (case aP => exact HMr.out); (case aF => exact (fun _ _ => trivial)); (case aO => exact HOr.out); (case aB => exact HBr.out.mono hbw); (case aS => exact Nat.le_trans hbw HBr.out.size); (case aL => have := HLO.out; omega)))
            intro v1 w1 HO1 HB1 hg1 hat1
            have hst := app_state HBr.out HVO.out hg1 hat1 BKr.out
            have A1 := Aside0.mk hst.1
            have A2 := Aside0.mk hst.2.1
            have A3 := Aside0.mk hst.2.2
            have A4 := Aside0.mk HO1
            clear hst HO1 HB1 hg1 hat1 y0 y1 y2 y3 y4 y5 y6
            go_wp2
            exact ⟨⟨k + 1, by omega, by go_num, by rw [hd1.out], ⟨by rw [hs.out]; exact A4.out⟩, A2, A1, A3, hE1⟩, by simp [intOf]; omega⟩
          | true =>
            have hs := Aside0.mk (show outAt d p (k + 1) = (ok ++ [p]) ++ [x] by rw [HS.out, hl]; simp)
            have hd1 := Aside0.mk (show anyLt (d.take (k + 1)) p = true by rw [HT.out, anyLt_snoc, hl]; simp)
            have hl2 : Op.bytesLess p.f0.toList x.f0.toList = true := hl
            clear hl
            have HPr := Aside0.mk (M_old HP.out HBr.out (fun j hj => Nat.le_of_lt (HVO.out j hj)))
            go_wp2_with fail
            go_region
            obtain ⟨wr2, hwr⟩ : ∃ w', w' = wq.drew := ⟨_, rfl⟩
            rw [← hwr] at HBr HOr BKr HMr HPr ⊢
            clear hwr x0 x1 x2 x3 x4 x5 x6 y0 y1 y2 y3 y4 y5 y6 HOq BKq HBq
            obtain ⟨y0, y1, y2, y3, y4, y5, y6⟩ := cells7 YW.out HBr.out
            clear y0 y1 y2 y3 y4 y5 y6
            obtain ⟨x0, x1, x2, x3, x4, x5, x6⟩ := box7 BKr.out
            go_wp2_with (first | ((with_reducible refine gate_dst (N := 39) rfl ?_); refine Kd.R_append k89 (w0 := w) b0 rfl (.tmp 36) (.tmp 38) 33 89 (.agg #[(.string ⟨#[]⟩), (.int .i64 0), (.int .i64 0), (.int .i64 0), (.string ⟨#[]⟩), (.slice none 0 0), (.slice none 0 0)]) 104 rfl Try.underlying33 info89 rfl (by decide) (by omega) u5 ok p [.string p.f0, .int .i64 p.f1.f0, .int .i64 p.f1.f1, .int .i64 p.f1.f2, .string p.f1.f3, v4, v5] (fun _ => True) (fun k_ => some k_ ≠ (u5 : Value).ownBlock) rfl rfl ?aP (fun _ hk => ⟨trivial, hk⟩) ?aF ?aO ?aB ?aS ?aL ?_; (case aP => exact HPr.out); (case aF => exact (fun _ _ => trivial)); (case aO => exact HOr.out); (case aB => exact HBr.out.mono hbw); (case aS => exact Nat.le_trans hbw HBr.out.size); (case aL => have := HLO.out; omega)))
            intro v1 w1 HO1 HB1 hg1 hat1
            have hst := app_state HBr.out HVO.out hg1 hat1 BKr.out
            have A1 := Aside0.mk hst.1
            have A2 := Aside0.mk hst.2.1
            have A3 := Aside0.mk hst.2.2
            have A4 := Aside0.mk HO1
            have HM1 := Aside0.mk (M_old (k89.M_mono (fun _ _ => trivial) HM.out) A1.out (fun j hj => Nat.le_of_lt (A2.out j hj)))
            clear hst HO1 HB1 hg1 hat1 x0 x1 x2 x3 x4 x5 x6
            obtain ⟨y0, y1, y2, y3, y4, y5, y6⟩ := cells7 YW.out A1.out
            go_wp2_with (first | ((with_reducible refine gate_dst (N := 46) rfl ?_); refine Kd.R_append k89 (w0 := w) b0 rfl (.tmp 40) (.tmp 45) 33 89 (.agg #[(.string ⟨#[]⟩), (.int .i64 0), (.int .i64 0), (.int .i64 0), (.string ⟨#[]⟩), (.slice none 0 0), (.slice none 0 0)]) 104 rfl Try.underlying33 info89 rfl (by decide) (by omega) v1 (ok ++ [p]) x [.string x.f0, .int .i64 x.f1.f0, .int .i64 x.f1.f1, .int .i64 x.f1.f2, .string x.f1.f3, e4, e5] (fun _ => True) (fun k_ => some k_ ≠ (v1 : Value).ownBlock) rfl rfl ?aP (fun _ hk => ⟨trivial, hk⟩) ?aF ?aO ?aB ?aS ?aL ?_; (case aP => exact HM1.out); (case aF => exact (fun _ _ => trivial)); (case aO => exact A4.out); (case aB => exact A1.out.mono hbw); (case aS => exact Nat.le_trans hbw A1.out.size); (case aL => have := HLO.out; simp; omega)))
            intro v2 w3 HO2 HB2 hg2 hat2
            have hst := app_state A1.out A2.out hg2 hat2 A3.out
            have B1 := Aside0.mk hst.1
            have B2 := Aside0.mk hst.2.1
            have B3 := Aside0.mk hst.2.2
            have B4 := Aside0.mk HO2
            clear hst HO2 HB2 hg2 hat2 y0 y1 y2 y3 y4 y5 y6
            go_wp2
            exact ⟨⟨k + 1, by omega, by go_num, by rw [hd1.out], ⟨by rw [hs.out]; first | exact B4.out | (rw [List.append_assoc]; exact B4.out)⟩, B2, B1, B3, hE1⟩, by simp [intOf]; omega⟩
    · have hk' : k = d.length := by omega
      have hr0 := Aside0.mk (show rput d p = insB d p by
        unfold rput
        rw [if_neg]
        have := HE.out
        rw [hk', List.take_length] at this
        rw [this]
        decide)
      have HLO := Aside0.mk (outAt_len d p k)
      have hoa := Aside0.mk (show outAt d p k = if anyLt (d.take k) p = true then insB d p else d by unfold outAt; rw [hk', List.take_length])
      have hie := Aside0.mk (show anyLt (d.take k) p = false → insB d p = d ++ [p] by rw [hk', List.take_length]; exact insB_end p d)
      generalize outAt d p k = ok at *
      generalize anyLt (d.take k) p = dn at *
      cases dn with
      | true =>
        have hok := Aside0.mk (show ok = insB d p by rw [hoa.out]; simp)
        go_wp2
        go_ret
        exact ⟨_, rfl, by rw [hr0.out, ← hok.out]; exact HO.out, HB.out⟩
      | false =>
        have hok := Aside0.mk (show ok ++ [p] = rput d p by rw [hr0.out, hie.out rfl, hoa.out]; simp)
        have HPr := Aside0.mk (M_old HP.out HB.out (fun j hj => Nat.le_of_lt (HVO.out j hj)))
        go_wp2_with (first | ((with_reducible refine gate_dst (N := 52) rfl ?_); refine Kd.R_append k89 (w0 := w) b0 rfl (.tmp 49) (.tmp 51) 33 89 (.agg #[(.string ⟨#[]⟩), (.int .i64 0), (.int .i64 0), (.int .i64 0), (.string ⟨#[]⟩), (.slice none 0 0), (.slice none 0 0)]) 104 rfl Try.underlying33 info89 rfl (by decide) (by omega) u5 ok p [.string p.f0, .int .i64 p.f1.f0, .int .i64 p.f1.f1, .int .i64 p.f1.f2, .string p.f1.f3, v4, v5] (fun _ => True) (fun k_ => some k_ ≠ (u5 : Value).ownBlock) rfl rfl ?aP (fun _ hk => ⟨trivial, hk⟩) ?aF ?aO ?aB ?aS ?aL ?_; (case aP => exact HPr.out); (case aF => exact (fun _ _ => trivial)); (case aO => exact HO.out); (case aB => exact HB.out.mono hbw); (case aS => exact Nat.le_trans hbw HB.out.size); (case aL => have := HLO.out; omega)))
        intro v1 w1 HO1 HB1 hg1 hat1
        have hst := app_state HB.out HVO.out hg1 hat1 BK.out
        have A1 := Aside0.mk hst.1
        have A4 := Aside0.mk HO1
        clear hst HO1 HB1 hg1 hat1 x0 x1 x2 x3 x4 x5 x6
        go_wp2
        go_ret
        exact ⟨_, rfl, by rw [← hok.out]; exact A4.out, A1.out⟩
end Go.Proofs.Ytogpnkkoablmiaa.V
end
section
namespace Go.Proofs.Ytogpnkkoablmiaa.V
open Go.RowKit Go.Proofs.Ytogpnkkoablmiaa.Q Go.Proofs.YtogpnkkoablmiaaW.PrintWords Go.Proofs.YtogpnkkoablmiaaW.PrintLast Go.Proofs.YtogpnkkoablmiaaW.PrintMore
set_option linter.unusedVariables false
set_option linter.unusedSimpArgs false
mutual
/-- P16.3: a value in the one form that all alike ones have. -/
def plain : S35 → S35
  | ⟨k, n, g, s, l, d⟩ =>
    if k = 1 ∨ k = 2 then ⟨k, n, 0, ⟨#[]⟩, [], []⟩ else if k = 3 ∨ k = 4 then ⟨k, 0, 0, s, [], []⟩ else if k = 5 then ⟨k, 0, 0, ⟨#[]⟩, plainL l, []⟩ else
    if k = 6 then ⟨k, 0, 0, ⟨#[]⟩, [], ((plainD d).foldl rput []).filter (fun p => decide (p.f1.f0 ≠ 0))⟩ else if k = 7 then ⟨k, n, g, ⟨#[]⟩, [], []⟩ else
    if k = 8 then ⟨k, 0, 0, s, [], ((plainD d).foldl rput []).filter (fun p => decide (p.f1.f0 ≠ 0))⟩ else z35
def plainL : List S35 → List S35
  | [] => []
  | x :: r => plain x :: plainL r
def plainD : List (P89 S35) → List (P89 S35)
  | [] => []
  | p :: r => plainP p :: plainD r
def plainP : P89 S35 → P89 S35
  | ⟨key, v⟩ => ⟨key, plain v⟩
end
theorem plainL_map : ∀ l, plainL l = l.map plain
  | [] => by rw [plainL]; rfl
  | x :: r => by rw [plainL, plainL_map r]; rfl
theorem plainP_eq (p : S89) : plainP p = ⟨p.f0, plain p.f1⟩ := by cases p; rw [plainP]
theorem plainD_map : ∀ d, plainD d = d.map (fun p => (⟨p.f0, plain p.f1⟩ : S89))
  | [] => by rw [plainD]; rfl
  | x :: r => by rw [plainD, plainD_map r, plainP_eq]; rfl
def pairsP (d : List S89) : List S89 := ((d.map (fun p => (⟨p.f0, plain p.f1⟩ : S89))).foldl rput []).filter (fun p => decide (p.f1.f0 ≠ 0))
theorem plain_eq (v : S35) : plain v = if v.f0 = 1 ∨ v.f0 = 2 then ⟨v.f0, v.f1, 0, ⟨#[]⟩, [], []⟩ else if v.f0 = 3 ∨ v.f0 = 4 then ⟨v.f0, 0, 0, v.f3, [], []⟩ else if v.f0 = 5 then ⟨v.f0, 0, 0, ⟨#[]⟩, v.f4.map plain, []⟩ else
    if v.f0 = 6 then ⟨v.f0, 0, 0, ⟨#[]⟩, [], pairsP v.f5⟩ else if v.f0 = 7 then ⟨v.f0, v.f1, v.f2, ⟨#[]⟩, [], []⟩ else if v.f0 = 8 then ⟨v.f0, 0, 0, v.f3, [], pairsP v.f5⟩ else z35 := by
  cases v; rw [plain, plainL_map, plainD_map]; rfl
mutual
/-- No list of a value is longer than that. -/
def fewV : S35 → Prop
  | ⟨_, _, _, _, l, d⟩ => l.length ≤ 90000 ∧ d.length ≤ 90000 ∧ fewL l ∧ fewD d
def fewL : List S35 → Prop
  | [] => True
  | x :: r => fewV x ∧ fewL r
def fewD : List (P89 S35) → Prop
  | [] => True
  | p :: r => fewP p ∧ fewD r
def fewP : P89 S35 → Prop
  | ⟨_, v⟩ => fewV v
end
theorem fewL_mem : ∀ {l : List S35}, fewL l → ∀ x ∈ l, fewV x := by
  intro l
  induction l with
  | nil => intro _ x hx; simp at hx
  | cons y l ih => intro h x hx; rw [fewL] at h; rcases List.mem_cons.1 hx with rfl | hx; exact h.1; exact ih h.2 x hx
theorem fewD_mem : ∀ {l : List (P89 S35)}, fewD l → ∀ p ∈ l, fewV p.f1 := by
  intro l
  induction l with
  | nil => intro _ x hx; simp at hx
  | cons y l ih => intro h x hx; rw [fewD] at h; rcases List.mem_cons.1 hx with rfl | hx; (cases x; rw [fewP] at h; exact h.1); exact ih h.2 x hx
theorem fewV_at {v : S35} (h : fewV v) : v.f4.length ≤ 90000 ∧ v.f5.length ≤ 90000 ∧ (∀ x ∈ v.f4, fewV x) ∧ (∀ p ∈ v.f5, fewV p.f1) := by
  cases v; rw [fewV] at h; exact ⟨h.1, h.2.1, fewL_mem h.2.2.1, fewD_mem h.2.2.2⟩
def PlainAt (f : Nat) (v : S35) : Prop := ∀ (A4 : Option Addr) (c4 : Nat) (A5 : Option Addr) (c5 : Nat) (w : World), fewV v → v.f4.length ≤ c4 → k35.C w A4 v.f4.length v.f4 → v.f5.length ≤ c5 → k89.C w A5 v.f5.length v.f5 →
  Calls Try.prog f #[.agg #[.int .i64 v.f0, .int .i64 v.f1, .int .i64 v.f2, .string v.f3, .slice A4 v.f4.length c4, .slice A5 v.f5.length c5]] w fun e w' => ∃ v4 v5, e = .returned (.agg #[.int .i64 (plain v).f0, .int .i64 (plain v).f1, .int .i64 (plain v).f2, .string (plain v).f3, v4, v5]) ∧
    k35.R 35 w' w.heap.size (fun _ => True) v4 (plain v).f4 ∧ k89.R 89 w' w.heap.size (fun _ => True) v5 (plain v).f5 ∧ Below w.heap.size w w'
theorem rput_len (d : List S89) (p : S89) : (rput d p).length ≤ d.length + 1 := by
  unfold rput
  split
  · omega
  · rw [insB_len]; omega
theorem pairs_len (d : List S89) : ∀ (k : Nat), ((d.take k).foldl rput []).length ≤ k := by
  intro k
  induction k with
  | zero => simp
  | succ k ih =>
    by_cases h : k < d.length
    · rw [List.take_succ_eq_append_getElem h, List.foldl_append]
      have := rput_len ((d.take k).foldl rput []) d[k]
      simp only [List.foldl_cons, List.foldl_nil]
      omega
    · rw [List.take_of_length_le (by omega)]
      rw [List.take_of_length_le (by omega)] at ih
      omega
end Go.Proofs.Ytogpnkkoablmiaa.V
end
