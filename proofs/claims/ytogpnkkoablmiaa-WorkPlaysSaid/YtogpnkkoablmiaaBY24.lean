/- Parts of the proof: what the theorem reaches, put together by a program of this session. -/
import Derived.Test.YtogpnkkoablmiaaBY23
section
namespace Go.Proofs.Ytogpnkkoablmiaa.V
open Go.Proofs.Ytogpnkkoablmiaa.P Go.Shelf Go.RowKit Go.Lib Go.Sort Go.Proofs.Ytogpnkkoablmiaa.Q Go.Proofs.YtogpnkkoablmiaaW.PrintWords Go.Proofs.YtogpnkkoablmiaaW.PrintLast Go.Proofs.YtogpnkkoablmiaaW.PrintMore
set_option linter.unusedVariables false
set_option linter.unusedSimpArgs false
attribute [local go_sem high] eqA28
attribute [local go_sem] nzv_ne nzv_beq nzv_bne
attribute [local go_sem] Oper.semAt_some
theorem plain_few : ∀ v : S35, fewV v → fewV (plain v) := by
 refine S35.ind ?_
 intro v ih4 ih5 hf
 obtain ⟨h4, h5, hl, hd⟩ := fewV_at hf
 have hp : ∀ p ∈ pairsP v.f5, fewV p.f1 := fun p hp => by
  obtain ⟨⟨q, hq, e⟩, _⟩ := pairsP_mem hp
  rw [e]
  exact ih5 q hq (hd q hq)
 have hpl := pairsP_len v.f5
 have hll : ∀ x ∈ v.f4.map plain, fewV x := fun x hx => by
  obtain ⟨y, hy, rfl⟩ := List.mem_map.1 hx
  exact ih4 y hy (hl y hy)
 have h0 : ∀ x ∈ ([] : List S35), fewV x := fun x hx => by simp at hx
 have h1 : ∀ p ∈ ([] : List S89), fewV p.f1 := fun x hx => by simp at hx
 rw [plain_eq]
 split
 · exact fewV_of (by simp) (by simp) h0 h1
 split
 · exact fewV_of (by simp) (by simp) h0 h1
 split
 · exact fewV_of (by simpa using h4) (by simp) hll h1
 split
 · exact fewV_of (by simp) (Nat.le_trans hpl h5) h0 hp
 split
 · exact fewV_of (by simp) (by simp) h0 h1
 split
 · exact fewV_of (by simp) (Nat.le_trans hpl h5) h0 hp
 · exact fewV_of (by simp [z35]) (by simp [z35]) h0 h1
def Wk (b0 wb : Nat) (X : Nat → Prop) (s : WS) (W : World) : Prop := ∃ L : WL, L.wb = wb ∧ WorkIs b0 L s W ∧ ∀ k, X k → L.z k
def Mv (b0 : Nat) (X : Nat → Prop) (W W' : World) : Prop := RowKit.Below b0 W W' ∧ (∀ (k : Nat) (cs : Array Value) (q : Nat), q ≠ 123 → q ≠ 69 → W.heap[k]? = some (.cells cs q (0, 0)) → W'.heap[k]? = some (.cells cs q (0, 0))) ∧ ∀ k, X k → W'.heap[k]? = W.heap[k]?
theorem Mv.trans {b0 : Nat} {X : Nat → Prop} {A B C : World} (h : Mv b0 X A B) (k : Mv b0 X B C) : Mv b0 X A C := ⟨h.1.trans k.1, fun i cs q h1 h2 hi => k.2.1 i cs q h1 h2 (h.2.1 i cs q h1 h2 hi), fun i hi => (k.2.2 i hi).trans (h.2.2 i hi)⟩
theorem mv_of {b0 : Nat} {X : Nat → Prop} {L : WL} {s : WS} {W W' : World} (h : WorkIs b0 L s W) (hX : ∀ k, X k → L.z k) (hm : Moves b0 L.S W W') : Mv b0 X W W' :=
 ⟨hm.1, fun k cs q h1 h2 hk => (hm.2.2 k (blk_lt hk) (by
  rintro (rfl | rfl)
  · rw [h.2.2.2.1] at hk
    injection hk with hk; injection hk with _ hq _
    exact h1 hq.symm
  · obtain ⟨cells, hc⟩ := own_typed h.2.2.2.2.1 L.g rfl
    rw [hc] at hk
    injection hk with hk; injection hk with _ hq _
    exact h2 hq.symm)).trans hk, fun k hk => hm.2.2 k (h.2.2.2.2.2.2.2.2.2 k (hX k hk)).1 (h.2.2.2.2.2.2.2.2.2 k (hX k hk)).2⟩
theorem wk_of {b0 : Nat} {X : Nat → Prop} {L : WL} {s s' : WS} {W W' : World} (h : WorkIs b0 L s W) (hX : ∀ k, X k → L.z k) (hp : AllPost b0 L s' W W') : Wk b0 L.wb X s' W' ∧ Mv b0 X W W' := by
 obtain ⟨L', h1, h2, h3, h4, h5⟩ := hp
 exact ⟨⟨L', h1, h3, fun k hk => by rw [h5]; exact hX k hk⟩, mv_of h hX h4⟩
theorem Wk.below {b0 wb : Nat} {X : Nat → Prop} {s : WS} {W W' : World} (h : Wk b0 wb X s W) (hb : RowKit.Below W.heap.size W W') : Wk b0 wb X s W' := by
 obtain ⟨L, e, hw, hX⟩ := h
 exact ⟨L, e, hw.below hb, hX⟩
theorem WorkIs.grown {b0 : Nat} {L : WL} {s : WS} {W W' : World} {row : Option Nat} (h : WorkIs b0 L s W) (hg : W.grownBy W' row) (hr : ∀ r, row = some r → L.z r) :
 WorkIs b0 { L with z := fun k => L.z k ∨ (W.heap.size ≤ k ∧ k < W'.heap.size) } s W' := by
 have hl := h.lt
 obtain ⟨h1, h2, h3, h4, h5, h6, h7, h8, h9, hz⟩ := h
 have hk : Kept W W' L.z := ⟨hg.size, fun i hi hn => hg.block i hi (fun e => hn (hr i e.symm))⟩
 have hM : ∀ k, (¬ L.N k ∧ k < W.heap.size) → ¬ WL.N { L with z := fun k => L.z k ∨ (W.heap.size ≤ k ∧ k < W'.heap.size) } k := fun k hk => by
  rintro (e | e | e)
  · exact hk.1 (.inl e)
  · exact hk.1 (.inr e)
  · have := hk.2; omega
 refine ⟨h1, h2, h3, ?_, ?_, h6, fun y hy => FV.mono (FV.kept (FV.bound (h7 y hy)) hk (fun k hk e => hk.1 (.inr e))) hM, h8, Kd.F_mono (Kd.F_kept (Kd.F_bound h9) hk (fun k hk e => hk.1 (.inr e))) hM, ?_⟩
 · exact (hk.2 L.wb hl.1 (fun e => (hz _ e).2 (.inl rfl))).trans h4
 · exact own_move h5 (fun k hk' => hk.2 k (h5.lt k hk').2 (fun e => (hz _ e).2 (.inr (by have : k = L.g := by simpa [Value.ownBlock] using hk'.symm
                                                                                         exact this))))
 · rintro k (e | e)
   · exact ⟨Nat.lt_of_lt_of_le (hz k e).1 hg.size, (hz k e).2⟩
   · refine ⟨e.2, ?_⟩
     rintro (e2 | e2)
     · have e2 : k = L.wb := e2
       omega
     · have e2 : k = L.g := e2
       omega
theorem Wk.grown {b0 wb : Nat} {X : Nat → Prop} {s : WS} {W W' : World} {row : Option Nat} (h : Wk b0 wb X s W) (hg : W.grownBy W' row) (hr : ∀ r, row = some r → X r) : Wk b0 wb (fun k => X k ∨ (W.heap.size ≤ k ∧ k < W'.heap.size)) s W' := by
 obtain ⟨L, e, hw, hX⟩ := h
 exact ⟨{ L with z := fun k => L.z k ∨ (W.heap.size ≤ k ∧ k < W'.heap.size) }, e, hw.grown hg (fun r e => hX r (hr r e)), fun k hk => Or.elim hk (fun e => Or.inl (hX k e)) (fun e => Or.inr e)⟩
theorem Wk.fresh {b0 wb : Nat} {X : Nat → Prop} {s : WS} {W W' : World} (h : Wk b0 wb X s W) (hb : RowKit.Below W.heap.size W W') : Wk b0 wb (fun k => X k ∨ (W.heap.size ≤ k ∧ k < W'.heap.size)) s W' :=
 h.grown (row := none) ⟨hb.os, hb.tape, hb.output, hb.size, fun k hk _ => hb.block k hk⟩ (fun r e => by cases e)
theorem Wk.frees {b0 wb : Nat} {X Y : Nat → Prop} {s : WS} {W : World} (h : Wk b0 wb X s W) (hY : ∀ k, Y k → X k) : Wk b0 wb Y s W := by
 obtain ⟨L, e, hw, hX⟩ := h
 exact ⟨L, e, hw, fun k hk => hX k (hY k hk)⟩
theorem Mv.of_below {b0 : Nat} {X : Nat → Prop} {W W' : World} (h0 : b0 ≤ W.heap.size) (hX : ∀ k, X k → k < W.heap.size) (hb : RowKit.Below W.heap.size W W') : Mv b0 X W W' := ⟨hb.mono h0, fun k cs q _ _ hk => blk_below hk hb, fun k hk => hb.block k (hX k hk)⟩
theorem Mv.blk {b0 : Nat} {X : Nat → Prop} {W W' : World} (h : Mv b0 X W W') {k q : Nat} {cs : Array Value} (hk : W.heap[k]? = some (.cells cs q (0, 0))) (h1 : q ≠ 123 := by decide) (h2 : q ≠ 69 := by decide) : W'.heap[k]? = some (.cells cs q (0, 0)) := h.2.1 k cs q h1 h2 hk
theorem Mv.row {b0 : Nat} {X : Nat → Prop} {W W' : World} (h : Mv b0 X W W') {base e size n : Nat} {v : Value} {xs : List Value} (ho : W.ownsRow base e size v n xs) (h1 : e ≠ 123 := by decide) (h2 : e ≠ 69 := by decide) : W'.ownsRow base e size v n xs :=
 own_move ho (fun k hk => by
  obtain ⟨cells, hc⟩ := own_typed ho k hk
  exact (h.2.1 k cells e h1 h2 hc).trans hc.symm)
def OkX (x : S69) : Prop := fewV x.f2 ∧ 0 ≤ x.f0 ∧ x.f0 ≤ 65535
def OkS (s : WS) : Prop := (∀ x ∈ s.now, OkX x) ∧ (∀ x ∈ s.base, OkX x) ∧ 0 < s.now.length ∧ 0 < s.base.length
theorem z35_few : fewV z35 := fewV_of (by simp [z35]) (by simp [z35]) (fun x hx => by simp [z35] at hx) (fun x hx => by simp [z35] at hx)
theorem set_all {s : List S69} {i : Nat} {y : S69} (h : ∀ x ∈ s, OkX x) (hy : OkX y) : ∀ x ∈ s.set i y, OkX x := fun x hx => by
 rcases List.mem_or_eq_of_mem_set hx with hx | rfl
 · exact h x hx
 · exact hy
theorem okx_at {s : List S69} (h : ∀ x ∈ s, OkX x) (i : Nat) : OkX (s.getD i z69) := by
 by_cases hi : i < s.length
 · exact h _ (getD_mem _ _ hi _)
 · rw [List.getD_eq_getElem?_getD, List.getElem?_eq_none (by omega)]
   exact ⟨z35_few, by simp [z69], by simp [z69]⟩
theorem ok_alloc {s : WS} (h : OkS s) : OkS (allocS s) := by
 obtain ⟨h1, h2, h3, h4⟩ := h
 unfold allocS
 split
 · exact ⟨set_all h1 (okx_at h1 _), h2, by simpa using h3, h4⟩
 split
 · exact ⟨h1, h2, h3, h4⟩
 · refine ⟨fun x hx => ?_, h2, by simp, h4⟩
   rcases List.mem_append.1 hx with hx | hx
   · exact h1 x hx
   · obtain rfl := List.mem_singleton.1 hx
     exact ⟨z35_few, by simp, by simp⟩
theorem alloc_len (s : WS) : (allocS s).now.length ≤ s.now.length + 1 := by
 unfold allocS
 split
 · simp
 split
 · omega
 · simp
theorem ok_put {s : WS} (h : OkS s) (n g : Int) (v : S35) (hf : fewV v) : OkS (putW s n g v) := by
 obtain ⟨h1, h2, h3, h4⟩ := h
 unfold putW
 split
 · rename_i he
   have hz : findE s n g = 0 := by unfold putE at he; split at he <;> simp_all
   obtain ⟨i, rfl, _, _, _, hg⟩ := findE_zero hz
   have ho := okx_at h1 i
   exact ⟨set_all h1 ⟨plain_few v hf, by rw [← hg]; exact ho.2.1, by rw [← hg]; exact ho.2.2⟩, h2, by simpa using h3, h4⟩
 · exact ⟨h1, h2, h3, h4⟩
theorem put_len (s : WS) (n g : Int) (v : S35) : (putW s n g v).now.length = s.now.length := by unfold putW; split <;> simp
theorem ok_del {s : WS} (h : OkS s) (n g : Int) : OkS (delW s n g) := by
 obtain ⟨h1, h2, h3, h4⟩ := h
 unfold delW
 split
 · rename_i hz
   obtain ⟨i, rfl, _, _, _, hg⟩ := findE_zero hz
   have ho := okx_at h1 i
   have h5 := ho.2.1
   have h6 := ho.2.2
   rw [hg] at h5 h6
   exact ⟨set_all h1 ⟨z35_few, by show (0 : Int) ≤ min (g + 1) 65535; omega, by show min (g + 1) 65535 ≤ (65535 : Int); omega⟩, h2, by simpa using h3, h4⟩
 · exact ⟨h1, h2, h3, h4⟩
theorem del_len (s : WS) (n g : Int) : (delW s n g).now.length = s.now.length := by unfold delW; split <;> simp
theorem ok_root {s : WS} (h : OkS s) (n g : Int) : OkS (rootW s n g) := by unfold rootW; split <;> exact h
theorem root_len (s : WS) (n g : Int) : (rootW s n g).now.length = s.now.length := by unfold rootW; split <;> rfl
theorem ok_settle {s : WS} (h : OkS s) : OkS (settleW s) := ⟨h.1, h.1, h.2.2.1, h.2.2.1⟩
theorem ok_reset {s : WS} (h : OkS s) : OkS (resetW s) := ⟨h.2.1, h.2.1, h.2.2.2, h.2.2.2⟩
theorem ok_new {b : List S69} {rn rg most : Int} (hb : ∀ x ∈ b, fewV x.f2) (hE : newE b rn rg most = 0) : OkS (newW b rn rg most) := by
 have hg : b.any badG = false := by
  unfold newE at hE
  split at hE
  · cases hE
  split at hE
  · cases hE
  · rename_i h; simpa using h
 have hx : ∀ x ∈ newNow b, OkX x := fun x hx => by
  unfold newNow at hx
  obtain ⟨i, _, rfl⟩ := List.mem_map.1 hx
  unfold newS
  split
  · rename_i hi
    have hm := getD_mem b i hi z69
    have h1 : badG (b.getD i z69) = false := by
     have := List.any_eq_false.1 hg _ hm
     simpa using this
    have h2 : 0 ≤ (b.getD i z69).f0 ∧ (b.getD i z69).f0 ≤ 65535 := by simpa [badG, inB] using h1
    split
    · exact ⟨plain_few _ (hb _ hm), h2⟩
    · exact ⟨z35_few, h2⟩
  · exact ⟨z35_few, by simp [z69], by simp [z69]⟩
 have hl : 0 < (newNow b).length := by unfold newNow; simp; omega
 exact ⟨hx, hx, hl, hl⟩
theorem new_len (b : List S69) : (newNow b).length = max 1 b.length := by unfold newNow; simp
theorem L_alloc {b0 wb : Nat} {X : Nat → Prop} {s : WS} {W : World} (h : Wk b0 wb X s W) (h0 : b0 ≤ W.heap.size) (hl : s.now.length ≤ 90000) : Calls Try.prog 20 #[.pointer (some ⟨wb, 0, none⟩)] W fun e w' => e = .returned (.tuple #[.agg #[.int .i64 (allocR s).1, .int .i64 (allocR s).2.1], .int .i64 (allocR s).2.2]) ∧ Wk b0 wb X (allocS s) w' ∧ Mv b0 X W w' := by
 obtain ⟨L, rfl, hw, hX⟩ := h
 refine (walloc_calls b0 L s W hw h0 (by rw [← hw.len]; exact hl)).mono ?_
 rintro e w' ⟨rfl, hp⟩
 exact ⟨rfl, wk_of hw hX hp⟩
theorem L_put {b0 wb : Nat} {X : Nat → Prop} {s : WS} {W : World} {n g : Int} {v : S35} {A4 : Option Addr} {c4 : Nat} {A5 : Option Addr} {c5 : Nat} (h : Wk b0 wb X s W) (h0 : b0 ≤ W.heap.size) (hv : HasV v A4 c4 A5 c5 W) (hfv : fewV v) : Calls Try.prog 24 #[.pointer (some ⟨wb, 0, none⟩), .agg #[.int .i64 n, .int .i64 g], .agg #[.int .i64 v.f0, .int .i64 v.f1, .int .i64 v.f2, .string v.f3, .slice A4 v.f4.length c4, .slice A5 v.f5.length c5]] W fun e w' => e = .returned (.int .i64 (putE s n g v)) ∧ Wk b0 wb X (putW s n g v) w' ∧ Mv b0 X W w' := by
 obtain ⟨L, rfl, hw, hX⟩ := h
 refine (wput_calls b0 L s n g v A4 c4 A5 c5 W hw h0 hv hfv).mono ?_
 rintro e w' ⟨rfl, hp⟩
 exact ⟨rfl, wk_of hw hX hp.all⟩
theorem L_delete {b0 wb : Nat} {X : Nat → Prop} {s : WS} {W : World} {n g : Int} (h : Wk b0 wb X s W) (h0 : b0 ≤ W.heap.size) (ho : OkS s) : Calls Try.prog 23 #[.pointer (some ⟨wb, 0, none⟩), .agg #[.int .i64 n, .int .i64 g]] W fun e w' => e = .returned (.int .i64 (findE s n g)) ∧ Wk b0 wb X (delW s n g) w' ∧ Mv b0 X W w' := by
 obtain ⟨L, rfl, hw, hX⟩ := h
 refine (wdelete_calls b0 L s n g W hw h0 (fun x hx => ⟨(ho.1 x hx).2.1, (ho.1 x hx).2.2⟩)).mono ?_
 rintro e w' ⟨rfl, hp⟩
 exact ⟨rfl, wk_of hw hX hp.all⟩
theorem L_settle {b0 wb : Nat} {X : Nat → Prop} {s : WS} {W : World} (h : Wk b0 wb X s W) (h0 : b0 ≤ W.heap.size) (ho : OkS s) (hl : s.now.length ≤ 90000) : Calls Try.prog 25 #[.pointer (some ⟨wb, 0, none⟩)] W fun e w' => e = .returned (.int .i64 0) ∧ Wk b0 wb X (settleW s) w' ∧ Mv b0 X W w' := by
 obtain ⟨L, rfl, hw, hX⟩ := h
 refine (wsettle_calls b0 L s W hw h0 (by rw [← hw.len]; exact ho.2.2.1) (by rw [← hw.len]; exact hl)).mono ?_
 rintro e w' ⟨rfl, hp⟩
 exact ⟨rfl, wk_of hw hX hp⟩
theorem L_reset {b0 wb : Nat} {X : Nat → Prop} {s : WS} {W : World} (h : Wk b0 wb X s W) (h0 : b0 ≤ W.heap.size) (ho : OkS s) (hl : s.base.length ≤ 90000) : Calls Try.prog 38 #[.pointer (some ⟨wb, 0, none⟩)] W fun e w' => e = .returned (.int .i64 0) ∧ Wk b0 wb X (resetW s) w' ∧ Mv b0 X W w' := by
 obtain ⟨L, rfl, hw, hX⟩ := h
 refine (wreset_calls b0 L s W hw h0 ho.2.2.2 hl).mono ?_
 rintro e w' ⟨rfl, hp⟩
 exact ⟨rfl, wk_of hw hX hp⟩
theorem L_setroot {b0 wb : Nat} {X : Nat → Prop} {s : WS} {W : World} {n g : Int} (h : Wk b0 wb X s W) (h0 : b0 ≤ W.heap.size) : Calls Try.prog 96 #[.pointer (some ⟨wb, 0, none⟩), .agg #[.int .i64 n, .int .i64 g]] W fun e w' => e = .returned (.int .i64 (rootE s n g)) ∧ Wk b0 wb X (rootW s n g) w' ∧ Mv b0 X W w' := by
 obtain ⟨L, rfl, hw, hX⟩ := h
 refine (wsetroot_calls b0 L s n g W hw h0).mono ?_
 rintro e w' ⟨rfl, hp, hm⟩
 exact ⟨rfl, wk_of hw hX ⟨L, rfl, .inl rfl, hp, hm, rfl⟩⟩
theorem L_get {b0 wb : Nat} {X : Nat → Prop} {s : WS} {W : World} {n g : Int} (h : Wk b0 wb X s W) (ho : OkS s) : Calls Try.prog 21 #[.pointer (some ⟨wb, 0, none⟩), .agg #[.int .i64 n, .int .i64 g]] W fun e w' => ∃ a4 n4 a5 n5, e = .returned (.tuple #[.agg #[.int .i64 (getW s n g).f0, .int .i64 (getW s n g).f1, .int .i64 (getW s n g).f2, .string (getW s n g).f3, .slice a4 (getW s n g).f4.length n4, .slice a5 (getW s n g).f5.length n5], .int .i64 (findE s n g)]) ∧ HasV (getW s n g) a4 n4 a5 n5 w' ∧ RowKit.Below W.heap.size W w' := by
 obtain ⟨L, rfl, hw, hX⟩ := h
 exact wget_calls b0 L s n g W hw (fun x hx => (ho.1 x hx).1)
theorem L_root {b0 wb : Nat} {X : Nat → Prop} {s : WS} {W : World} (h : Wk b0 wb X s W) : Calls Try.prog 31 #[.pointer (some ⟨wb, 0, none⟩)] W fun e w' => e = .returned (.agg #[.int .i64 s.rn, .int .i64 s.rg]) ∧ RowKit.Below W.heap.size W w' := by
 obtain ⟨L, rfl, hw, hX⟩ := h
 exact wroot_calls b0 L s W hw
theorem L_changes {b0 wb : Nat} {X : Nat → Prop} {s : WS} {W : World} (h : Wk b0 wb X s W) (ho : OkS s) (hl : s.now.length ≤ 90000) : Calls Try.prog 33 #[.pointer (some ⟨wb, 0, none⟩)] W fun e w' => ∃ v0 xs, e = .returned v0 ∧ xs.map strC = chgs s s.now.length ∧ CRow W.heap.size v0 xs w' ∧ RowKit.Below W.heap.size W w' := by
 obtain ⟨L, rfl, hw, hX⟩ := h
 exact changes_calls b0 L s W hw (by rw [← hw.len]; exact hl) (fun x hx => (ho.1 x hx).1) (fun x hx => (ho.2.1 x hx).1)
theorem L_dirty {b0 wb : Nat} {X : Nat → Prop} {s : WS} {W : World} (h : Wk b0 wb X s W) (ho : OkS s) (hl : s.now.length ≤ 90000) : Calls Try.prog 35 #[.pointer (some ⟨wb, 0, none⟩)] W fun e w' => e = .returned (.bool (dirtyB s)) ∧ RowKit.Below W.heap.size W w' := by
 obtain ⟨L, rfl, hw, hX⟩ := h
 exact dirty_calls b0 L s W hw (by rw [← hw.len]; exact hl) (fun x hx => (ho.1 x hx).1) (fun x hx => (ho.2.1 x hx).1)
def vInt : S35 := ⟨2, 7, 0, ⟨#[]⟩, [], []⟩
theorem vInt_few : fewV vInt := fewV_of (by simp [vInt]) (by simp [vInt]) (fun x hx => by simp [vInt] at hx) (fun x hx => by simp [vInt] at hx)
def st0 : WS := ⟨[z69], 0, 0, [z69], 0, 0, 9⟩
def st1 : WS := ⟨[z69, ⟨0, true, z35⟩], 0, 0, [z69], 0, 0, 9⟩
def st2 : WS := ⟨[z69, ⟨0, true, vInt⟩], 0, 0, [z69], 0, 0, 9⟩
def st3 : WS := ⟨[z69, ⟨1, false, z35⟩], 0, 0, [z69], 0, 0, 9⟩
def st4 : WS := ⟨[z69, ⟨1, true, z35⟩], 0, 0, [z69], 0, 0, 9⟩
theorem st0_eq : newW [] 0 0 9 = st0 := rfl
theorem st0_e : newE [] 0 0 9 = 0 := rfl
theorem st1_eq : allocS st0 = st1 := rfl
theorem st1_r : allocR st0 = (1, 0, 0) := rfl
theorem plain_vInt : plain vInt = vInt := by rw [plain_eq]; simp [vInt]
theorem chk_vInt : chkV vInt true 0 = 0 := by
 rw [chkV_eq]
 simp only [vInt, chkL, chkD]
 simp [ownE, extraB, beyondB]
theorem st2_e : putE st1 1 0 vInt = 0 := by
 unfold putE
 rw [chk_vInt, plain_vInt]
 rfl
theorem st2_eq : putW st1 1 0 vInt = st2 := by
 unfold putW
 rw [st2_e, plain_vInt]
 rfl
theorem st3_e : findE st2 1 0 = 0 := rfl
theorem st3_eq : delW st2 1 0 = st3 := rfl
theorem st4_eq : allocS st3 = st4 := rfl
theorem st4_r : allocR st3 = (1, 1, 0) := rfl
theorem st4_g : findE st4 1 0 = 13 := rfl
theorem st4_c : chgs st4 st4.now.length = [(1, plainS ⟨1, true, z35⟩)] := by
 have h : st4.now.length = 2 := rfl
 rw [h, chgs_succ, chgs_succ]
 simp [chgs, chgAt, st4]
theorem st4_d : dirtyB st4 = true := by
 unfold dirtyB
 rw [st4_c]
 rfl
theorem st_ok : OkS st0 ∧ OkS st1 ∧ OkS st2 ∧ OkS st3 ∧ OkS st4 := by
 have h0 : OkS st0 := by rw [← st0_eq]; exact ok_new (fun x hx => by simp at hx) st0_e
 have h1 : OkS st1 := by rw [← st1_eq]; exact ok_alloc h0
 have h2 : OkS st2 := by rw [← st2_eq]; exact ok_put h1 1 0 _ vInt_few
 have h3 : OkS st3 := by rw [← st3_eq]; exact ok_del h2 1 0
 have h4 : OkS st4 := by rw [← st4_eq]; exact ok_alloc h3
 exact ⟨h0, h1, h2, h3, h4⟩
theorem L_new {b : List S69} {A : Option Addr} {c : Nat} {rn rg most : Int} {w : World} (hb0 : k69.C w A b.length b) (hl : b.length ≤ 80000) (hf : ∀ x ∈ b, fewV x.f2) (hE : newE b rn rg most = 0) :
 Calls Try.prog 17 #[.slice A b.length c, .agg #[.int .i64 rn, .int .i64 rg], .int .i64 most] w fun e w' => ∃ wb, e = .returned (.tuple #[.pointer (some ⟨wb, 0, none⟩), .int .i64 0]) ∧ Wk w.heap.size wb (fun _ => False) (newW b rn rg most) w' ∧ RowKit.Below w.heap.size w w' := by
 refine (wnew_calls b A c rn rg most w hb0 hl hf).mono ?_
 rintro e w' (⟨h, _⟩ | ⟨_, L, rfl, hw, hb⟩)
 · exact absurd hE h
 · exact ⟨L.wb, rfl, ⟨L, rfl, hw, fun k hk => hk.elim⟩, hb⟩
theorem L_new_bad {b : List S69} {A : Option Addr} {c : Nat} {rn rg most : Int} {w : World} (hb0 : k69.C w A b.length b) (hl : b.length ≤ 80000) (hf : ∀ x ∈ b, fewV x.f2) (hE : newE b rn rg most ≠ 0) :
 Calls Try.prog 17 #[.slice A b.length c, .agg #[.int .i64 rn, .int .i64 rg], .int .i64 most] w fun e w' => e = .returned (.tuple #[.pointer none, .int .i64 (newE b rn rg most)]) ∧ RowKit.Below w.heap.size w w' := by
 refine (wnew_calls b A c rn rg most w hb0 hl hf).mono ?_
 rintro e w' (⟨_, rfl, hb⟩ | ⟨h, _⟩)
 · exact ⟨rfl, hb⟩
 · exact absurd h hE
set_option maxHeartbeats 20000000 in
set_option maxRecDepth 100000 in
theorem works_calls (w : World) : Calls Try.prog 19 #[] w fun e w' => e = .returned (.bool true) ∧ RowKit.Below w.heap.size w w' := by
 have hu28 := Try.underlying28
 have hu35 := Try.underlying35
 have hu23 := Try.underlying23
 have hu46 := Try.underlying46
 have hu60 := Try.underlying60
 have hu67 := Try.underlying67
 have KN := A_ (L_new (b := []) (A := none) (c := 0) (rn := 0) (rg := 0) (most := 9) (w := w) (Kd.F_now (Kd.F_nil k69 w (fun _ => True))) (by simp) (fun x hx => by simp at hx) st0_e)
 go_enter Try.func19, Try.ntmps19
 simp only [List.append_eq, List.cons_append, List.nil_append, List.append]
 go_wp2_with fail
 refine Calls.mono KN.out ?_
 rintro e w1 ⟨wb, rfl, hk, hb⟩
 rw [st0_eq] at hk
 have HB := A_ hb
 have KA : Aside0 (Calls Try.prog 20 #[.pointer (some ⟨wb, 0, none⟩)] w1 fun e w' => e = .returned (.tuple #[.agg #[.int .i64 1, .int .i64 0], .int .i64 0]) ∧ Wk w.heap.size wb (fun _ => False) st1 w' ∧ Mv w.heap.size (fun _ => False) w1 w') := A_ (by have h := L_alloc hk hb.size (by decide); rw [st1_r, st1_eq] at h; exact h)
 clear hk hb KN
 go_wp2_with fail
 refine Calls.mono KA.out ?_
 rintro e w2 ⟨rfl, hk, hm⟩
 replace HB := A_ (HB.out.trans hm.1)
 have HA := A_ (blk_new w2 (.cells #[.int .i64 1, .int .i64 0] 28))
 have hk2 := hk.below (below_alloc (RowKit.Below.refl _ w2) (.cells #[.int .i64 1, .int .i64 0] 28))
 replace HB := A_ (below_alloc HB.out (.cells #[.int .i64 1, .int .i64 0] 28))
 have KP : Aside0 (Calls Try.prog 24 #[.pointer (some ⟨wb, 0, none⟩), .agg #[.int .i64 1, .int .i64 0], .agg #[.int .i64 2, .int .i64 7, .int .i64 0, .string ⟨#[]⟩, .slice none 0 0, .slice none 0 0]] (w2.alloc (.cells #[.int .i64 1, .int .i64 0] 28)) fun e w' => e = .returned (.int .i64 0) ∧ Wk w.heap.size wb (fun _ => False) st2 w' ∧ Mv w.heap.size (fun _ => False) (w2.alloc (.cells #[.int .i64 1, .int .i64 0] 28)) w') := A_ (by
  have h := L_put (n := 1) (g := 0) (v := vInt) (A4 := none) (c4 := 0) (A5 := none) (c5 := 0) hk2 HB.out.size ⟨Nat.le_refl _, Kd.F_now (Kd.F_nil k35 _ (fun _ => True)), Nat.le_refl _, Kd.F_now (Kd.F_nil k89 _ (fun _ => True))⟩ vInt_few
  rw [st2_e, st2_eq] at h
  exact h)
 clear hk hk2 hm KA
 have hw2 : w2.heap.size < (w2.alloc (.cells #[.int .i64 1, .int .i64 0] 28)).heap.size := by simp
 obtain ⟨a0, a1⟩ := box2 HA.out
 go_wp2_with fail
 refine Calls.mono KP.out ?_
 rintro e w3 ⟨rfl, hk, hm⟩
 replace HB := A_ (HB.out.trans hm.1)
 replace HA := A_ (hm.blk HA.out)
 have KD : Aside0 (Calls Try.prog 23 #[.pointer (some ⟨wb, 0, none⟩), .agg #[.int .i64 1, .int .i64 0]] w3 fun e w' => e = .returned (.int .i64 0) ∧ Wk w.heap.size wb (fun _ => False) st3 w' ∧ Mv w.heap.size (fun _ => False) w3 w') := A_ (by have h := L_delete (n := 1) (g := 0) hk HB.out.size st_ok.2.2.1; rw [st3_e, st3_eq] at h; exact h)
 clear hk hm KP a0 a1 hw2
 obtain ⟨a0, a1⟩ := box2 HA.out
 have hw3 := blk_lt HA.out
 go_wp2_with fail
 refine Calls.mono KD.out ?_
 rintro e w4 ⟨rfl, hk, hm⟩
 replace HB := A_ (HB.out.trans hm.1)
 replace HA := A_ (hm.blk HA.out)
 have KA : Aside0 (Calls Try.prog 20 #[.pointer (some ⟨wb, 0, none⟩)] w4 fun e w' => e = .returned (.tuple #[.agg #[.int .i64 1, .int .i64 1], .int .i64 0]) ∧ Wk w.heap.size wb (fun _ => False) st4 w' ∧ Mv w.heap.size (fun _ => False) w4 w') := A_ (by have h := L_alloc hk HB.out.size (by decide); rw [st4_r, st4_eq] at h; exact h)
 clear hk hm KD a0 a1 hw3
 go_wp2_with fail
 refine Calls.mono KA.out ?_
 rintro e w5 ⟨rfl, hk, hm⟩
 replace HB := A_ (HB.out.trans hm.1)
 replace HA := A_ (hm.blk HA.out)
 have HN := A_ (blk_new w5 (.cells #[.int .i64 1, .int .i64 1] 28))
 have hbb := below_alloc (RowKit.Below.refl _ w5) (.cells #[.int .i64 1, .int .i64 1] 28)
 have HK := A_ (hk.below hbb)
 replace HB := A_ (below_alloc HB.out (.cells #[.int .i64 1, .int .i64 1] 28))
 have hw5 : w5.heap.size < (w5.alloc (.cells #[.int .i64 1, .int .i64 1] 28)).heap.size := by simp
 replace HA := A_ (blk_below HA.out hbb)
 have hlA := blk_lt HA.out
 clear hk hm KA hbb
 obtain ⟨a0, a1⟩ := box2 HA.out
 have KG := A_ (L_get (n := 1) (g := 0) HK.out st_ok.2.2.2.2)
 rw [st4_g] at KG
 generalize getW st4 1 0 = gv at KG
 go_wp2_with fail
 refine Calls.mono KG.out ?_
 rintro e w6 ⟨a4, n4, a5, n5, rfl, -, hb⟩
 replace HB := A_ (HB.out.trans (hb.mono HB.out.size))
 replace HA := A_ (blk_below HA.out hb)
 replace HN := A_ (blk_below HN.out hb)
 replace HK := A_ (HK.out.below hb)
 have hbb := below_alloc (RowKit.Below.refl _ w6) (.cells #[.int .i64 gv.f0, .int .i64 gv.f1, .int .i64 gv.f2, .string gv.f3, .slice a4 gv.f4.length n4, .slice a5 gv.f5.length n5] 35)
 replace HB := A_ (HB.out.trans (hbb.mono HB.out.size))
 replace HA := A_ (blk_below HA.out hbb)
 replace HN := A_ (blk_below HN.out hbb)
 replace HK := A_ (HK.out.below hbb)
 have KC := A_ (L_changes HK.out st_ok.2.2.2.2 (by decide))
 rw [st4_c] at KC
 clear hb hbb KG a0 a1 hw5 hlA
 go_wp2_with fail
 refine Calls.mono KC.out ?_
 rintro e w7 ⟨v0, xs, rfl, hxs, hrow, hb⟩
 replace HB := A_ (HB.out.trans (hb.mono HB.out.size))
 replace HA := A_ (blk_below HA.out hb)
 replace HN := A_ (blk_below HN.out hb)
 replace HK := A_ (HK.out.below hb)
 obtain ⟨x, rfl⟩ : ∃ x, xs = [x] := by
  match xs, hxs with
  | [], h => simp at h
  | [x], _ => exact ⟨x, rfl⟩
  | x :: y :: r, h => simp at h
 have hxe : x.2.x = plainS ⟨1, true, z35⟩ := by
  have h : strC x = (1, plainS ⟨1, true, z35⟩) := by simpa using hxs
  exact congrArg Prod.snd h
 have hro := hrow.1
 rw [show flatC [x] = cellsC x by simp [flatC], show ([x] : List (Nat × RS)).length = 0 + 1 from rfl] at hro
 obtain ⟨gl, cl, rfl⟩ := ownsRow_succ hro
 have HL := A_ (show w7.cell? ⟨gl, 1, none⟩ = some (.int .i64 1) ∧ w7.cell? ⟨gl, 2, none⟩ = some (.bool false) ∧ gl < w7.heap.size from by
  refine ⟨?_, ?_, (hro.lt gl rfl).2⟩
  · rw [hro.cellAt 1 (by omega)]
    show some (Value.int .i64 x.2.x.f0) = _
    rw [hxe]; rfl
  · rw [hro.cellAt 2 (by omega)]
    show some (Value.bool (!x.2.x.f1)) = _
    rw [hxe]; rfl)
 clear hb KC hxs hrow hxe hro
 go_wp2_with fail
 refine Calls.mono (alloc_nil w7) ?_
 rintro e w8 ⟨rfl, hb⟩
 replace hb := below_alloc hb (.cells #[.int .i64 0, .int .i64 0] 28)
 replace HB := A_ (HB.out.trans (hb.mono HB.out.size))
 replace HA := A_ (blk_below HA.out hb)
 replace HN := A_ (blk_below HN.out hb)
 replace HK := A_ (HK.out.below hb)
 replace HL := A_ (show (w8.alloc (.cells #[.int .i64 0, .int .i64 0] 28)).cell? ⟨gl, 1, none⟩ = some (.int .i64 1) ∧ (w8.alloc (.cells #[.int .i64 0, .int .i64 0] 28)).cell? ⟨gl, 2, none⟩ = some (.bool false) ∧ gl < (w8.alloc (.cells #[.int .i64 0, .int .i64 0] 28)).heap.size from ⟨(hb.cell HL.out.2.2).trans HL.out.1, (hb.cell HL.out.2.2).trans HL.out.2.1, Nat.lt_of_lt_of_le HL.out.2.2 hb.size⟩)
 have KB := A_ (L_new_bad (b := []) (A := none) (c := 0) (rn := 0) (rg := 0) (most := 0) (w := w8.alloc (.cells #[.int .i64 0, .int .i64 0] 28)) (Kd.F_now (Kd.F_nil k69 _ (fun _ => True))) (by simp) (fun x hx => by simp at hx) (by decide))
 rw [show newE [] 0 0 0 = 2 from rfl] at KB
 clear hb
 go_wp2_with fail
 refine Calls.mono KB.out ?_
 rintro e w9 ⟨rfl, hb⟩
 replace HB := A_ (HB.out.trans (hb.mono HB.out.size))
 replace HA := A_ (blk_below HA.out hb)
 replace HN := A_ (blk_below HN.out hb)
 replace HK := A_ (HK.out.below hb)
 have l1 := (hb.cell HL.out.2.2).trans HL.out.1
 have l2 := (hb.cell HL.out.2.2).trans HL.out.2.1
 have hgl : gl < w9.heap.size := Nat.lt_of_lt_of_le HL.out.2.2 hb.size
 have KD := A_ (L_dirty HK.out st_ok.2.2.2.2 (by decide))
 rw [st4_d] at KD
 clear hb KB HL
 obtain ⟨a0, a1⟩ := box2 HA.out
 obtain ⟨b0, b1⟩ := box2 HN.out
 have hlA := blk_lt HA.out
 have hlB := blk_lt HN.out
 go_wp2_with fail
 refine Calls.mono KD.out ?_
 rintro e w10 ⟨rfl, hb⟩
 replace HB := A_ (HB.out.trans (hb.mono HB.out.size))
 replace HA := A_ (blk_below HA.out hb)
 clear KD a0 a1 b0 b1 hlA hlB l1 l2 hgl hb HK HN
 obtain ⟨a0, a1⟩ := box2 HA.out
 have hlA := blk_lt HA.out
 go_wp2_with fail
 refine Calls.mono (put_nil 1 0 z35 none 0 none 0 w10) ?_
 rintro e w11 ⟨rfl, hb⟩
 replace HB := A_ (HB.out.trans (hb.mono HB.out.size))
 clear a0 a1 hlA hb HA
 go_wp2_with fail
 refine Calls.mono (settle_nil w11) ?_
 rintro e w12 ⟨rfl, rfl⟩
 go_wp2_with fail
 refine Calls.mono (reset_nil _) ?_
 rintro e w13 ⟨rfl, rfl⟩
 go_wp2_with fail
 refine Calls.mono (dirty_nil _) ?_
 rintro e w14 ⟨rfl, hb⟩
 replace HB := A_ (HB.out.trans (hb.mono HB.out.size))
 clear hb
 go_wp2_with fail
 refine Calls.mono (slots_nil _) ?_
 rintro e w15 ⟨rfl, rfl⟩
 go_wp2_with fail
 refine Calls.mono (changes_nil _) ?_
 rintro e w16 ⟨rfl, rfl⟩
 go_wp2_with fail
 refine Calls.mono (root_nil _) ?_
 rintro e w17 ⟨rfl, hb⟩
 replace HB := A_ (HB.out.trans (hb.mono HB.out.size))
 clear hb
 go_wp2
 go_ret
 exact ⟨rfl, HB.out⟩
end Go.Proofs.Ytogpnkkoablmiaa.V
end
