/- Parts of the proof: what the theorem reaches, put together by a program of this session. -/
import Derived.ArgAppend
import Derived.Below
import Derived.BigGuardPart
import Derived.BigQuiet
import Derived.BigRegion
import Derived.Deep.AppendLies
import Derived.Deep.CutBlock
import Derived.Deep.DeepCutAuto
import Derived.Deep.Draws
import Derived.Deep.LoopGhost
import Derived.Deep.OwnRows
import Derived.Deep.QuietTactic
import Derived.Deep.RegionHeld3
import Derived.Deep.RegionLaw
import Derived.KernelRfl
import Derived.Laws.BitsLemmas
import Derived.Laws.BytesArg
import Derived.Laws.IdiomCopy
import Derived.Laws.MakeOwn
import Derived.Laws.OwnMore
import Derived.Laws.Rows
import Derived.Laws.Slices
import Derived.Laws.StructEq
import Derived.Lib.AppendIntMem
import Derived.Lib.AppendStr
import Derived.Lib.Bytealg
import Derived.Lib.ConvBytes
import Derived.Lib.Hide
import Derived.Lib.OwnBridge
import Derived.Lib.SliceRun
import Derived.Maps.AppendAt
import Derived.Maps.OwnOps
import Derived.Maps.Views
import Derived.OrdersHeld
import Derived.Outline
import Derived.OwnWalk
import Derived.RowKit
import Derived.RowKit3
import Derived.Shelf.SlSortCmp.KitK
import Derived.Shelf.Spec.SlicesInsertGrow
import Derived.Sort.LotA
import Derived.Sort.WalkB12
import Derived.Sort.WalkB2
import Derived.Tactics
import Derived.Test.YtogpnkkoablmiaaProg
import Derived.WalkKit
import Derived.WalkLawsBesides
import Derived.WideLaws
import Derived.Test.YtogpnkkoablmiaaBL1
import Derived.Test.YtogpnkkoablmiaaBL2
import Derived.Test.YtogpnkkoablmiaaBL3
import Derived.Test.YtogpnkkoablmiaaBL4
import Derived.Test.YtogpnkkoablmiaaBL5
import Derived.Test.YtogpnkkoablmiaaBL6
import Derived.Test.YtogpnkkoablmiaaBL7
import Derived.Test.YtogpnkkoablmiaaBL9
import Derived.Test.YtogpnkkoablmiaaBL10
import Derived.Test.YtogpnkkoablmiaaBL11
import Derived.Test.YtogpnkkoablmiaaBL12
import Derived.Test.YtogpnkkoablmiaaBL13
import Derived.Test.YtogpnkkoablmiaaBL14
import Derived.Test.YtogpnkkoablmiaaBL16
section
namespace Go.Proofs.Ytogpnkkoablmiaa.V
open Go.Shelf Go.RowKit Go.Lib Go.Sort Go.Proofs.Ytogpnkkoablmiaa.Q Go.Proofs.YtogpnkkoablmiaaW.PrintWords Go.Proofs.YtogpnkkoablmiaaW.PrintLast Go.Proofs.YtogpnkkoablmiaaW.PrintMore
set_option linter.unusedVariables false
set_option linter.unusedSimpArgs false
def At (w : World) (g N : Nat) (f : Nat → Value) : Prop := ∀ j, j < N → w.cell? ⟨g, j, none⟩ = some (f j) ∧ w.frozen? ⟨g, j, none⟩ = false
theorem At.set {w : World} {g N : Nat} {f : Nat → Value} (h : At w g N f) (o : Nat) (vs : List Value) (hl : o + vs.length ≤ N) (f' : Nat → Value)
    (h1 : ∀ j, j < N → ¬ (o ≤ j ∧ j < o + vs.length) → f' j = f j) (h2 : ∀ j (hj : j < vs.length), f' (o + j) = vs[j]) : At (w.setCells g o vs) g N f' := by
  intro j hj
  refine ⟨?_, by rw [World.frozen?_setCells]; exact (h j hj).2⟩
  by_cases hin : o ≤ j ∧ j < o + vs.length
  · have := World.cell?_setCells_in g vs o w (fun t ht => by rw [(h (o + t) (by omega)).1]; rfl) (j - o) (by omega)
    rw [show o + (j - o) = j by omega] at this
    rw [this, ← h2 (j - o) (by omega), show o + (j - o) = j by omega]
  · rw [World.cell?_setCells_out g vs o w ⟨g, j, none⟩ (fun _ _ => by show j < o ∨ o + vs.length ≤ j; omega), (h j hj).1, h1 j hj hin]
theorem At.mono {w : World} {g N M : Nat} {f : Nat → Value} (h : At w g N f) (hM : M ≤ N) : At w g M f := fun j hj => h j (by omega)
theorem At.congr {w : World} {g N : Nat} {f f' : Nat → Value} (h : At w g N f) (he : ∀ j, j < N → f j = f' j) : At w g N f' := fun j hj => ⟨by rw [(h j hj).1, he j hj], (h j hj).2⟩
def cut (f : Nat → Value) (o n : Nat) : List Value := (List.range n).map fun t => f (o + t)
theorem cut_len (f : Nat → Value) (o n : Nat) : (cut f o n).length = n := by simp [cut]
theorem cut_get (f : Nat → Value) (o n j : Nat) (hj : j < n) : (cut f o n)[j]? = some (f (o + j)) := by simp [cut, hj]
theorem cut_el (f : Nat → Value) (o n j : Nat) (hj : j < (cut f o n).length) : (cut f o n)[j] = f (o + j) := by simp [cut]
theorem cut_one {f : Nat → Value} {N : Nat} (h : ∀ j, j < N → (f j).oneCell' = true) {o n : Nat} (hn : o + n ≤ N) : ∀ u ∈ cut f o n, u.oneCell' = true := by
  intro u hu
  obtain ⟨t, ht, rfl⟩ := List.mem_map.1 hu
  exact h _ (by have := List.mem_range.1 ht; omega)
def Chg (g : Nat) (w w' : World) : Prop := (∀ B, B ≤ g → B ≤ w.heap.size → RowKit.Below B w w') ∧ w.heap.size ≤ w'.heap.size ∧ ∀ b, b < w.heap.size → b ≠ g → w'.heap[b]? = w.heap[b]?
theorem Chg.refl (g : Nat) (w : World) : Chg g w w := ⟨fun _ _ _ => RowKit.Below.refl _ _, Nat.le_refl _, fun _ _ _ => rfl⟩
theorem Chg.drew {g : Nat} {w W : World} (h : Chg g w W) : Chg g w W.drew := ⟨fun B h1 h2 => (h.1 B h1 h2).trans ⟨rfl, rfl, rfl, Nat.le_refl _, fun _ _ => rfl⟩, h.2.1, h.2.2⟩
theorem Chg.cell {g b : Nat} {w W : World} (h : Chg g w W) (hb : b = g ∨ w.heap.size ≤ b) (o : Nat) (v : Value) : Chg g w (W.setCell ⟨b, o, none⟩ v) :=
  ⟨fun B h1 h2 => (h.1 B h1 h2).setCell (p := ⟨b, o, none⟩) (by show B ≤ b; omega) v, by rw [World.size_setCell]; exact h.2.1, fun k hk hg => (RowKit.Below.heap_setCell W ⟨b, o, none⟩ v k (by show k ≠ b; omega)).trans (h.2.2 k hk hg)⟩
theorem Chg.cells {g b : Nat} {w : World} (hb : b = g ∨ w.heap.size ≤ b) : ∀ (vs : List Value) (o : Nat) (W : World), Chg g w W → Chg g w (W.setCells b o vs)
  | [], _, _, h => h
  | v :: r, o, W, h => Chg.cells hb r (o + 1) _ (h.cell hb o v)
theorem Chg.alloc {g : Nat} {w W : World} (h : Chg g w W) (o : Obj) : Chg g w (W.alloc o) :=
  ⟨fun B h1 h2 => (h.1 B h1 h2).trans (RowKit.Below.mono (below_alloc (RowKit.Below.refl W.heap.size W) o) (Nat.le_trans h2 h.2.1)), by rw [World.size_alloc]; have := h.2.1; omega, fun k hk hg => by
    rw [← h.2.2 k hk hg]
    exact (below_alloc (RowKit.Below.refl W.heap.size W) o).block k (Nat.lt_of_lt_of_le hk h.2.1)⟩
set_option maxHeartbeats 8000000 in
set_option maxRecDepth 1000000 in
theorem delete_calls (g n cap i jj : Nat) (f : Nat → Value) (w : World) (hA : At w g (n * 7) f) (h1 : ∀ j, j < n * 7 → (f j).oneCell' = true) (hi : i < n) (hj : jj = i + 1) (hc : n ≤ cap) (hm : cap ≤ 9223372036854775807) :
    Calls Try.prog 125 #[.slice (some ⟨g, 0, none⟩) n cap, .int .i64 i, .int .i64 jj] w fun e w' => e = .returned (.slice (some ⟨g, 0, none⟩) (n - 1) cap) ∧ At w' g ((n - 1) * 7) (fun j => if j < i * 7 then f j else f (j + 7)) ∧ Chg g w w' := by
  obtain ⟨i0, hi0, hz0, hz1, hz2⟩ := info_parts info89
  obtain ⟨news, hnews⟩ : ∃ news, news = cut f (jj * 7) ((n - jj) * 7) := ⟨_, rfl⟩
  have hlen : news.length = (n - jj) * 7 := by rw [hnews, cut_len]
  obtain ⟨A, hAd, hsrc⟩ : ∃ A : Addr, (if cap = jj then some (⟨g, 0, none⟩ : Addr) else some ⟨g, jj * 7, none⟩) = some A ∧ Hid (∀ t u, news[t]? = some u → w.drew.cell? (A.add t) = some u) := by
    by_cases h : cap = jj
    · refine ⟨⟨g, 0, none⟩, by simp [h], fun t u hu => ?_⟩
      have h0 : news.length = 0 := by rw [hlen]; omega
      rw [List.length_eq_zero_iff.1 h0] at hu
      simp at hu
    · refine ⟨⟨g, jj * 7, none⟩, by simp [h], fun t u hu => ?_⟩
      have ht : t < (n - jj) * 7 := by
        have := (List.getElem?_eq_some_iff.1 hu).1
        rwa [hlen] at this
      rw [hnews, cut_get _ _ _ _ ht] at hu
      rw [Addr.add_lit, ← hu]
      exact (hA (jj * 7 + t) (by omega)).1
  have s1 : Hid (news.length = (n - jj) * 7) := hlen
  have s2 : Hid (∀ u ∈ news, u.oneCell' = true) := by rw [hnews]; exact cut_one h1 (by omega)
  have s3 : Hid (∀ t, t < news.length → (w.drew.cell? ⟨g, 0 + i * 7 + t, none⟩).isSome = true ∧ w.drew.frozen? ⟨g, 0 + i * 7 + t, none⟩ = false) := by
    intro t ht
    rw [hlen] at ht
    rw [Nat.zero_add]
    exact ⟨by show (w.cell? _).isSome = true; rw [(hA (i * 7 + t) (by omega)).1]; rfl, (hA (i * 7 + t) (by omega)).2⟩
  obtain ⟨W1, hW1⟩ : ∃ W1, W1 = w.drew.setCells g (0 + i * 7) news := ⟨_, rfl⟩
  have hA1 : At W1 g (n * 7) (fun j => if j < i * 7 then f j else if j < (n - 1) * 7 then f (j + 7) else f j) := by
    rw [hW1, Nat.zero_add]
    refine At.set (f := f) (w := w.drew) hA (i * 7) news (by rw [hlen]; omega) _ (fun j h2 h3 => ?_) (fun j h2 => ?_)
    · rw [hlen] at h3
      show (if j < i * 7 then f j else if j < (n - 1) * 7 then f (j + 7) else f j) = f j
      split
      · rfl
      · rw [if_neg (by omega)]
    · rw [hlen] at h2
      show (if i * 7 + j < i * 7 then f (i * 7 + j) else if i * 7 + j < (n - 1) * 7 then f (i * 7 + j + 7) else f (i * 7 + j)) = news[j]
      rw [if_neg (by omega), if_pos (by omega)]
      subst hnews
      rw [cut_el, show i * 7 + j + 7 = jj * 7 + j by omega]
  obtain ⟨zs, hzs⟩ : ∃ zs, zs = (Builtin.zeroCells #[.string ⟨#[]⟩, .int .i64 0, .int .i64 0, .int .i64 0, .string ⟨#[]⟩, .slice none 0 0, .slice none 0 0] 1).toList := ⟨_, rfl⟩
  have hzl : zs.length = 7 := by rw [hzs]; simp [Builtin.zeroCells]
  have hm1 : n - (i + (n - jj)) = 1 := by omega
  have hm2 : i + (n - jj) = n - 1 := by omega
  have hcl : ∀ ty, (Builtin.clear_ #[33] ty #[.slice (some ⟨g, (i + (n - jj)) * 7, none⟩) (n - (i + (n - jj))) (cap - (i + (n - jj)))]).run Try.prog W1 = .ok (.tuple #[]) (W1.setCells g ((i + (n - jj)) * 7) zs) := fun ty => by
    rw [hm1, hm2, hzs]
    exact clear_rows famC Try.underlying33 ty W1 g _ 1 _ (by omega) (fun t ht => by rw [(hA1 _ (by omega)).1]; rfl) (fun t ht => (hA1 _ (by omega)).2)
  have FIN : Hid (At (W1.setCells g ((n - 1) * 7) zs) g ((n - 1) * 7) (fun j => if j < i * 7 then f j else f (j + 7)) ∧ Chg g w (W1.setCells g ((n - 1) * 7) zs)) := by
    refine ⟨?_, ?_⟩
    · intro j h2
      have := (At.set hA1 ((n - 1) * 7) zs (by rw [hzl]; omega) (fun j => if j < (n - 1) * 7 then (if j < i * 7 then f j else f (j + 7)) else zs.getD (j - (n - 1) * 7) default) (fun j h3 h4 => by
        rw [hzl] at h4
        show (if j < (n - 1) * 7 then (if j < i * 7 then f j else f (j + 7)) else _) = (if j < i * 7 then f j else if j < (n - 1) * 7 then f (j + 7) else f j)
        rw [if_pos (by omega)]
        split
        · rfl
        · rw [if_pos (by omega)]) (fun j h3 => by
        show (if (n - 1) * 7 + j < (n - 1) * 7 then _ else zs.getD ((n - 1) * 7 + j - (n - 1) * 7) default) = zs[j]
        rw [if_neg (by omega), Nat.add_sub_cancel_left, List.getD_eq_getElem?_getD, List.getElem?_eq_getElem h3]
        rfl)) j (by omega)
      refine ⟨this.1.trans ?_, this.2⟩
      show some (if j < (n - 1) * 7 then (if j < i * 7 then f j else f (j + 7)) else _) = some (if j < i * 7 then f j else f (j + 7))
      rw [if_pos h2]
    · refine Chg.cells (.inl rfl) _ _ _ ?_
      rw [hW1]
      exact Chg.cells (.inl rfl) _ _ _ (Chg.refl _ _).drew
  rw [← hm2] at FIN ⊢
  have hW : Hid (W1 = w.drew.setCells g (0 + i * 7) news) := hW1
  have hic : i ≤ cap := by omega
  have hjc : jj ≤ cap := by omega
  have hjn : jj ≤ n := by omega
  have hij : ¬ i = jj := by omega
  have hij2 : i ≤ jj := by omega
  have hmc : i + (n - jj) ≤ n := by omega
  have hmc2 : i + (n - jj) ≤ cap := by omega
  have hu33 := Try.underlying33
  have mixed := famTry.mixed
  have HJ := Lib.hid hj
  clear hW1 hA1 hA hnews hlen hzs hzl hj hm1 hm2
  go_enter Try.func125, Try.ntmps125
  go_wp2_with fail
  go_region_law_o (refine step_append_room rfl (.tmp 22) (.tmp 25) 33 rfl 89 i0 7 hu33 hi0 hz1 g 0 i cap (by simp [Act.eval, Act.put]) A (n - jj) (cap - jj) news (by simp [Act.eval, Act.put]) s1.out hsrc.out s2.out (by omega) s3.out ?_; rw [← hW.out])
  go_wp2
  go_ret
  exact ⟨rfl, FIN.out⟩
theorem copy_rows {P : Program} (w : World) (dT sT ty elem : TypeId) (k b o dLen dCap : Nat) (a : Addr) (sLen sCap n : Nat) (cs : List Value)
    (hu : P.underlying dT = some (.slice elem)) (hs : (P.info? elem).map (·.size) = some k) (hn : n = Nat.min sLen dLen) (hl : cs.length = n * k)
    (hsrc : ∀ j v, cs[j]? = some v → w.cell? (a.add j) = some v) (hc : ∀ j, j < cs.length → (w.cell? ⟨b, o + j, none⟩).isSome = true) (hf : ∀ j, j < cs.length → w.frozen? ⟨b, o + j, none⟩ = false) (h1 : ∀ v ∈ cs, v.oneCell' = true) :
    (Builtin.copy_ #[dT, sT] ty #[.slice (some ⟨b, o, none⟩) dLen dCap, .slice (some a) sLen sCap]).run P w = .ok (goInt n) (w.setCells b o cs) := by
  have hld := run_loadCells_list (P := P) w a cs hsrc
  have hst := run_storeCells_cells (P := P) b o cs 0 w (by simpa using hc) (by simpa using hf) h1
  rw [hl] at hld
  cases hq : P.info? elem with
  | none => simp [hq] at hs
  | some i =>
    have hi : i.size = k := by simpa [hq] using hs
    simp [Builtin.copy_, run_underlying hu, Builtin.lenOf, Builtin.firstCells, sizeOf, typeInfo, hq, hi, ← hn, hld, hst]
def insf (f vf : Nat → Value) (i : Nat) : Nat → Value := fun j => if j < i * 7 then f j else if j < i * 7 + 7 then vf (j - i * 7) else f (j - 7)
def InsPost (g n i : Nat) (f vf : Nat → Value) (w : World) (e : Ending) (w' : World) : Prop :=
  ∃ g' cap', e = .returned (.slice (some ⟨g', 0, none⟩) (n + 1) cap') ∧ (g' = g ∨ g' = w.heap.size) ∧ n + 1 ≤ cap' ∧ cap' ≤ 9223372036854775807 ∧ At w' g' ((n + 1) * 7) (insf f vf i) ∧ Chg g w w'
theorem size89 : (Try.prog.info? 89).map (·.size) = some 7 := by
  obtain ⟨i0, hi0, hz0, hz1, hz2⟩ := info_parts info89
  rw [hi0]; simp [hz1]
set_option maxHeartbeats 8000000 in
set_option maxRecDepth 1000000 in
theorem ins_shift (g n c i vb : Nat) (f vf : Nat → Value) (w : World) (hi : i < n) (hroom : n + 1 ≤ c) (hc63 : c ≤ 9223372036854775807) (hvb : vb ≠ g) (hA : At w g ((n + 1) * 7) f) (h1 : ∀ j, j < n * 7 → (f j).oneCell' = true)
    (hV : At w vb 7 vf) (h1v : ∀ j, j < 7 → (vf j).oneCell' = true) (tA tB : TypeId) (kA kB : Nat) (hsa : w.shape? vb = some (tA, kA)) (hsb : w.shape? g = some (tB, kB)) (hkB : kB ≠ 0) (hfa : w.frozen? ⟨vb, 0, none⟩ = false) (hfe : w.frozen? ⟨vb, kA, none⟩ = false) :
    Calls Try.prog 126 #[.slice (some ⟨g, 0, none⟩) n c, .int .i64 i, .slice (some ⟨vb, 0, none⟩) 1 1] w (InsPost g n i f vf w) := by
  have hu33 := Try.underlying33
  have mixed := famTry.mixed
  have hsz := size89
  have hz2 : ¬ ((i : Int) = (n : Int)) := by omega
  have hov : ∀ lb cb, (callFunc 165 #[.slice (some ⟨vb, 0, none⟩) 1 1, .slice (some ⟨g, (i + 1) * 7, none⟩) lb cb]).run Try.prog w = .ok (.value (.bool false)) w := fun lb cb => by
    rw [run_callFunc_extern Try.func165 (by kernel_rfl) (by kernel_rfl) (by kernel_rfl) (e := Extern.SlicesOverlaps.overlaps #[33, 33] #[4]) (by kernel_rfl),
      Lib.run_overlaps_apart w 33 4 89 Try.underlying33 7 (fun w => by kernel_rfl) ⟨vb, 0, none⟩ ⟨g, (i + 1) * 7, none⟩ 1 1 lb cb hvb tA tB kA kB hsa hsb hkB hfa hfe]
    rfl
  have hw1 : IntKind.i64.wrap ((i : Int) + (1 : Int)) = (i : Int) + (1 : Int) := by rw [IntKind.wrap_i64]; omega
  have hb1 : (0 : Int) ≤ (i : Int) + (1 : Int) := by omega
  have hin : i ≤ n := by omega
  have htn : ((i : Int) + (1 : Int)).toNat = i + 1 := by omega
  have hb2 : ¬ (c = i + 1) := by omega
  have hb3 : (i : Int) ≤ (n : Int) + (1 : Int) := by omega
  have hb4 : ¬ (c = i) := by omega
  have hcp1 : ∀ ty dc sc, (Builtin.copy_ #[33, 33] ty #[.slice (some ⟨g, (i + 1) * 7, none⟩) (n - i) dc, .slice (some ⟨g, i * 7, none⟩) (n + 1 - i) sc]).run Try.prog w.drew = .ok (goInt ((n - i : Nat) : Int)) (w.drew.setCells g ((i + 1) * 7) (cut f (i * 7) ((n - i) * 7))) := fun ty dc sc =>
    copy_rows w.drew 33 33 ty 89 7 g ((i + 1) * 7) (n - i) dc ⟨g, i * 7, none⟩ (n + 1 - i) sc (n - i) (cut f (i * 7) ((n - i) * 7)) hu33 hsz (by simp only [Nat.min_def]; split <;> omega) (cut_len _ _ _)
      (fun j v hj => by
        have hj2 : j < (n - i) * 7 := by have := (List.getElem?_eq_some_iff.1 hj).1; rwa [cut_len] at this
        rw [cut_get _ _ _ _ hj2] at hj
        rw [Addr.add_lit, ← hj]
        exact (hA (i * 7 + j) (by omega)).1)
      (fun j hj => by rw [cut_len] at hj; show (w.cell? _).isSome = true; rw [(hA ((i + 1) * 7 + j) (by omega)).1]; rfl) (fun j hj => by rw [cut_len] at hj; exact (hA ((i + 1) * 7 + j) (by omega)).2) (cut_one h1 (by omega))
  obtain ⟨W1, hW1⟩ : ∃ W1, W1 = w.drew.setCells g ((i + 1) * 7) (cut f (i * 7) ((n - i) * 7)) := ⟨_, rfl⟩
  have hA1 : At W1 g ((n + 1) * 7) (fun j => if j < (i + 1) * 7 then f j else f (j - 7)) := by
    rw [hW1]
    refine At.set (w := w.drew) (f := f) hA _ _ (by rw [cut_len]; omega) _ (fun j h2 h3 => ?_) (fun j h2 => ?_)
    · rw [cut_len] at h3
      show (if j < (i + 1) * 7 then f j else f (j - 7)) = f j
      rw [if_pos (by omega)]
    · show (if (i + 1) * 7 + j < (i + 1) * 7 then _ else f ((i + 1) * 7 + j - 7)) = _
      rw [if_neg (by omega), cut_el, show (i + 1) * 7 + j - 7 = i * 7 + j by omega]
  have hV1 : ∀ j, j < 7 → W1.cell? ⟨vb, j, none⟩ = some (vf j) := fun j hj => by
    rw [hW1, World.cell?_setCells_out g _ _ _ ⟨vb, j, none⟩ (fun h _ => absurd h hvb)]
    exact (hV j hj).1
  have hcp2 : ∀ ty dc, (Builtin.copy_ #[33, 33] ty #[.slice (some ⟨g, i * 7, none⟩) (n + 1 - i) dc, .slice (some ⟨vb, 0, none⟩) 1 1]).run Try.prog W1 = .ok (goInt ((1 : Nat) : Int)) (W1.setCells g (i * 7) (cut vf 0 7)) := fun ty dc =>
    copy_rows W1 33 33 ty 89 7 g (i * 7) (n + 1 - i) dc ⟨vb, 0, none⟩ 1 1 1 (cut vf 0 7) hu33 hsz (by simp only [Nat.min_def]; split <;> omega) (cut_len _ _ _)
      (fun j v hj => by
        have hj2 : j < 7 := by have := (List.getElem?_eq_some_iff.1 hj).1; rwa [cut_len] at this
        rw [cut_get _ _ _ _ hj2] at hj
        rw [Addr.add_lit, ← hj]
        show W1.cell? ⟨vb, 0 + j, none⟩ = _
        rw [Nat.zero_add]
        exact hV1 j hj2)
      (fun j hj => by rw [cut_len] at hj; rw [(hA1 (i * 7 + j) (by omega)).1]; rfl) (fun j hj => by rw [cut_len] at hj; exact (hA1 (i * 7 + j) (by omega)).2) (cut_one h1v (by omega))
  have FIN : Hid (At (W1.setCells g (i * 7) (cut vf 0 7)) g ((n + 1) * 7) (insf f vf i) ∧ Chg g w (W1.setCells g (i * 7) (cut vf 0 7))) := by
    refine ⟨At.set hA1 _ _ (by rw [cut_len]; omega) _ (fun j h2 h3 => ?_) (fun j h2 => ?_), ?_⟩
    · rw [cut_len] at h3
      show insf f vf i j = (if j < (i + 1) * 7 then f j else f (j - 7))
      unfold insf
      by_cases h4 : j < i * 7
      · rw [if_pos h4, if_pos (by omega)]
      · rw [if_neg h4, if_neg (by omega), if_neg (by omega)]
    · have h2' := h2
      rw [cut_len] at h2'
      show insf f vf i (i * 7 + j) = _
      unfold insf
      rw [if_neg (by omega), if_pos (by omega), cut_el, Nat.zero_add, show i * 7 + j - i * 7 = j by omega]
    · refine Chg.cells (.inl rfl) _ _ _ ?_
      rw [hW1]
      exact Chg.cells (.inl rfl) _ _ _ (Chg.refl _ _).drew
  rw [← hW1] at hcp1
  clear hA hA1 hV hV1 hsa hsb hfa hfe hW1 h1 h1v
  go_enter Try.func126, Try.ntmps126
  go_wp2_with (simp only [hov])
  go_region_law_o (refine step_copy_runI rfl _ _ 33 33 rfl _ _ (by simp [Act.eval, Act.put]) (by simp [Act.eval, Act.put]) (hcp1 _ _ _) ?_)
  go_wp2_with (at_builtin; refine wpList_copy_runI _ rfl _ _ 33 33 rfl _ _ rfl rfl (hcp2 _ _) ?_)
  go_ret
  exact ⟨g, c, rfl, .inl rfl, hroom, hc63, FIN.out⟩
theorem at_src {w : World} {g N : Nat} {f : Nat → Value} (h : At w g N f) (o n : Nat) (hn : o + n ≤ N) : ∀ j v, (cut f o n)[j]? = some v → w.cell? ((⟨g, o, none⟩ : Addr).add j) = some v := fun j v hj => by
  have hj2 : j < n := by have := (List.getElem?_eq_some_iff.1 hj).1; rwa [cut_len] at this
  rw [cut_get _ _ _ _ hj2] at hj
  rw [Addr.add_lit, ← hj]
  exact (h (o + j) (by omega)).1
set_option maxHeartbeats 8000000 in
set_option maxRecDepth 1000000 in
theorem ins_end_room (g n c vb : Nat) (f vf : Nat → Value) (w : World) (hroom : n + 1 ≤ c) (hc63 : c ≤ 9223372036854775807) (hA : At w g ((n + 1) * 7) f) (hV : At w vb 7 vf) (h1v : ∀ j, j < 7 → (vf j).oneCell' = true) :
    Calls Try.prog 126 #[.slice (some ⟨g, 0, none⟩) n c, .int .i64 n, .slice (some ⟨vb, 0, none⟩) 1 1] w (InsPost g n n f vf w) := by
  have hu33 := Try.underlying33
  have mixed := famTry.mixed
  obtain ⟨i0, hi0, hz0, hz1, hz2⟩ := info_parts info89
  have hrun : ∀ ty, (Builtin.append_ #[33, 33] ty #[.slice (some ⟨g, 0, none⟩) n c, .slice (some ⟨vb, 0, none⟩) 1 1]).run Try.prog w = .ok (.slice (some ⟨g, 0, none⟩) (n + 1) c) (w.setCells g (n * 7) (cut vf 0 7)) := fun ty => by
    have h := run_append_room_cells (P := Try.prog) w 33 ty 89 i0 hu33 hi0 g 0 n c ⟨vb, 0, none⟩ 1 1 (cut vf 0 7) (by rw [cut_len, hz1]) (at_src hV 0 7 (by omega)) (cut_one h1v (by omega)) hroom
      (fun j hj => by rw [cut_len] at hj; rw [hz1, Nat.zero_add, (hA (n * 7 + j) (by omega)).1]; rfl) (fun j hj => by rw [cut_len] at hj; rw [hz1, Nat.zero_add]; exact (hA (n * 7 + j) (by omega)).2)
    rw [hz1, Nat.zero_add] at h
    exact h
  have FIN : Hid (At (w.setCells g (n * 7) (cut vf 0 7)) g ((n + 1) * 7) (insf f vf n) ∧ Chg g w (w.setCells g (n * 7) (cut vf 0 7))) := by
    refine ⟨At.set hA _ _ (by rw [cut_len]; omega) _ (fun j h2 h3 => ?_) (fun j h2 => ?_), Chg.cells (.inl rfl) _ _ _ (Chg.refl _ _)⟩
    · rw [cut_len] at h3
      unfold insf
      rw [if_pos (by omega)]
    · have h2' := h2
      rw [cut_len] at h2'
      show insf f vf n (n * 7 + j) = _
      unfold insf
      rw [if_neg (by omega), if_pos (by omega), cut_el, Nat.zero_add, show n * 7 + j - n * 7 = j by omega]
  clear hA hV h1v
  go_enter Try.func126, Try.ntmps126
  go_wp2_with (at_builtin; refine Lib.wpList_append_run _ rfl _ _ _ _ rfl _ _ rfl rfl _ _ (hrun _) ?_)
  go_ret
  exact ⟨g, c, rfl, .inl rfl, hroom, hc63, FIN.out⟩
theorem at_new (w : World) (cs : Array Value) (N : Nat) (f : Nat → Value) (T : TypeId) (hN : N ≤ cs.size) (h : ∀ j (hj : j < N), cs[j]'(by omega) = f j) : At (w.alloc (.cells cs T)) w.heap.size N f := fun j hj =>
  ⟨by rw [World.cell?_alloc_at (w := w) cs _ w.heap.size j rfl, Array.getElem?_eq_getElem (by omega), h j hj], World.frozen?_alloc_at (w := w) cs _ w.heap.size j rfl⟩
set_option maxHeartbeats 8000000 in
set_option maxRecDepth 1000000 in
theorem ins_end_grow (base : Option Addr) (g n c vb : Nat) (f vf : Nat → Value) (w : World) (hb : (base = none ∧ n = 0) ∨ base = some ⟨g, 0, none⟩) (hnc : n ≤ c) (hroom : c < n + 1) (hbig : n ≤ 1000000) (hA : base ≠ none → At w g (n * 7) f) (hV : At w vb 7 vf) (h1v : ∀ j, j < 7 → (vf j).oneCell' = true) :
    Calls Try.prog 126 #[.slice base n c, .int .i64 n, .slice (some ⟨vb, 0, none⟩) 1 1] w (InsPost g n n f vf w) := by
  have hu33 := Try.underlying33
  have mixed := famTry.mixed
  obtain ⟨i0, hi0, hz0, hz1, hz2⟩ := info_parts info89
  have hsrc : Src Try.prog i0.size 33 (.slice (some ⟨vb, 0, none⟩) 1 1) 1 (cut vf 0 7) w := by
    rw [hz1]
    exact Src.ofSlice w hu33 ⟨vb, 0, none⟩ 1 1 _ (by rw [cut_len]) (at_src hV 0 7 (by omega)) (cut_one h1v (by omega))
  have hold : (Builtin.firstCells i0.size n (.slice base n c)).run Try.prog w.drew = .ok (cut f 0 (n * 7)).toArray w.drew := by
    rw [hz1]
    rcases hb with ⟨rfl, rfl⟩ | rfl
    · exact run_firstCells_none w.drew 7 0 0 c
    · exact run_firstCells_some w.drew 7 n ⟨g, 0, none⟩ n c _ (by rw [cut_len]) (at_src (w := w.drew) (hA (by simp)) 0 (n * 7) (by omega))
  have hrun : ∀ ty, (Builtin.append_ #[33, 33] ty #[.slice base n c, .slice (some ⟨vb, 0, none⟩) 1 1]).run Try.prog w = _ := fun ty =>
    run_append_grow_src w 33 33 ty 89 i0 _ hu33 hi0 hz0 base n c _ hold _ 1 _ hsrc hroom (by omega) (by rw [hz2]; exact growslice_fits hroom (by omega))
  obtain ⟨G, hG⟩ : ∃ G, G = grownCap w (n + 1) c 89 := ⟨_, rfl⟩
  have hGn : n + 1 ≤ G := by rw [hG]; exact grownCap_ge w _ _ _
  have hG63 : G ≤ 9223372036854775807 := by
    have := grownCap_le_maxLen w (n + 1) c 89 (by unfold maxLen; omega)
    rw [← hG] at this
    unfold maxLen at this
    omega
  rw [← hG] at hrun
  obtain ⟨row, hrow⟩ : ∃ row, row = (cut f 0 (n * 7) ++ cut vf 0 7).toArray ++ Builtin.zeroCells (Value.agg #[.string ⟨#[]⟩, .int .i64 0, .int .i64 0, .int .i64 0, .string ⟨#[]⟩, .slice none 0 0, .slice none 0 0]).cells (G - (n + 1)) := ⟨_, rfl⟩
  rw [← hrow] at hrun
  have hl : (cut f 0 (n * 7) ++ cut vf 0 7).toArray.size = (n + 1) * 7 := by simp [cut_len]; omega
  have FIN : Hid (At (w.drew.alloc (.cells row 89)) w.heap.size ((n + 1) * 7) (insf f vf n) ∧ Chg g w (w.drew.alloc (.cells row 89))) := by
    refine ⟨at_new w.drew row _ _ _ (by rw [hrow, Array.size_append, hl]; omega) (fun j hj => ?_), ?_⟩
    · subst hrow
      rw [Array.getElem_append_left (by rw [hl]; exact hj)]
      unfold insf
      by_cases h4 : j < n * 7
      · rw [if_pos h4, List.getElem_toArray, List.getElem_append_left (by rw [cut_len]; exact h4), cut_el, Nat.zero_add]
      · rw [if_neg h4, if_pos (by omega), List.getElem_toArray, List.getElem_append_right (by rw [cut_len]; omega), cut_el, Nat.zero_add, cut_len]
    · exact (Chg.refl g w).drew.alloc _
  clear hA hV h1v hold hsrc hrow hl hG
  go_enter Try.func126, Try.ntmps126
  rcases hb with ⟨rfl, rfl⟩ | rfl
  · go_wp2_with (at_builtin; refine Lib.wpList_append_run _ rfl _ _ _ _ rfl _ _ rfl rfl _ _ (hrun _) ?_)
    go_ret
    exact ⟨_, G, rfl, .inr rfl, hGn, hG63, FIN.out⟩
  · go_wp2_with (at_builtin; refine Lib.wpList_append_run _ rfl _ _ _ _ rfl _ _ rfl rfl _ _ (hrun _) ?_)
    all_goals (go_ret; exact ⟨_, G, rfl, .inr rfl, hGn, hG63, FIN.out⟩)
theorem below_drew (B : Nat) (w : World) : RowKit.Below B w w.drew := ⟨rfl, rfl, rfl, Nat.le_refl _, fun _ _ => rfl⟩
set_option maxHeartbeats 8000000 in
set_option maxRecDepth 1000000 in
theorem ins_grow (g n c i vb : Nat) (f vf : Nat → Value) (w : World) (hi : i < n) (hnc : n ≤ c) (hroom : c < n + 1) (hbig : n ≤ 1000000) (hA : At w g (n * 7) f) (h1 : ∀ j, j < n * 7 → (f j).oneCell' = true) (hV : At w vb 7 vf) (h1v : ∀ j, j < 7 → (vf j).oneCell' = true) (hgw : g < w.heap.size) (hvw : vb < w.heap.size) :
    Calls Try.prog 126 #[.slice (some ⟨g, 0, none⟩) n c, .int .i64 i, .slice (some ⟨vb, 0, none⟩) 1 1] w (InsPost g n i f vf w) := by
  have hu33 := Try.underlying33
  have hu3 := Try.underlying3
  have mixed := famTry.mixed
  have hsz := size89
  obtain ⟨i0, hi0, hz0, hzs, hzb⟩ := info_parts info89
  have hz2 : ¬ ((i : Int) = (n : Int)) := by omega
  have hz3 : (c : Int) < (n : Int) + (1 : Int) := by omega
  have hkk : (n : Int) + (1 : Int) - (i : Int) = ((n + 1 - i : Nat) : Int) := by omega
  have hik : i + (n + 1 - i) = n + 1 := by omega
  have hold : (Builtin.firstCells i0.size i (.slice (some ⟨g, 0, none⟩) i c)).run Try.prog w.drew = .ok (cut f 0 (i * 7)).toArray w.drew := by
    rw [hzs]
    exact run_firstCells_some w.drew 7 i ⟨g, 0, none⟩ i c _ (by rw [cut_len]) (at_src (w := w.drew) hA 0 (i * 7) (by omega))
  have hrz := fun ty => Lib.run_append_grow_zeros w 33 3 ty 89 i0 _ .i64 .i64 hu33 hu3 hi0 hz0 (some ⟨g, 0, none⟩) i c _ hold (n + 1 - i) (by omega) (by omega) (by omega) (by omega) (by rw [hzb]; omega) (by rw [hzb, hik]; exact growslice_fits hroom (by omega))
  rw [hik, ← hkk] at hrz
  obtain ⟨G, hG⟩ : ∃ G, G = grownCap w (n + 1) c 89 := ⟨_, rfl⟩
  have hGn : n + 1 ≤ G := by rw [hG]; exact grownCap_ge w _ _ _
  have hG63 : G ≤ 9223372036854775807 := by
    have := grownCap_le_maxLen w (n + 1) c 89 (by unfold maxLen; omega)
    rw [← hG] at this
    unfold maxLen at this
    omega
  rw [← hG] at hrz
  obtain ⟨ROW, hROW⟩ : ∃ ROW, ROW = (cut f 0 (i * 7)).toArray ++ Builtin.zeroCells (Value.agg #[.string ⟨#[]⟩, .int .i64 0, .int .i64 0, .int .i64 0, .string ⟨#[]⟩, .slice none 0 0, .slice none 0 0]).cells (n + 1 - i) ++ Builtin.zeroCells (Value.agg #[.string ⟨#[]⟩, .int .i64 0, .int .i64 0, .int .i64 0, .string ⟨#[]⟩, .slice none 0 0, .slice none 0 0]).cells (G - (n + 1)) := ⟨_, rfl⟩
  rw [← hROW] at hrz
  have hRl : (n + 1) * 7 ≤ ROW.size := by
    rw [hROW]
    simp [Builtin.zeroCells, Value.cells, cut_len]
    omega
  obtain ⟨W1, hW1⟩ : ∃ W1, W1 = w.drew.alloc (.cells ROW 89) := ⟨_, rfl⟩
  rw [← hW1] at hrz
  obtain ⟨H, hH⟩ : ∃ H, H = w.heap.size := ⟨_, rfl⟩
  have hHd : w.drew.heap.size = H := hH.symm
  rw [← hH] at hrz
  have hA1 : At W1 H ((n + 1) * 7) (fun j => if j < i * 7 then f j else ROW.getD j default) := by
    rw [hW1, hH]
    refine at_new w.drew ROW _ _ _ hRl (fun j hj => ?_)
    show _ = (if j < i * 7 then f j else ROW.getD j default)
    by_cases h4 : j < i * 7
    · rw [if_pos h4]
      subst hROW
      rw [Array.getElem_append_left (by rw [Array.size_append]; simp [cut_len]; omega), Array.getElem_append_left (by simp [cut_len]; omega), List.getElem_toArray, cut_el, Nat.zero_add]
    · rw [if_neg h4, Array.getD_eq_getD_getElem?, Array.getElem?_eq_getElem (by omega)]
      rfl
  have hO : ∀ b, b < w.heap.size → ∀ j, W1.cell? ⟨b, j, none⟩ = w.cell? ⟨b, j, none⟩ := fun b hb j => by rw [hW1, World.cell?_alloc_past (w := w.drew) _ b j hb]; rfl
  have hcpA : ∀ (W : World), (∀ x, W.cell? x = W1.cell? x) → (∀ x, W.frozen? x = W1.frozen? x) → ∀ ty dc, (Builtin.copy_ #[33, 33] ty #[.slice (some ⟨H, i * 7, none⟩) (n + 1 - i) dc, .slice (some ⟨vb, 0, none⟩) 1 1]).run Try.prog W = .ok (goInt ((1 : Nat) : Int)) (W.setCells H (i * 7) (cut vf 0 7)) := fun W hWc hWf ty dc =>
    copy_rows W 33 33 ty 89 7 H (i * 7) (n + 1 - i) dc ⟨vb, 0, none⟩ 1 1 1 (cut vf 0 7) hu33 hsz (by simp only [Nat.min_def]; split <;> omega) (cut_len _ _ _)
      (fun j v hj => by
        have := at_src hV 0 7 (by omega) j v hj
        rw [hWc]
        rw [Addr.add_lit] at this ⊢
        rw [hO vb hvw]; exact this)
      (fun j hj => by rw [cut_len] at hj; rw [hWc, (hA1 (i * 7 + j) (by omega)).1]; rfl) (fun j hj => by rw [cut_len] at hj; rw [hWf]; exact (hA1 (i * 7 + j) (by omega)).2) (cut_one h1v (by omega))
  obtain ⟨W2, hW2⟩ : ∃ W2, W2 = W1.setCells H (i * 7) (cut vf 0 7) := ⟨_, rfl⟩
  have hA2 : At W2 H ((n + 1) * 7) (fun j => if i * 7 ≤ j ∧ j < i * 7 + 7 then vf (j - i * 7) else if j < i * 7 then f j else ROW.getD j default) := by
    rw [hW2]
    refine At.set hA1 _ _ (by rw [cut_len]; omega) _ (fun j h2 h3 => ?_) (fun j h2 => ?_)
    · rw [cut_len] at h3
      show (if i * 7 ≤ j ∧ j < i * 7 + 7 then vf (j - i * 7) else if j < i * 7 then f j else ROW.getD j default) = (if j < i * 7 then f j else ROW.getD j default)
      rw [if_neg h3]
    · have h2' := h2
      rw [cut_len] at h2'
      show (if i * 7 ≤ i * 7 + j ∧ i * 7 + j < i * 7 + 7 then vf (i * 7 + j - i * 7) else _) = _
      rw [if_pos (by omega), cut_el, Nat.zero_add, show i * 7 + j - i * 7 = j by omega]
  have hcpB : ∀ (W : World), (∀ x, W.cell? x = W2.cell? x) → (∀ x, W.frozen? x = W2.frozen? x) → ∀ ty dc sc, (Builtin.copy_ #[33, 33] ty #[.slice (some ⟨H, (i + 1) * 7, none⟩) (n - i) dc, .slice (some ⟨g, i * 7, none⟩) (n - i) sc]).run Try.prog W = .ok (goInt ((n - i : Nat) : Int)) (W.setCells H ((i + 1) * 7) (cut f (i * 7) ((n - i) * 7))) := fun W hWc hWf ty dc sc =>
    copy_rows W 33 33 ty 89 7 H ((i + 1) * 7) (n - i) dc ⟨g, i * 7, none⟩ (n - i) sc (n - i) (cut f (i * 7) ((n - i) * 7)) hu33 hsz (by simp only [Nat.min_def]; split <;> omega) (cut_len _ _ _)
      (fun j v hj => by
        have := at_src hA (i * 7) ((n - i) * 7) (by omega) j v hj
        rw [hWc]
        rw [Addr.add_lit] at this ⊢
        rw [hW2, World.cell?_setCells_out H _ _ _ _ (fun h _ => by have : g = H := h; omega), hO g hgw]
        exact this)
      (fun j hj => by rw [cut_len] at hj; rw [hWc, (hA2 ((i + 1) * 7 + j) (by omega)).1]; rfl) (fun j hj => by rw [cut_len] at hj; rw [hWf]; exact (hA2 ((i + 1) * 7 + j) (by omega)).2) (cut_one h1 (by omega))
  obtain ⟨W3, hW3⟩ : ∃ W3, W3 = W2.drew.setCells H ((i + 1) * 7) (cut f (i * 7) ((n - i) * 7)) := ⟨_, rfl⟩
  have hA3 : At W3 H ((n + 1) * 7) (insf f vf i) := by
    rw [hW3]
    refine At.set (w := W2.drew) hA2 _ _ (by rw [cut_len]; omega) _ (fun j h2 h3 => ?_) (fun j h2 => ?_)
    · rw [cut_len] at h3
      show insf f vf i j = (if i * 7 ≤ j ∧ j < i * 7 + 7 then vf (j - i * 7) else if j < i * 7 then f j else ROW.getD j default)
      unfold insf
      by_cases h4 : j < i * 7
      · rw [if_pos h4, if_neg (by omega), if_pos h4]
      · rw [if_neg h4, if_pos (by omega), if_pos (by omega)]
    · have h2' := h2
      rw [cut_len] at h2'
      show insf f vf i ((i + 1) * 7 + j) = _
      unfold insf
      rw [if_neg (by omega), if_neg (by omega), cut_el, show (i + 1) * 7 + j - 7 = i * 7 + j by omega]
  have hB3 : Chg g w W3 := by
    rw [hW3, hW2, hW1]
    refine Chg.cells (.inr (by omega)) _ _ _ (Chg.drew ?_)
    refine Chg.cells (.inr (by omega)) _ _ _ ?_
    exact (Chg.refl g w).drew.alloc _
  have hGi : ¬ (G = i) := by omega
  have hGim : ¬ (G = i + 1) := by omega
  have hci : ¬ (c = i) := by omega
  have hw1 : IntKind.i64.wrap ((i : Int) + (1 : Int)) = (i : Int) + (1 : Int) := by rw [IntKind.wrap_i64]; omega
  have hb1 : (0 : Int) ≤ (i : Int) + (1 : Int) := by omega
  have hin : i ≤ n := by omega
  have htn : ((i : Int) + (1 : Int)).toNat = i + 1 := by omega
  have hb3 : (i : Int) ≤ (n : Int) := by omega
  have FIN := Lib.hid (And.intro hA3 hB3)
  have FIN0 := Lib.hid hH
  have cA := hcpA W1 (fun _ => rfl) (fun _ => rfl)
  rw [← hW2] at cA
  have cB := hcpB W2.drew (fun _ => rfl) (fun _ => rfl)
  rw [← hW3] at cB
  clear hkk hik hold hROW hRl hA1 hA2 hA3 hB3 hA hV hO h1 h1v hG hH hcpA hcpB hW1 hW2 hW3
  go_enter Try.func126, Try.ntmps126
  go_wp2_with (at_builtin; refine Lib.wpList_append_run _ rfl (.tmp 34) (.tmp 39) 33 3 rfl _ _ rfl rfl _ _ (hrz _) ?_)
  go_region_law_o (refine step_copy_runI rfl _ _ 33 33 rfl _ _ (by simp [Act.eval, Act.put]) (by simp [Act.eval, Act.put]) (cB _ _ _) ?_)
  go_wp2
  go_ret
  exact ⟨H, G, rfl, .inr FIN0.out, hGn, hG63, FIN.out⟩
end Go.Proofs.Ytogpnkkoablmiaa.V
end
section
namespace Go.Proofs.Ytogpnkkoablmiaa.V
open Go.Shelf Go.RowKit Go.Lib Go.Sort Go.Proofs.Ytogpnkkoablmiaa.Q Go.Proofs.YtogpnkkoablmiaaW.PrintWords Go.Proofs.YtogpnkkoablmiaaW.PrintLast Go.Proofs.YtogpnkkoablmiaaW.PrintMore
set_option linter.unusedVariables false
set_option linter.unusedSimpArgs false
noncomputable def rowf (rps : List RP) (j : Nat) : Value := (encP (rps.getD (j / 7) default)).getD (j % 7) default
theorem rowf_one (rps : List RP) (j : Nat) : (rowf rps j).oneCell' = true := by
  unfold rowf
  have h : j % 7 < (encP (rps.getD (j / 7) default)).length := by rw [encP_len]; omega
  rw [List.getD_eq_getElem?_getD, List.getElem?_eq_getElem h]
  exact encP_one _ _ (List.getElem_mem h)
def PM (w : World) (lo pb g : Nat) (x : RP) : Prop := k89.M w lo (fun k => (k < w.heap.size ∧ k ≠ pb) ∧ k ≠ g) x.p (encP x)
def PN (w : World) (lo pb : Nat) (x : RP) : Prop := k89.M w lo (fun k => k < w.heap.size ∧ k ≠ pb) x.p (encP x)
theorem PM.chg {w w' : World} {lo pb g : Nat} {x : RP} (h : PM w lo pb g x) (hc : Chg g w w') : PN w' lo pb x :=
  k89.M_mono (fun k hk => ⟨Nat.lt_of_lt_of_le hk.1.1 hc.2.1, hk.1.2⟩) (k89.M_move (fun k hk => hc.2.2 k hk.1.1 hk.2) h)
theorem PM.pn {w : World} {lo pb g : Nat} {x : RP} (h : PM w lo pb g x) : PN w lo pb x := k89.M_mono (fun k hk => hk.1) h
theorem PN.far {w : World} {lo pb b o : Nat} {v : Value} {x : RP} (h : PN w lo pb x) (hb : b < lo ∨ b = pb) : PN (w.setCell ⟨b, o, none⟩ v) lo pb x :=
  k89.M_mono (fun k hk => by rw [World.size_setCell]; exact hk.1) (k89.M_move (fun k hk => RowKit.Below.heap_setCell w ⟨b, o, none⟩ v k (by have := hk.2.1; have := hk.1.2; show k ≠ b; omega)) (k89.M_bound h))
theorem PM.far {w : World} {lo pb g o : Nat} {v : Value} {x : RP} (h : PM w lo pb g x) : PM (w.setCell ⟨g, o, none⟩ v) lo pb g x :=
  k89.M_mono (fun k hk => by rw [World.size_setCell]; exact hk) (k89.M_move (fun k hk => RowKit.Below.heap_setCell w ⟨g, o, none⟩ v k hk.2) h)
theorem PN.good {w : World} {lo pb : Nat} {x : RP} (h : PN w lo pb x) : Good w x := by
  obtain ⟨v5, v6, e, r5, r6⟩ := k89_openM h
  injection e with _ e
  injection e with _ e
  injection e with _ e
  injection e with _ e
  injection e with _ e
  injection e with e5 e
  injection e with e6 _
  subst e5
  subst e6
  obtain ⟨_, a2, a3⟩ := Kd.R_reads' r5
  obtain ⟨_, b2, b3⟩ := Kd.R_reads' r6
  exact ⟨a2, a3, b2, b3⟩
theorem row_open {w : World} {base pb : Nat} {ok : Nat → Prop} {v : Value} {xs : List S89} (h : k89.R 89 w base ok v xs) (hok : ∀ k, ok k → k ≠ pb) :
    (v = .slice none 0 0 ∧ xs = []) ∨ ∃ (g cap : Nat) (f : Nat → Value) (rps : List RP) (tA : TypeId) (kA : Nat), v = .slice (some ⟨g, 0, none⟩) xs.length cap ∧ (base ≤ g ∧ g ≠ pb) ∧ g < w.heap.size ∧ xs.length ≤ cap ∧ cap ≤ 9223372036854775807 ∧ At w g (cap * 7) f ∧ rps.map (·.p) = xs ∧ (∀ x ∈ rps, PM w base pb g x) ∧ (∀ j, j < xs.length * 7 → f j = rowf rps j) ∧ w.shape? g = some (tA, kA) ∧ kA = cap * 7 := by
  obtain ⟨inner, hl, ho⟩ := Kd.R_own h
  rcases ho with ⟨rfl, h0⟩ | ⟨g, cap, cur, rfl, hb, hg, hc, hm, hcs, _⟩
  · exact .inl ⟨rfl, List.eq_nil_of_length_eq_zero h0⟩
  · have hcs' : cur.size = cap * 7 := hcs
    have hgl : g < w.heap.size := by
      rcases Nat.lt_or_ge g w.heap.size with h1 | h1
      · exact h1
      · rw [Array.getElem?_eq_none h1] at hg; cases hg
    have hA : At w g (cap * 7) (fun j => cur.getD j default) := fun j hj => by
      refine ⟨?_, blk_frozen hg j⟩
      rw [cell_of_row w g _ _ _ _ hg, Array.getElem?_eq_getElem (by omega)]
      show some cur[j] = some (cur.getD j default)
      rw [Array.getD_eq_getD_getElem?, Array.getElem?_eq_getElem (by omega)]
      rfl
    have one : ∀ i, ∃ x : RP, i < xs.length → x.p = xs.getD i z89 ∧ PM w base pb g x ∧ ∀ t, t < 7 → w.cell? ⟨g, i * 7 + t, none⟩ = some ((encP x).getD t default) := by
      intro i
      by_cases hi : i < xs.length
      · obtain ⟨v4, v5, hM, x0, x1, x2, x3, x4, x5, x6⟩ := elem89 h i hi
        obtain ⟨u4, u5, e, r4, r5⟩ := k89_openM hM
        injection e with _ e
        injection e with _ e
        injection e with _ e
        injection e with _ e
        injection e with _ e
        injection e with e5 e
        injection e with e6 _
        subst e5
        subst e6
        obtain ⟨a4, c4, hv4⟩ := Kd.R_slice r4
        obtain ⟨a5, c5, hv5⟩ := Kd.R_slice r5
        subst hv4
        subst hv5
        refine ⟨⟨xs.getD i z89, a4, c4, a5, c5⟩, fun _ => ⟨rfl, ?_, fun t ht => ?_⟩⟩
        · exact k89.M_mono (fun k hk => ⟨⟨hk.2.2.1, hok k hk.1.1⟩, hk.1.2⟩) (k89.M_bound hM)
        · rcases t with _ | _ | _ | _ | _ | _ | _ | t
          · exact x0
          · exact x1
          · exact x2
          · exact x3
          · exact x4
          · exact x5
          · exact x6
          · omega
      · exact ⟨default, fun h => absurd h hi⟩
    let F : Nat → RP := fun i => Classical.choose (one i)
    have hF : ∀ i, i < xs.length → (F i).p = xs.getD i z89 ∧ PM w base pb g (F i) ∧ ∀ t, t < 7 → w.cell? ⟨g, i * 7 + t, none⟩ = some ((encP (F i)).getD t default) := fun i => Classical.choose_spec (one i)
    refine .inr ⟨g, cap, _, (List.range xs.length).map F, 89, cap * 7, rfl, ⟨hb, hok g (h.1 g rfl)⟩, hgl, hc, hm, hA, ?_, fun x hx => ?_, fun j hj => ?_, ?_, rfl⟩
    · apply List.ext_getElem
      · simp
      · intro i h1 h2
        simp only [List.getElem_map, List.getElem_range]
        rw [(hF i h2).1, List.getD_eq_getElem?_getD, List.getElem?_eq_getElem h2]
        rfl
    · obtain ⟨i, hi, rfl⟩ := List.mem_map.1 hx
      exact (hF i (List.mem_range.1 hi)).2.1
    · have hi : j / 7 < xs.length := by omega
      have h1 := (hF (j / 7) hi).2.2 (j % 7) (by omega)
      rw [show j / 7 * 7 + j % 7 = j by omega, (hA j (by omega)).1] at h1
      unfold rowf
      rw [show ((List.range xs.length).map F).getD (j / 7) default = F (j / 7) by rw [List.getD_eq_getElem?_getD, List.getElem?_map, List.getElem?_range hi]; rfl]
      exact Option.some.inj h1
    · simp [World.shape?, hg, hcs']
theorem row_close {w : World} {g : Nat} {rps : List RP} (hm : rps.length ≤ 9223372036854775807) (hA : At w g (rps.length * 7) (rowf rps)) (hG : ∀ x ∈ rps, Good w x) : k89.C w (some ⟨g, 0, none⟩) (rps.map (·.p)).length (rps.map (·.p)) := by
  refine ⟨rfl, by simpa using hm, fun _ => ⟨⟨g, 0, none⟩, rfl, fun j p hj => ?_⟩⟩
  rw [List.getElem?_map] at hj
  cases hx : rps[j]? with
  | none => rw [hx] at hj; cases hj
  | some x =>
    rw [hx] at hj
    obtain rfl := (Option.some.inj hj).symm
    obtain ⟨hjl, hje⟩ := List.getElem?_eq_some_iff.1 hx
    have hg := hG x (List.mem_of_getElem? hx)
    refine ⟨encP x, rfl, k89_mk w x.p hg.l4 hg.g4 hg.l5 hg.g5, fun i u hi => ?_⟩
    have hi7 : i < 7 := by have := (List.getElem?_eq_some_iff.1 hi).1; rwa [encP_len] at this
    have h1 := (hA (j * 7 + i) (by omega)).1
    rw [Addr.add_lit]
    show w.cell? ⟨g, 0 + (j * 7 + i), none⟩ = some u
    rw [Nat.zero_add, h1]
    unfold rowf
    rw [show (j * 7 + i) / 7 = j by omega, show (j * 7 + i) % 7 = i by omega, List.getD_eq_getElem?_getD (l := rps), hx]
    show some ((encP x).getD i default) = some u
    rw [List.getD_eq_getElem?_getD, hi]
    rfl
structure Row (w : World) (lo pb g : Nat) (rps : List RP) : Prop where
  at_ : At w g (rps.length * 7) (rowf rps)
  own : ∀ x ∈ rps, PN w lo pb x
  low : lo ≤ g ∧ g ≠ pb
theorem Row.far {w : World} {lo pb g b o : Nat} {v : Value} {rps : List RP} (h : Row w lo pb g rps) (hb : b < lo ∨ b = pb) : Row (w.setCell ⟨b, o, none⟩ v) lo pb g rps where
  at_ := fun j hj => by
    have hne : g ≠ b := by have := h.low; omega
    have hh := RowKit.Below.heap_setCell w ⟨b, o, none⟩ v g hne
    refine ⟨(World.cell?_of_block hh).trans (h.at_ j hj).1, ?_⟩
    rw [World.frozen?_setCell]
    exact (h.at_ j hj).2
  own := fun x hx => (h.own x hx).far hb
  low := h.low
theorem Row.close {w : World} {lo pb g : Nat} {rps : List RP} (h : Row w lo pb g rps) (hm : rps.length ≤ 9223372036854775807) : k89.C w (some ⟨g, 0, none⟩) (rps.map (·.p)).length (rps.map (·.p)) := row_close hm h.at_ (fun x hx => (h.own x hx).good)
theorem Row.closeF {w : World} {lo pb g : Nat} {rps : List RP} (h : Row w lo pb g rps) (hm : rps.length ≤ 9223372036854775807) : Kd.F k89 w (fun k => lo ≤ k) (some ⟨g, 0, none⟩) (rps.map (·.p)).length (rps.map (·.p)) := by
  intro W' hW
  refine Row.close (w := W') (lo := lo) (pb := pb) ⟨fun j hj => ?_, fun x hx => ?_, h.low⟩ hm
  · have hg := World.block_lt_of_cell? w _ (h.at_ j hj).1
    have hh := hW g h.low.1 hg
    refine ⟨(World.cell?_of_block hh).trans (h.at_ j hj).1, ?_⟩
    have hf := (h.at_ j hj).2
    simp only [World.frozen?, hh] at hf ⊢
    exact hf
  · have hP := k89.M_bound (h.own x hx)
    exact k89.M_mono (fun k hk => ⟨heap_lt (hW k hk.2.1 hk.2.2.1) hk.2.2.1, hk.1.2⟩) (k89.M_move (fun k hk => hW k hk.2.1 hk.2.2.1) hP)
theorem plain_f4 (v : S35) (h : (hasT v.f0).2.2.2.2.1 = true) : (plain v).f4 = [] := by
  rw [plain_eq]
  rcases kinds9 v.f0 with h0 | h0 | h0 | h0 | h0 | h0 | h0 | h0 | h0 | ⟨h0, h1, h2, h3, h4, h5, h6, h7, h8⟩ <;> simp [hasT, *] at h ⊢
theorem shape_of {w : World} {b T : Nat} {cs : Array Value} (h : w.heap[b]? = some (.cells cs T (0, 0))) : w.shape? b = some (T, cs.size) := by simp [World.shape?, h]
theorem getD_del (rps : List RP) (i k : Nat) : (rps.eraseIdx i).getD k default = if k < i then rps.getD k default else rps.getD (k + 1) default := by
  rw [List.getD_eq_getElem?_getD, List.getElem?_eraseIdx]
  split <;> rw [List.getD_eq_getElem?_getD]
theorem getD_ins (rps : List RP) (y : RP) (i k : Nat) (hi : i ≤ rps.length) : (rps.take i ++ y :: rps.drop i).getD k default = if k < i then rps.getD k default else if k = i then y else rps.getD (k - 1) default := by
  have hl : (rps.take i).length = i := by rw [List.length_take]; omega
  rw [List.getD_eq_getElem?_getD]
  split
  · rw [List.getElem?_append_left (by omega), List.getElem?_take, if_pos (by omega), ← List.getD_eq_getElem?_getD]
  · split
    · rw [List.getElem?_append_right (by omega), hl, show k - i = 0 by omega]
      rfl
    · rw [List.getElem?_append_right (by omega), hl, show k - i = (k - i - 1) + 1 by omega, List.getElem?_cons_succ, List.getElem?_drop, show i + (k - i - 1) = k - 1 by omega, ← List.getD_eq_getElem?_getD]
theorem rowf_del (rps : List RP) (i j : Nat) (hi : i < rps.length) : rowf (rps.eraseIdx i) j = if j < i * 7 then rowf rps j else rowf rps (j + 7) := by
  unfold rowf
  rw [getD_del]
  split
  · rw [if_pos (by omega)]
  · rw [if_neg (by omega), show (j + 7) / 7 = j / 7 + 1 by omega, show (j + 7) % 7 = j % 7 by omega]
theorem rowf_ins (rps : List RP) (y : RP) (i j : Nat) (hi : i ≤ rps.length) : rowf (rps.take i ++ y :: rps.drop i) j = insf (rowf rps) (fun t => (encP y).getD t default) i j := by
  unfold insf
  show (encP ((rps.take i ++ y :: rps.drop i).getD (j / 7) default)).getD (j % 7) default = _
  rw [getD_ins rps y i _ hi]
  by_cases h1 : j < i * 7
  · rw [if_pos h1, if_pos (by omega)]
    rfl
  · rw [if_neg h1, if_neg (by omega)]
    by_cases h2 : j < i * 7 + 7
    · rw [if_pos h2, if_pos (by omega), show j % 7 = j - i * 7 by omega]
    · rw [if_neg h2, if_neg (by omega)]
      unfold rowf
      rw [show j / 7 - 1 = (j - 7) / 7 by omega, show j % 7 = (j - 7) % 7 by omega]
theorem map_del (rps : List RP) (i : Nat) : (rps.map (·.p)).eraseIdx i = (rps.eraseIdx i).map (·.p) := by
  apply List.ext_getElem?
  intro k
  rw [List.getElem?_eraseIdx, List.getElem?_map, List.getElem?_map, List.getElem?_map, List.getElem?_eraseIdx]
  split <;> rfl
theorem insf_congr {f f' vf vf' : Nat → Value} {i n j : Nat} (hi : i ≤ n) (hj : j < (n + 1) * 7) (h1 : ∀ t, t < n * 7 → f t = f' t) (h2 : ∀ t, t < 7 → vf t = vf' t) : insf f vf i j = insf f' vf' i j := by
  unfold insf
  split
  · exact h1 _ (by omega)
  · split
    · exact h2 _ (by omega)
    · exact h1 _ (by omega)
theorem del_row (lo pb g cap i jj : Nat) (f : Nat → Value) (rps : List RP) (w : World) (hc : rps.length ≤ cap) (hm : cap ≤ 9223372036854775807) (hA : At w g (cap * 7) f) (hP : ∀ x ∈ rps, PM w lo pb g x) (hlo : lo ≤ g ∧ g ≠ pb) (hf : ∀ j, j < rps.length * 7 → f j = rowf rps j) (hi : i < rps.length) (hj : jj = i + 1) :
    Calls Try.prog 125 #[.slice (some ⟨g, 0, none⟩) rps.length cap, .int .i64 i, .int .i64 jj] w fun e w' => e = .returned (.slice (some ⟨g, 0, none⟩) (rps.length - 1) cap) ∧ Row w' lo pb g (rps.eraseIdx i) ∧ Chg g w w' := by
  have hA' : At w g (rps.length * 7) (rowf rps) := (hA.mono (Nat.mul_le_mul_right _ hc)).congr hf
  refine Calls.mono (delete_calls g rps.length cap i jj _ w hA' (fun j _ => rowf_one rps j) hi hj hc hm) ?_
  rintro e w' ⟨rfl, h1, h2⟩
  refine ⟨rfl, ?_, h2⟩
  have hl : (rps.eraseIdx i).length = rps.length - 1 := by rw [List.length_eraseIdx, if_pos hi]
  refine ⟨?_, fun x hx => (hP x (List.mem_of_mem_eraseIdx hx)).chg h2, hlo⟩
  rw [hl]
  exact h1.congr (fun j _ => (rowf_del rps i j hi).symm)
theorem ins_row (lo pb g cap i vb : Nat) (f vf : Nat → Value) (rps : List RP) (y : RP) (w : World) (hc : rps.length ≤ cap) (hm : cap ≤ 9223372036854775807) (hsm : rps.length ≤ 1000000) (hA : At w g (cap * 7) f) (hP : ∀ x ∈ rps, PM w lo pb g x) (hlo : lo ≤ g ∧ g ≠ pb) (hy : PM w lo pb g y) (hf : ∀ j, j < rps.length * 7 → f j = rowf rps j) (hi : i ≤ rps.length)
    (hV : At w vb 7 vf) (hvf : ∀ t, t < 7 → vf t = (encP y).getD t default) (hvb : vb ≠ g) (hpb : pb < w.heap.size) (hlo : lo ≤ g ∧ g ≠ pb) (hlw : lo ≤ w.heap.size) (hgw : g < w.heap.size) (hvw : vb < w.heap.size) (tB : TypeId) (kB : Nat) (hsb : w.shape? g = some (tB, kB)) (tA : TypeId) (kA : Nat) (hsa : w.shape? vb = some (tA, kA)) (hfe : w.frozen? ⟨vb, kA, none⟩ = false) (hkB : kB = cap * 7) :
    Calls Try.prog 126 #[.slice (some ⟨g, 0, none⟩) rps.length cap, .int .i64 i, .slice (some ⟨vb, 0, none⟩) 1 1] w fun e w' => ∃ g' cap', e = .returned (.slice (some ⟨g', 0, none⟩) (rps.length + 1) cap') ∧ rps.length + 1 ≤ cap' ∧ Row w' lo pb g' (rps.take i ++ y :: rps.drop i) ∧ Chg g w w' := by
  have hA' : At w g (rps.length * 7) (rowf rps) := (hA.mono (Nat.mul_le_mul_right _ hc)).congr hf
  have h1v : ∀ j, j < 7 → (vf j).oneCell' = true := fun j hj => by
    rw [hvf j hj]
    have h : j < (encP y).length := by rw [encP_len]; exact hj
    rw [List.getD_eq_getElem?_getD, List.getElem?_eq_getElem h]
    exact encP_one _ _ (List.getElem_mem h)
  have hlen : (rps.take i ++ y :: rps.drop i).length = rps.length + 1 := by simp; omega
  have FIN : ∀ (f0 : Nat → Value), (∀ j, j < rps.length * 7 → f0 j = rowf rps j) → ∀ e w', InsPost g rps.length i f0 vf w e w' → ∃ g' cap', e = .returned (.slice (some ⟨g', 0, none⟩) (rps.length + 1) cap') ∧ rps.length + 1 ≤ cap' ∧ Row w' lo pb g' (rps.take i ++ y :: rps.drop i) ∧ Chg g w w' := by
    rintro f0 hf0 e w' ⟨g', cap', rfl, h1, h2, h3, h4, h5⟩
    refine ⟨g', cap', rfl, h2, ⟨?_, fun x hx => ?_, ?_⟩, h5⟩
    · rw [hlen]
      exact h4.congr (fun j hj => by rw [rowf_ins rps y i j hi]; exact insf_congr hi hj hf0 hvf)
    · rcases List.mem_append.1 hx with hx | hx
      · exact (hP x (List.mem_of_mem_take hx)).chg h5
      · rcases List.mem_cons.1 hx with rfl | hx
        · exact hy.chg h5
        · exact (hP x (List.mem_of_mem_drop hx)).chg h5
    · rcases h1 with rfl | rfl <;> omega
  by_cases he : i = rps.length
  · subst he
    by_cases hr : rps.length + 1 ≤ cap
    · exact Calls.mono (ins_end_room g _ cap vb f vf w hr hm (hA.mono (by omega)) hV h1v) (FIN f hf)
    · exact Calls.mono (ins_end_grow _ g _ cap vb f vf w (.inr rfl) hc (by omega) hsm (fun _ => hA.mono (by omega)) hV h1v) (FIN f hf)
  · by_cases hr : rps.length + 1 ≤ cap
    · refine Calls.mono (ins_shift g _ cap i vb f vf w (by omega) hr hm hvb (hA.mono (by omega)) (fun j hj => by rw [hf j hj]; exact rowf_one _ _) hV h1v tA tB kA kB hsa hsb (by omega) (hV 0 (by omega)).2 hfe) (FIN f hf)
    · exact Calls.mono (ins_grow g _ cap i vb f vf w (by omega) hc (by omega) hsm (hA.mono (by omega)) (fun j hj => by rw [hf j hj]; exact rowf_one _ _) hV h1v hgw hvw) (FIN f hf)
theorem ins_nil (lo pb vb : Nat) (vf : Nat → Value) (y : RP) (w : World) (hlo : lo ≤ w.heap.size) (hpb : pb < w.heap.size) (hy : PM w lo pb w.heap.size y) (hV : At w vb 7 vf) (hvf : ∀ t, t < 7 → vf t = (encP y).getD t default) :
    Calls Try.prog 126 #[.slice none 0 0, .int .i64 0, .slice (some ⟨vb, 0, none⟩) 1 1] w fun e w' => ∃ g' cap', e = .returned (.slice (some ⟨g', 0, none⟩) 1 cap') ∧ 1 ≤ cap' ∧ Row w' lo pb g' [y] ∧ Chg w.heap.size w w' := by
  have h1v : ∀ j, j < 7 → (vf j).oneCell' = true := fun j hj => by
    rw [hvf j hj]
    have h : j < (encP y).length := by rw [encP_len]; exact hj
    rw [List.getD_eq_getElem?_getD, List.getElem?_eq_getElem h]
    exact encP_one _ _ (List.getElem_mem h)
  refine Calls.mono (ins_end_grow none w.heap.size 0 0 vb (fun _ => default) vf w (.inl ⟨rfl, rfl⟩) (Nat.le_refl _) (by omega) (by omega) (fun h => absurd rfl h) hV h1v) ?_
  rintro e w' ⟨g', cap', rfl, h1, h2, h3, h4, h5⟩
  refine ⟨g', cap', rfl, h2, ⟨?_, fun x hx => ?_, ?_⟩, h5⟩
  · refine h4.congr (fun j hj => ?_)
    rw [show [y] = ([] : List RP).take 0 ++ y :: ([] : List RP).drop 0 from rfl, rowf_ins [] y 0 j (Nat.le_refl _)]
    exact insf_congr (n := 0) (Nat.le_refl _) hj (fun t ht => by omega) hvf
  · rw [List.mem_singleton.1 hx]
    exact hy.chg h5
  · rcases h1 with rfl | rfl <;> omega
end Go.Proofs.Ytogpnkkoablmiaa.V
end
section
namespace Go.Proofs.Ytogpnkkoablmiaa.V
open Go.Shelf Go.RowKit Go.Lib Go.Sort Go.Proofs.Ytogpnkkoablmiaa.Q Go.Proofs.YtogpnkkoablmiaaW.PrintWords Go.Proofs.YtogpnkkoablmiaaW.PrintLast Go.Proofs.YtogpnkkoablmiaaW.PrintMore
set_option linter.unusedVariables false
set_option linter.unusedSimpArgs false
theorem getD_set (rps : List RP) (y : RP) (i k : Nat) (hi : i < rps.length) : (rps.set i y).getD k default = if k = i then y else rps.getD k default := by
  rw [List.getD_eq_getElem?_getD, List.getElem?_set]
  by_cases h : k = i
  · subst h
    rw [if_pos rfl, if_pos hi, if_pos rfl]
    rfl
  · rw [if_neg (fun e => h e.symm), if_neg h, ← List.getD_eq_getElem?_getD]
theorem rep_row {w : World} {lo pb g cap i : Nat} {f : Nat → Value} {rps : List RP} {y : RP} (hA : At w g (cap * 7) f) (hc : rps.length ≤ cap) (hf : ∀ j, j < rps.length * 7 → f j = rowf rps j) (hP : ∀ x ∈ rps, PM w lo pb g x) (hy : PM w lo pb g y) (hlo : lo ≤ g ∧ g ≠ pb) (hi : i < rps.length) (hk : y.p.f0 = (rps.getD i default).p.f0) :
    Row ((((((w.setCell ⟨g, i * 7 + 1, none⟩ (.int .i64 y.p.f1.f0)).setCell ⟨g, i * 7 + 1 + 1, none⟩ (.int .i64 y.p.f1.f1)).setCell ⟨g, i * 7 + 1 + 2, none⟩ (.int .i64 y.p.f1.f2)).setCell ⟨g, i * 7 + 1 + 3, none⟩ (.string y.p.f1.f3)).setCell ⟨g, i * 7 + 1 + 4, none⟩ (.slice y.a4 y.p.f1.f4.length y.c4)).setCell ⟨g, i * 7 + 1 + 5, none⟩ (.slice y.a5 y.p.f1.f5.length y.c5)) lo pb g (rps.set i y) where
  at_ := by
    rw [List.length_set]
    have h0 : At w g (rps.length * 7) (rowf rps) := (hA.mono (Nat.mul_le_mul_right _ hc)).congr hf
    have hr : ∀ j, rowf (rps.set i y) j = (encP (if j / 7 = i then y else rps.getD (j / 7) default)).getD (j % 7) default := fun j => by unfold rowf; rw [getD_set rps y i _ hi]
    refine At.set h0 (i * 7 + 1) [.int .i64 y.p.f1.f0, .int .i64 y.p.f1.f1, .int .i64 y.p.f1.f2, .string y.p.f1.f3, .slice y.a4 y.p.f1.f4.length y.c4, .slice y.a5 y.p.f1.f5.length y.c5] (by simp; omega) _ (fun j h1 h2 => ?_) (fun j h1 => ?_)
    · simp only [List.length_cons, List.length_nil] at h2
      rw [hr]
      by_cases h3 : j / 7 = i
      · rw [if_pos h3]
        have h4 : j % 7 = 0 := by omega
        unfold rowf
        rw [h4, h3]
        show Value.string y.p.f0 = Value.string (rps.getD i default).p.f0
        rw [hk]
      · rw [if_neg h3]; rfl
    · have h1' : j < 6 := by simpa using h1
      rw [hr, if_pos (by omega), show (i * 7 + 1 + j) % 7 = j + 1 by omega]
      rcases j with _ | _ | _ | _ | _ | _ | j
      · rfl
      · rfl
      · rfl
      · rfl
      · rfl
      · rfl
      · omega
  own := fun x hx => by
    have hx' : PM w lo pb g x := by
      rcases List.mem_or_eq_of_mem_set hx with h | rfl
      · exact hP x h
      · exact hy
    exact hx'.far.far.far.far.far.far.pn
  low := hlo
theorem find_key {xs : List S89} {key : ByteArray} (hr : Rise xs) (hh : hasK xs key = true) : (xs.getD (posK xs key) z89).f0 = key := by
  have h := List.find?_some (find_pos hr hh).2
  exact ByteArray.ext (of_decide_eq_true h)
theorem At.below {w w' : World} {g N : Nat} {f : Nat → Value} (h : At w g N f) (hg : g < w.heap.size) (hb : RowKit.Below w.heap.size w w') : At w' g N f := fun j hj =>
  ⟨(World.cell?_of_block (hb.block g hg)).trans (h j hj).1, by
    have := hb.block g hg
    have h2 := (h j hj).2
    simp only [World.frozen?] at h2 ⊢
    rw [this]; exact h2⟩
theorem PM.below {w w' : World} {lo pb g : Nat} {x : RP} (h : PM w lo pb g x) (hb : RowKit.Below w.heap.size w w') : PM w' lo pb g x :=
  k89.M_mono (fun k hk => ⟨⟨Nat.lt_of_lt_of_le hk.1.1 hb.size, hk.1.2⟩, hk.2⟩) (k89.M_move (fun k hk => hb.block k hk.1.1) h)
theorem ins_any {w : World} {lo pb b2 base2 : Nat} {A : Option Addr} {c : Nat} {xs : List S89} (key : ByteArray) (yv : S35) {Y4 : Option Addr} {yc4 : Nat} {Y5 : Option Addr} {yc5 : Nat} (hR : k89.R 89 w lo (fun k => k < pb) (.slice A xs.length c) xs) (hlen : xs.length ≤ 90000) (i : Nat) (hi : i ≤ xs.length) (hpb : pb < base2) (hb2 : b2 < lo) (hlo : lo ≤ pb) (hbw : base2 ≤ w.heap.size)
    (RY4 : k35.R 35 w base2 (fun k => base2 ≤ k ∧ k < w.heap.size) (.slice Y4 yv.f4.length yc4) yv.f4) (RY5 : k89.R 89 w base2 (fun k => base2 ≤ k ∧ k < w.heap.size) (.slice Y5 yv.f5.length yc5) yv.f5) :
    Calls Try.prog 126 #[.slice A xs.length c, .int .i64 i, .slice (some ⟨w.heap.size, 0, none⟩) 1 1] (w.alloc (.cells #[.string key, .int .i64 yv.f0, .int .i64 yv.f1, .int .i64 yv.f2, .string yv.f3, .slice Y4 yv.f4.length yc4, .slice Y5 yv.f5.length yc5] 89)) fun e w' => ∃ (g' cap' : Nat) (rps' : List RP), e = .returned (.slice (some ⟨g', 0, none⟩) (xs.length + 1) cap') ∧ xs.length + 1 ≤ cap' ∧ rps'.map (·.p) = xs.take i ++ ⟨key, yv⟩ :: xs.drop i ∧ Row w' lo pb g' rps' ∧ w'.heap[pb]? = w.heap[pb]? ∧ w'.heap[b2]? = w.heap[b2]? ∧ RowKit.Below b2 w w' ∧ w.heap.size ≤ w'.heap.size := by
  obtain ⟨y, hy⟩ : ∃ y : RP, y = ⟨⟨key, yv⟩, Y4, yc4, Y5, yc5⟩ := ⟨_, rfl⟩
  obtain ⟨wv, hwv⟩ : ∃ wv, wv = w.alloc (.cells #[.string key, .int .i64 yv.f0, .int .i64 yv.f1, .int .i64 yv.f2, .string yv.f3, .slice Y4 yv.f4.length yc4, .slice Y5 yv.f5.length yc5] 89) := ⟨_, rfl⟩
  have hsv : wv.heap.size = w.heap.size + 1 := by rw [hwv, World.size_alloc]
  have hbv : RowKit.Below w.heap.size w wv := by rw [hwv]; exact below_alloc (RowKit.Below.refl _ _) _
  have hblk : wv.heap[w.heap.size]? = some (.cells #[.string key, .int .i64 yv.f0, .int .i64 yv.f1, .int .i64 yv.f2, .string yv.f3, .slice Y4 yv.f4.length yc4, .slice Y5 yv.f5.length yc5] 89 (0, 0)) := by rw [hwv]; exact blk_new w _
  have hV : At wv w.heap.size 7 (fun t => (encP y).getD t default) := by
    rw [hwv]
    refine at_new w _ 7 _ _ (by simp) (fun j hj => ?_)
    rw [hy]
    rcases j with _ | _ | _ | _ | _ | _ | _ | j
    · rfl
    · rfl
    · rfl
    · rfl
    · rfl
    · rfl
    · rfl
    · omega
  have hPy : ∀ g, g < base2 ∨ w.heap.size ≤ g → PM w lo pb g y := fun g hg => by
    rw [hy]
    exact k89_mkM w _ _ ⟨key, yv⟩ (Kd.R_lower (Kd.R_mono RY4 (fun k hk => ⟨⟨hk.2, by omega⟩, by omega⟩)) (by omega)) (Kd.R_lower (Kd.R_mono RY5 (fun k hk => ⟨⟨hk.2, by omega⟩, by omega⟩)) (by omega))
  rw [← hwv]
  rcases row_open (pb := pb) hR (fun k hk => by omega) with ⟨hv, h0⟩ | ⟨g, cap, f, rps, tA, kA, hv, hg, hgl, hcap, hm, hAt, hmap, hPM, hf, hsh, hkA⟩
  · subst h0
    injection hv with hA _ hc
    subst hA
    subst hc
    obtain rfl : i = 0 := by simpa using hi
    refine Calls.mono (ins_nil lo pb w.heap.size _ y wv (by omega) (by omega) ((hPy wv.heap.size (.inr (by omega))).below hbv) hV (fun _ _ => rfl)) ?_
    rintro e w' ⟨g', cap', rfl, h1, h2, h3⟩
    refine ⟨g', cap', [y], rfl, h1, by rw [hy]; rfl, h2, ?_, ?_, ?_, ?_⟩
    · exact (h3.2.2 pb (by omega) (by omega)).trans (hbv.block pb (by omega))
    · exact (h3.2.2 b2 (by omega) (by omega)).trans (hbv.block b2 (by omega))
    · exact (hbv.mono (by omega)).trans (h3.1 b2 (by omega) (by omega))
    · have := h3.2.1; omega
  · injection hv with hA _ hc
    subst hA
    subst hc
    have hgpb : g < pb := hR.1 g rfl
    have hln : xs.length = rps.length := by rw [← hmap, List.length_map]
    have hshv : wv.shape? g = some (tA, kA) := by
      rw [← hsh]
      unfold World.shape?
      rw [hbv.block g hgl]
    rw [hln]
    refine Calls.mono (ins_row lo pb g c i w.heap.size f _ rps y wv (by omega) hm (by omega) (hAt.below hgl hbv) (fun x hx => (hPM x hx).below hbv) hg ((hPy g (.inl (by omega))).below hbv) (fun j hj => hf j (by rw [hln]; exact hj)) (by omega) hV (fun _ _ => rfl) (by omega) (by omega) hg (by omega) (by omega) (by omega) tA kA hshv 89 7 (shape_of hblk) (blk_frozen hblk 7) hkA) ?_
    rintro e w' ⟨g', cap', rfl, h1, h2, h3⟩
    refine ⟨g', cap', _, rfl, h1, ?_, h2, ?_, ?_, ?_, ?_⟩
    · rw [← hmap, List.map_append, List.map_cons, List.map_take, List.map_drop, hy]
    · exact (h3.2.2 pb (by omega) (by omega)).trans (hbv.block pb (by omega))
    · exact (h3.2.2 b2 (by omega) (by omega)).trans (hbv.block b2 (by omega))
    · exact (hbv.mono (by omega)).trans (h3.1 b2 (by omega) (by omega))
    · have := h3.2.1; omega
end Go.Proofs.Ytogpnkkoablmiaa.V
end
section
namespace Go.Proofs.Ytogpnkkoablmiaa.V
open Go.Shelf Go.RowKit Go.Lib Go.Sort Go.Proofs.Ytogpnkkoablmiaa.Q Go.Proofs.YtogpnkkoablmiaaW.PrintWords Go.Proofs.YtogpnkkoablmiaaW.PrintLast Go.Proofs.YtogpnkkoablmiaaW.PrintMore
set_option linter.unusedVariables false
set_option linter.unusedSimpArgs false
def withD (v : S35) (key : ByteArray) (x : S35) : List S89 :=
  let xs := (plain v).f5
  let y := plain x
  if (hasT v.f0).2.2.2.2.1 = true then
    (if hasK xs key = true then (if y.f0 = 0 then xs.eraseIdx (posK xs key) else xs.set (posK xs key) ⟨key, y⟩) else if y.f0 = 0 then xs else xs.take (posK xs key) ++ ⟨key, y⟩ :: xs.drop (posK xs key))
  else xs
set_option maxHeartbeats 8000000 in
set_option maxRecDepth 100000 in
theorem with_callsF (v x : S35) (key : ByteArray) (A4 : Option Addr) (c4 : Nat) (A5 : Option Addr) (c5 : Nat) (B4 : Option Addr) (d4 : Nat) (B5 : Option Addr) (d5 : Nat) (w : World) (fv : fewV v) (fx : fewV x) (la4v : v.f4.length ≤ c4) (ra4v : k35.C w A4 v.f4.length v.f4) (la5v : v.f5.length ≤ c5) (ra5v : k89.C w A5 v.f5.length v.f5) (la4x : x.f4.length ≤ d4) (ra4x : k35.C w B4 x.f4.length x.f4) (la5x : x.f5.length ≤ d5) (ra5x : k89.C w B5 x.f5.length x.f5) :
    Calls Try.prog 65 #[.agg #[.int .i64 v.f0, .int .i64 v.f1, .int .i64 v.f2, .string v.f3, .slice A4 v.f4.length c4, .slice A5 v.f5.length c5], .string key, .agg #[.int .i64 x.f0, .int .i64 x.f1, .int .i64 x.f2, .string x.f3, .slice B4 x.f4.length d4, .slice B5 x.f5.length d5]] w fun e w' => ∃ (a4 : Option Addr) (n4 : Nat) (a5 : Option Addr) (n5 : Nat), e = .returned (.agg #[.int .i64 (plain v).f0, .int .i64 (plain v).f1, .int .i64 (plain v).f2, .string (plain v).f3, .slice a4 (plain v).f4.length n4, .slice a5 (withD v key x).length n5]) ∧ (plain v).f4.length ≤ n4 ∧ Kd.F k35 w' (fun k => w.heap.size ≤ k) a4 (plain v).f4.length (plain v).f4 ∧ (withD v key x).length ≤ n5 ∧ Kd.F k89 w' (fun k => w.heap.size ≤ k) a5 (withD v key x).length (withD v key x) ∧ RowKit.Below w.heap.size w w' := by
  have hu35 := Try.underlying35
  have hu33 := Try.underlying33
  have PA := Aside0.mk (fun w1 (hb : RowKit.Below w.heap.size w w1) => plain59_all v A4 c4 A5 c5 w1 fv la4v (Kd.C_below ra4v hb) la5v (Kd.C_below ra5v hb))
  have PX := Aside0.mk (fun w1 (hb : RowKit.Below w.heap.size w w1) => plain59_all x B4 d4 B5 d5 w1 fx la4x (Kd.C_below ra4x hb) la5x (Kd.C_below ra5x hb))
  have XL := Aside0.mk (And.intro (plain_rise v) (Nat.le_trans (plain_len v) (fewV_at fv).2.1))
  obtain ⟨res, hres⟩ : ∃ res, res = withD v key x := ⟨_, rfl⟩
  rw [← hres]
  have HW := Aside0.mk hres
  clear ra4v ra5v ra4x ra5x hres fv fx
  obtain ⟨tn, tg, ts, tl, td, tok, hT⟩ : ∃ tn tg ts tl td tok, hasT v.f0 = (tn, tg, ts, tl, td, tok) := ⟨_, _, _, _, _, _, rfl⟩
  have HT := Aside0.mk hT
  have HW2 := Aside0.mk (show res = (if td = true then (if hasK (plain v).f5 key = true then (if (plain x).f0 = 0 then (plain v).f5.eraseIdx (posK (plain v).f5 key) else (plain v).f5.set (posK (plain v).f5 key) ⟨key, plain x⟩) else if (plain x).f0 = 0 then (plain v).f5 else (plain v).f5.take (posK (plain v).f5 key) ++ ⟨key, plain x⟩ :: (plain v).f5.drop (posK (plain v).f5 key)) else (plain v).f5) from by rw [HW.out]; unfold withD; rw [hT])
  have HF4 := Aside0.mk (fun h : td = true => plain_f4 v (by rw [hT]; exact h))
  clear hT HW
  generalize plain v = pv at *
  generalize plain x = yv at *
  go_enter Try.func65, Try.ntmps65
  go_wp2_with fail
  refine Calls.mono (PA.out _ (below_alloc (below_alloc (below_alloc (RowKit.Below.refl w.heap.size w) (.cells #[.int .i64 v.f0, .int .i64 v.f1, .int .i64 v.f2, .string v.f3, .slice A4 v.f4.length c4, .slice A5 v.f5.length c5] 35)) (.cells #[.int .i64 x.f0, .int .i64 x.f1, .int .i64 x.f2, .string x.f3, .slice B4 x.f4.length d4, .slice B5 x.f5.length d5] 35)) (.cells #[.int .i64 0, .int .i64 0, .int .i64 0, .string ⟨#[]⟩, .slice none 0 0, .slice none 0 0] 35))) ?_
  rintro e w1 ⟨v4, v5, rfl, r4, r5, hb⟩
  have hbv := blk_below (blk_alloc (blk_alloc (blk_new w (.cells #[.int .i64 v.f0, .int .i64 v.f1, .int .i64 v.f2, .string v.f3, .slice A4 v.f4.length c4, .slice A5 v.f5.length c5] 35)) _) _) hb
  have hbx := blk_below (blk_alloc (blk_new (w.alloc (.cells #[.int .i64 v.f0, .int .i64 v.f1, .int .i64 v.f2, .string v.f3, .slice A4 v.f4.length c4, .slice A5 v.f5.length c5] 35)) (.cells #[.int .i64 x.f0, .int .i64 x.f1, .int .i64 x.f2, .string x.f3, .slice B4 x.f4.length d4, .slice B5 x.f5.length d5] 35)) _) hb
  have hbz := blk_below (blk_new ((w.alloc (.cells #[.int .i64 v.f0, .int .i64 v.f1, .int .i64 v.f2, .string v.f3, .slice A4 v.f4.length c4, .slice A5 v.f5.length c5] 35)).alloc (.cells #[.int .i64 x.f0, .int .i64 x.f1, .int .i64 x.f2, .string x.f3, .slice B4 x.f4.length d4, .slice B5 x.f5.length d5] 35)) (.cells #[.int .i64 0, .int .i64 0, .int .i64 0, .string ⟨#[]⟩, .slice none 0 0, .slice none 0 0] 35)) hb
  have HB1 := Aside0.mk (below_step (below_alloc (below_alloc (below_alloc (RowKit.Below.refl w.heap.size w) (.cells #[.int .i64 v.f0, .int .i64 v.f1, .int .i64 v.f2, .string v.f3, .slice A4 v.f4.length c4, .slice A5 v.f5.length c5] 35)) (.cells #[.int .i64 x.f0, .int .i64 x.f1, .int .i64 x.f2, .string x.f3, .slice B4 x.f4.length d4, .slice B5 x.f5.length d5] 35)) (.cells #[.int .i64 0, .int .i64 0, .int .i64 0, .string ⟨#[]⟩, .slice none 0 0, .slice none 0 0] 35)) hb)
  have hs1 := hb.size
  simp only [World.size_alloc] at hbv hbx hbz r4 r5 hs1
  obtain ⟨A', c', hv⟩ := Kd.R_slice r5
  obtain ⟨A4', c4', hv4⟩ := Kd.R_slice r4
  obtain ⟨n4', hn4'⟩ : ∃ n4', n4' = pv.f4.length := ⟨_, rfl⟩
  rw [← hn4'] at hv4
  subst hv
  subst hv4
  have R4 := Aside0.mk r4
  have R5 := Aside0.mk (Kd.R_mono (ok' := fun k => k < w1.heap.size) (Kd.R_bound r5) (fun k hk => hk.2.2.1))
  have HN4 := Aside0.mk hn4'
  have HV := Aside0.mk hbv
  have HX := Aside0.mk hbx
  have HZ := Aside0.mk hbz
  clear hn4' r4 r5 hbv hbx hbz hb PA
  generalize pv.f5 = xs at *
  have hs1' : w.heap.size < w1.heap.size := by omega
  obtain ⟨p0, p1, p2, p3, p4, p5⟩ := box35 HV.out
  go_wp2_with fail
  refine Calls.mono (has_calls v.f0 tn tg ts tl td tok HT.out _) ?_
  rintro e w3 ⟨rfl, hb⟩
  have HB3 := Aside0.mk (below_step (below_alloc (RowKit.Below.refl w1.heap.size w1) (.cells #[.int .i64 pv.f0, .int .i64 pv.f1, .int .i64 pv.f2, .string pv.f3, .slice A4' n4' c4', .slice A' xs.length c'] 35)) hb)
  have BP := Aside0.mk (blk_below (blk_new w1 (.cells #[.int .i64 pv.f0, .int .i64 pv.f1, .int .i64 pv.f2, .string pv.f3, .slice A4' n4' c4', .slice A' xs.length c'] 35)) hb)
  have hs3 : w1.heap.size < w3.heap.size := by have := hb.size; rw [World.size_alloc] at this; omega
  have Z3 := Aside0.mk (blk_below (blk_alloc HZ.out (.cells #[.int .i64 pv.f0, .int .i64 pv.f1, .int .i64 pv.f2, .string pv.f3, .slice A4' n4' c4', .slice A' xs.length c'] 35)) hb)
  have X3 := Aside0.mk (blk_below (blk_alloc HX.out (.cells #[.int .i64 pv.f0, .int .i64 pv.f1, .int .i64 pv.f2, .string pv.f3, .slice A4' n4' c4', .slice A' xs.length c'] 35)) hb)
  have hb3 := hb
  clear hb p0 p1 p2 p3 p4 p5
  have R43 := Aside0.mk (Kd.R_below R4.out HB3.out)
  have R53 := Aside0.mk (Kd.R_below R5.out HB3.out)
  have LOW3 := Aside0.mk (HB1.out.trans (HB3.out.mono HB1.out.size))
  have hs3b : w.heap.size + 1 + 1 < w3.heap.size := by omega
  have hs3c : w.heap.size + 1 < w3.heap.size := by omega
  clear hb3 HB3 HB1 R4 R5 HV HX HZ
  cases td with
  | false =>
    have HX2 := Aside0.mk (show res = xs by rw [HW2.out]; rfl)
    clear HW2 PX X3
    obtain ⟨p0, p1, p2, p3, p4, p5⟩ := box35 BP.out
    obtain ⟨z0, z1, z2, z3, z4, z5⟩ := box35 Z3.out
    have t0 := frz Z3.out (n := 0)
    have t1 := frz Z3.out (n := 1)
    have t2 := frz Z3.out (n := 2)
    have t3 := frz Z3.out (n := 3)
    have t4 := frz Z3.out (n := 4)
    have t5 := frz Z3.out (n := 5)
    go_wp2
    have BF := Aside0.mk (blk_alloc (six_set (c0 := .int .i64 pv.f0) (c1 := .int .i64 pv.f1) (c2 := .int .i64 pv.f2) (c3 := .string pv.f3) (c4 := .slice A4' n4' c4') (c5 := .slice A' xs.length c') (Z3.out)) (.cells #[.bool tn, .bool tg, .bool ts, .bool tl, .bool false] 163))
    have RF4 := Aside0.mk (Kd.R_below (Kd.R_far (p := ⟨w.heap.size + 1 + 1, 5, none⟩) (Kd.R_far (p := ⟨w.heap.size + 1 + 1, 4, none⟩) (Kd.R_far (p := ⟨w.heap.size + 1 + 1, 3, none⟩) (Kd.R_far (p := ⟨w.heap.size + 1 + 1, 2, none⟩) (Kd.R_far (p := ⟨w.heap.size + 1 + 1, 1, none⟩) (Kd.R_far (p := ⟨w.heap.size + 1 + 1, 0, none⟩) (Kd.R_bound (R43.out)) (fun k hk => by have := hk.2.1; show k ≠ w.heap.size + 1 + 1; omega) (.int .i64 pv.f0)) (fun k hk => by have := hk.2.1; show k ≠ w.heap.size + 1 + 1; omega) (.int .i64 pv.f1)) (fun k hk => by have := hk.2.1; show k ≠ w.heap.size + 1 + 1; omega) (.int .i64 pv.f2)) (fun k hk => by have := hk.2.1; show k ≠ w.heap.size + 1 + 1; omega) (.string pv.f3)) (fun k hk => by have := hk.2.1; show k ≠ w.heap.size + 1 + 1; omega) (.slice A4' n4' c4')) (fun k hk => by have := hk.2.1; show k ≠ w.heap.size + 1 + 1; omega) (.slice A' xs.length c')) (below_alloc (RowKit.Below.refl _ _) (.cells #[.bool tn, .bool tg, .bool ts, .bool tl, .bool false] 163)))
    have RF5 := Aside0.mk (Kd.R_below (Kd.R_far (p := ⟨w.heap.size + 1 + 1, 5, none⟩) (Kd.R_far (p := ⟨w.heap.size + 1 + 1, 4, none⟩) (Kd.R_far (p := ⟨w.heap.size + 1 + 1, 3, none⟩) (Kd.R_far (p := ⟨w.heap.size + 1 + 1, 2, none⟩) (Kd.R_far (p := ⟨w.heap.size + 1 + 1, 1, none⟩) (Kd.R_far (p := ⟨w.heap.size + 1 + 1, 0, none⟩) (Kd.R_bound (R53.out)) (fun k hk => by have := hk.2.1; show k ≠ w.heap.size + 1 + 1; omega) (.int .i64 pv.f0)) (fun k hk => by have := hk.2.1; show k ≠ w.heap.size + 1 + 1; omega) (.int .i64 pv.f1)) (fun k hk => by have := hk.2.1; show k ≠ w.heap.size + 1 + 1; omega) (.int .i64 pv.f2)) (fun k hk => by have := hk.2.1; show k ≠ w.heap.size + 1 + 1; omega) (.string pv.f3)) (fun k hk => by have := hk.2.1; show k ≠ w.heap.size + 1 + 1; omega) (.slice A4' n4' c4')) (fun k hk => by have := hk.2.1; show k ≠ w.heap.size + 1 + 1; omega) (.slice A' xs.length c')) (below_alloc (RowKit.Below.refl _ _) (.cells #[.bool tn, .bool tg, .bool ts, .bool tl, .bool false] 163)))
    have LF := Aside0.mk (below_alloc (RowKit.Below.setCell (RowKit.Below.setCell (RowKit.Below.setCell (RowKit.Below.setCell (RowKit.Below.setCell (RowKit.Below.setCell (LOW3.out) (p := ⟨w.heap.size + 1 + 1, 0, none⟩) (by show w.heap.size ≤ w.heap.size + 1 + 1; omega) (.int .i64 pv.f0)) (p := ⟨w.heap.size + 1 + 1, 1, none⟩) (by show w.heap.size ≤ w.heap.size + 1 + 1; omega) (.int .i64 pv.f1)) (p := ⟨w.heap.size + 1 + 1, 2, none⟩) (by show w.heap.size ≤ w.heap.size + 1 + 1; omega) (.int .i64 pv.f2)) (p := ⟨w.heap.size + 1 + 1, 3, none⟩) (by show w.heap.size ≤ w.heap.size + 1 + 1; omega) (.string pv.f3)) (p := ⟨w.heap.size + 1 + 1, 4, none⟩) (by show w.heap.size ≤ w.heap.size + 1 + 1; omega) (.slice A4' n4' c4')) (p := ⟨w.heap.size + 1 + 1, 5, none⟩) (by show w.heap.size ≤ w.heap.size + 1 + 1; omega) (.slice A' xs.length c')) (.cells #[.bool tn, .bool tg, .bool ts, .bool tl, .bool false] 163))
    generalize (((((((w3.setCell ⟨w.heap.size + 1 + 1, 0, none⟩ (.int .i64 pv.f0)).setCell ⟨w.heap.size + 1 + 1, 1, none⟩ (.int .i64 pv.f1)).setCell ⟨w.heap.size + 1 + 1, 2, none⟩ (.int .i64 pv.f2)).setCell ⟨w.heap.size + 1 + 1, 3, none⟩ (.string pv.f3)).setCell ⟨w.heap.size + 1 + 1, 4, none⟩ (.slice A4' n4' c4')).setCell ⟨w.heap.size + 1 + 1, 5, none⟩ (.slice A' xs.length c'))).alloc (.cells #[.bool tn, .bool tg, .bool ts, .bool tl, .bool false] 163) = WF at *
    clear z0 z1 z2 z3 z4 z5 t0 t1 t2 t3 t4 t5 p0 p1 p2 p3 p4 p5
    obtain ⟨r0, r1, r2, r3, r4, r5⟩ := box35 BF.out
    obtain ⟨_, g41, _⟩ := Kd.R_reads' (Kd.R_mono RF4.out (fun _ _ => trivial) : k35.R 35 WF (w.heap.size + 1 + 1 + 1) (fun _ => True) (.slice A4' n4' c4') pv.f4)
    have g42 : Kd.F k35 WF (fun k => w.heap.size ≤ k) A4' pv.f4.length pv.f4 := by
      have h := Kd.F_mono (Kd.R_F (Kd.R_bound RF4.out)) (fun k hk => show w.heap.size ≤ k from Nat.le_trans (by omega) hk.2.1)
      rw [HN4.out] at h
      exact h
    obtain ⟨g5a, g51, _⟩ := Kd.R_reads' (Kd.R_mono RF5.out (fun _ _ => trivial) : k89.R 89 WF (w.heap.size + 1 + 1 + 1) (fun _ => True) (.slice A' xs.length c') xs)
    have g52 : Kd.F k89 WF (fun k => w.heap.size ≤ k) A' xs.length xs := Kd.F_mono (Kd.R_F (Kd.R_bound RF5.out)) (fun k hk => Nat.le_trans (by omega) hk.2.1)
    have g50 := HX2.out
    rw [← HX2.out] at g51 g52
    refine bodyPost_ret (v := .agg #[.int .i64 pv.f0, .int .i64 pv.f1, .int .i64 pv.f2, .string pv.f3, .slice A4' n4' c4', .slice A' xs.length c']) (by simp [results, Try.results65, go_sem, r0, r1, r2, r3, r4, r5]) rfl ⟨A4', c4', _, _, by rw [HN4.out, g50], by rw [← HN4.out]; exact g41, g42, g51, g52, LF.out⟩
  | true =>
    have HX2 := Aside0.mk (show res = (if hasK xs key = true then (if yv.f0 = 0 then xs.eraseIdx (posK xs key) else xs.set (posK xs key) ⟨key, yv⟩) else if yv.f0 = 0 then xs else xs.take (posK xs key) ++ ⟨key, yv⟩ :: xs.drop (posK xs key)) by rw [HW2.out]; rfl)
    clear HW2
    obtain ⟨q0, q1, q2, q3, q4, q5⟩ := box35 X3.out
    go_wp2_with fail
    refine Calls.mono (PX.out _ (below_alloc LOW3.out (.cells #[.bool tn, .bool tg, .bool ts, .bool tl, .bool true] 163))) ?_
    rintro e w5 ⟨v4, v5, rfl, ry4, ry5, hb⟩
    obtain ⟨Y5, yc5, hv⟩ := Kd.R_slice ry5
    obtain ⟨Y4, yc4, hv4⟩ := Kd.R_slice ry4
    subst hv
    subst hv4
    rw [World.size_alloc] at ry4 ry5
    have X5 := Aside0.mk (blk_below (blk_alloc X3.out (.cells #[.bool tn, .bool tg, .bool ts, .bool tl, .bool true] 163)) hb)
    have Z5 := Aside0.mk (blk_below (blk_alloc Z3.out (.cells #[.bool tn, .bool tg, .bool ts, .bool tl, .bool true] 163)) hb)
    have P5 := Aside0.mk (blk_below (blk_alloc BP.out (.cells #[.bool tn, .bool tg, .bool ts, .bool tl, .bool true] 163)) hb)
    have HB5 := Aside0.mk (below_step (below_alloc (RowKit.Below.refl w3.heap.size w3) (.cells #[.bool tn, .bool tg, .bool ts, .bool tl, .bool true] 163)) hb)
    have R45 := Aside0.mk (Kd.R_below R43.out HB5.out)
    have R55 := Aside0.mk (Kd.R_below R53.out HB5.out)
    have RY4 := Aside0.mk ry4
    have RY5 := Aside0.mk ry5
    have LOW5 := Aside0.mk (LOW3.out.trans (HB5.out.mono LOW3.out.size))
    have hs5 : w3.heap.size < w5.heap.size := by have := hb.size; rw [World.size_alloc] at this; omega
    have hs5a : w1.heap.size < w5.heap.size := by omega
    have hs5b : w.heap.size + 1 + 1 < w5.heap.size := by omega
    have hs5c : w.heap.size + 1 < w5.heap.size := by omega
    have hs1b : w.heap.size + 1 < w1.heap.size := by omega
    have hs1c : w.heap.size + 1 + 1 < w1.heap.size := by omega
    clear q0 q1 q2 q3 q4 q5 ry4 ry5 hb PX X3 Z3 BP R43 R53 LOW3 HB5
    obtain ⟨q0, q1, q2, q3, q4, q5⟩ := box35 X5.out
    have s0 := frz X5.out (n := 0)
    have s1 := frz X5.out (n := 1)
    have s2 := frz X5.out (n := 2)
    have s3 := frz X5.out (n := 3)
    have s4 := frz X5.out (n := 4)
    have s5 := frz X5.out (n := 5)
    obtain ⟨p0, p1, p2, p3, p4, p5⟩ := box35 P5.out
    go_wp2_with fail
    have BX6 := Aside0.mk (six_set (c0 := .int .i64 yv.f0) (c1 := .int .i64 yv.f1) (c2 := .int .i64 yv.f2) (c3 := .string yv.f3) (c4 := .slice Y4 yv.f4.length yc4) (c5 := .slice Y5 yv.f5.length yc5) X5.out)
    have BP6 := Aside0.mk (cell_far (o := 5) (v := .slice Y5 yv.f5.length yc5) (cell_far (o := 4) (v := .slice Y4 yv.f4.length yc4) (cell_far (o := 3) (v := .string yv.f3) (cell_far (o := 2) (v := .int .i64 yv.f2) (cell_far (o := 1) (v := .int .i64 yv.f1) (cell_far (o := 0) (v := .int .i64 yv.f0) (P5.out) (show w1.heap.size ≠ w.heap.size + 1 by omega)) (show w1.heap.size ≠ w.heap.size + 1 by omega)) (show w1.heap.size ≠ w.heap.size + 1 by omega)) (show w1.heap.size ≠ w.heap.size + 1 by omega)) (show w1.heap.size ≠ w.heap.size + 1 by omega)) (show w1.heap.size ≠ w.heap.size + 1 by omega))
    have BZ6 := Aside0.mk (cell_far (o := 5) (v := .slice Y5 yv.f5.length yc5) (cell_far (o := 4) (v := .slice Y4 yv.f4.length yc4) (cell_far (o := 3) (v := .string yv.f3) (cell_far (o := 2) (v := .int .i64 yv.f2) (cell_far (o := 1) (v := .int .i64 yv.f1) (cell_far (o := 0) (v := .int .i64 yv.f0) (Z5.out) (show w.heap.size + 1 + 1 ≠ w.heap.size + 1 by omega)) (show w.heap.size + 1 + 1 ≠ w.heap.size + 1 by omega)) (show w.heap.size + 1 + 1 ≠ w.heap.size + 1 by omega)) (show w.heap.size + 1 + 1 ≠ w.heap.size + 1 by omega)) (show w.heap.size + 1 + 1 ≠ w.heap.size + 1 by omega)) (show w.heap.size + 1 + 1 ≠ w.heap.size + 1 by omega))
    have R46 := Aside0.mk (Kd.R_far (p := ⟨w.heap.size + 1, 5, none⟩) (Kd.R_far (p := ⟨w.heap.size + 1, 4, none⟩) (Kd.R_far (p := ⟨w.heap.size + 1, 3, none⟩) (Kd.R_far (p := ⟨w.heap.size + 1, 2, none⟩) (Kd.R_far (p := ⟨w.heap.size + 1, 1, none⟩) (Kd.R_far (p := ⟨w.heap.size + 1, 0, none⟩) (Kd.R_bound (R45.out)) (fun k hk => by have := hk.2.1; show k ≠ w.heap.size + 1; omega) (.int .i64 yv.f0)) (fun k hk => by have := hk.2.1; show k ≠ w.heap.size + 1; omega) (.int .i64 yv.f1)) (fun k hk => by have := hk.2.1; show k ≠ w.heap.size + 1; omega) (.int .i64 yv.f2)) (fun k hk => by have := hk.2.1; show k ≠ w.heap.size + 1; omega) (.string yv.f3)) (fun k hk => by have := hk.2.1; show k ≠ w.heap.size + 1; omega) (.slice Y4 yv.f4.length yc4)) (fun k hk => by have := hk.2.1; show k ≠ w.heap.size + 1; omega) (.slice Y5 yv.f5.length yc5))
    have R56 := Aside0.mk (Kd.R_far (p := ⟨w.heap.size + 1, 5, none⟩) (Kd.R_far (p := ⟨w.heap.size + 1, 4, none⟩) (Kd.R_far (p := ⟨w.heap.size + 1, 3, none⟩) (Kd.R_far (p := ⟨w.heap.size + 1, 2, none⟩) (Kd.R_far (p := ⟨w.heap.size + 1, 1, none⟩) (Kd.R_far (p := ⟨w.heap.size + 1, 0, none⟩) (Kd.R_bound (R55.out)) (fun k hk => by have := hk.2.1; show k ≠ w.heap.size + 1; omega) (.int .i64 yv.f0)) (fun k hk => by have := hk.2.1; show k ≠ w.heap.size + 1; omega) (.int .i64 yv.f1)) (fun k hk => by have := hk.2.1; show k ≠ w.heap.size + 1; omega) (.int .i64 yv.f2)) (fun k hk => by have := hk.2.1; show k ≠ w.heap.size + 1; omega) (.string yv.f3)) (fun k hk => by have := hk.2.1; show k ≠ w.heap.size + 1; omega) (.slice Y4 yv.f4.length yc4)) (fun k hk => by have := hk.2.1; show k ≠ w.heap.size + 1; omega) (.slice Y5 yv.f5.length yc5))
    have RY46 := Aside0.mk (Kd.R_far (p := ⟨w.heap.size + 1, 5, none⟩) (Kd.R_far (p := ⟨w.heap.size + 1, 4, none⟩) (Kd.R_far (p := ⟨w.heap.size + 1, 3, none⟩) (Kd.R_far (p := ⟨w.heap.size + 1, 2, none⟩) (Kd.R_far (p := ⟨w.heap.size + 1, 1, none⟩) (Kd.R_far (p := ⟨w.heap.size + 1, 0, none⟩) (Kd.R_bound (RY4.out)) (fun k hk => by have := hk.2.1; show k ≠ w.heap.size + 1; omega) (.int .i64 yv.f0)) (fun k hk => by have := hk.2.1; show k ≠ w.heap.size + 1; omega) (.int .i64 yv.f1)) (fun k hk => by have := hk.2.1; show k ≠ w.heap.size + 1; omega) (.int .i64 yv.f2)) (fun k hk => by have := hk.2.1; show k ≠ w.heap.size + 1; omega) (.string yv.f3)) (fun k hk => by have := hk.2.1; show k ≠ w.heap.size + 1; omega) (.slice Y4 yv.f4.length yc4)) (fun k hk => by have := hk.2.1; show k ≠ w.heap.size + 1; omega) (.slice Y5 yv.f5.length yc5))
    have RY56 := Aside0.mk (Kd.R_far (p := ⟨w.heap.size + 1, 5, none⟩) (Kd.R_far (p := ⟨w.heap.size + 1, 4, none⟩) (Kd.R_far (p := ⟨w.heap.size + 1, 3, none⟩) (Kd.R_far (p := ⟨w.heap.size + 1, 2, none⟩) (Kd.R_far (p := ⟨w.heap.size + 1, 1, none⟩) (Kd.R_far (p := ⟨w.heap.size + 1, 0, none⟩) (Kd.R_bound (RY5.out)) (fun k hk => by have := hk.2.1; show k ≠ w.heap.size + 1; omega) (.int .i64 yv.f0)) (fun k hk => by have := hk.2.1; show k ≠ w.heap.size + 1; omega) (.int .i64 yv.f1)) (fun k hk => by have := hk.2.1; show k ≠ w.heap.size + 1; omega) (.int .i64 yv.f2)) (fun k hk => by have := hk.2.1; show k ≠ w.heap.size + 1; omega) (.string yv.f3)) (fun k hk => by have := hk.2.1; show k ≠ w.heap.size + 1; omega) (.slice Y4 yv.f4.length yc4)) (fun k hk => by have := hk.2.1; show k ≠ w.heap.size + 1; omega) (.slice Y5 yv.f5.length yc5))
    have LOW6 := Aside0.mk (RowKit.Below.setCell (RowKit.Below.setCell (RowKit.Below.setCell (RowKit.Below.setCell (RowKit.Below.setCell (RowKit.Below.setCell (LOW5.out) (p := ⟨w.heap.size + 1, 0, none⟩) (by show w.heap.size ≤ w.heap.size + 1; omega) (.int .i64 yv.f0)) (p := ⟨w.heap.size + 1, 1, none⟩) (by show w.heap.size ≤ w.heap.size + 1; omega) (.int .i64 yv.f1)) (p := ⟨w.heap.size + 1, 2, none⟩) (by show w.heap.size ≤ w.heap.size + 1; omega) (.int .i64 yv.f2)) (p := ⟨w.heap.size + 1, 3, none⟩) (by show w.heap.size ≤ w.heap.size + 1; omega) (.string yv.f3)) (p := ⟨w.heap.size + 1, 4, none⟩) (by show w.heap.size ≤ w.heap.size + 1; omega) (.slice Y4 yv.f4.length yc4)) (p := ⟨w.heap.size + 1, 5, none⟩) (by show w.heap.size ≤ w.heap.size + 1; omega) (.slice Y5 yv.f5.length yc5))
    have hsz6 : (((((((w5.setCell ⟨w.heap.size + 1, 0, none⟩ (.int .i64 yv.f0)).setCell ⟨w.heap.size + 1, 1, none⟩ (.int .i64 yv.f1)).setCell ⟨w.heap.size + 1, 2, none⟩ (.int .i64 yv.f2)).setCell ⟨w.heap.size + 1, 3, none⟩ (.string yv.f3)).setCell ⟨w.heap.size + 1, 4, none⟩ (.slice Y4 yv.f4.length yc4)).setCell ⟨w.heap.size + 1, 5, none⟩ (.slice Y5 yv.f5.length yc5))).heap.size = w5.heap.size := by simp only [World.size_setCell]
    clear p0 p1 p2 p3 p4 p5 q0 q1 q2 q3 q4 q5 s0 s1 s2 s3 s4 s5 X5 P5 Z5 R45 R55 RY4 RY5 LOW5
    generalize ((((((w5.setCell ⟨w.heap.size + 1, 0, none⟩ (.int .i64 yv.f0)).setCell ⟨w.heap.size + 1, 1, none⟩ (.int .i64 yv.f1)).setCell ⟨w.heap.size + 1, 2, none⟩ (.int .i64 yv.f2)).setCell ⟨w.heap.size + 1, 3, none⟩ (.string yv.f3)).setCell ⟨w.heap.size + 1, 4, none⟩ (.slice Y4 yv.f4.length yc4)).setCell ⟨w.heap.size + 1, 5, none⟩ (.slice Y5 yv.f5.length yc5)) = w6 at *
    refine Calls.mono (place_calls xs A' c' key w6 XL.out.2 XL.out.1 (Kd.R_reads' R56.out).2.2) ?_
    rintro e w7 ⟨rfl, hb⟩
    have hs7 : w3.heap.size < w7.heap.size := by have := hb.size; omega
    have hs7a : w1.heap.size < w7.heap.size := by omega
    have hs7b : w.heap.size + 1 + 1 < w7.heap.size := by omega
    have hs7c : w.heap.size + 1 < w7.heap.size := by omega
    have X7 := Aside0.mk (blk_below BX6.out hb)
    have P7 := Aside0.mk (blk_below BP6.out hb)
    have Z7 := Aside0.mk (blk_below BZ6.out hb)
    have R47 := Aside0.mk (Kd.R_mono (ok' := fun _ => True) (Kd.R_below R46.out hb) (fun _ _ => trivial))
    have R57 := Aside0.mk (Kd.R_mono (ok' := fun k => k < w1.heap.size) (Kd.R_below R56.out hb) (fun k hk => hk.1))
    have RY47 := Aside0.mk (Kd.R_mono (ok' := fun k => w3.heap.size + 1 ≤ k ∧ k < w7.heap.size) (Kd.R_bound (Kd.R_below RY46.out hb)) (fun k hk => ⟨hk.2.1, hk.2.2.1⟩))
    have RY57 := Aside0.mk (Kd.R_mono (ok' := fun k => w3.heap.size + 1 ≤ k ∧ k < w7.heap.size) (Kd.R_bound (Kd.R_below RY56.out hb)) (fun k hk => ⟨hk.2.1, hk.2.2.1⟩))
    have LOW7 := Aside0.mk (LOW6.out.trans (hb.mono LOW6.out.size))
    clear hsz6 hs5 hs5a hs5b hs5c hb BX6 BP6 BZ6 R46 R56 RY46 RY56 LOW6
    obtain ⟨q0, q1, q2, q3, q4, q5⟩ := box35 X7.out
    obtain ⟨p0, p1, p2, p3, p4, p5⟩ := box35 P7.out
    obtain ⟨z0, z1, z2, z3, z4, z5⟩ := box35 Z7.out
    have t0 := frz Z7.out (n := 0)
    have t1 := frz Z7.out (n := 1)
    have t2 := frz Z7.out (n := 2)
    have t3 := frz Z7.out (n := 3)
    have t4 := frz Z7.out (n := 4)
    have t5 := frz Z7.out (n := 5)
    cases hh : hasK xs key with
    | true =>
      have hlt := (find_pos XL.out.1 hh).1
      have hkey := find_key XL.out.1 hh
      have hf4 := HF4.out trivial
      have HX3 := Aside0.mk (show res = (if yv.f0 = 0 then xs.eraseIdx (posK xs key) else xs.set (posK xs key) ⟨key, yv⟩) by rw [HX2.out, if_pos hh])
      clear HX2 HF4 hh XL
      rcases row_open (pb := w1.heap.size) R57.out (fun k hk => by omega) with ⟨hv, h0⟩ | ⟨g, cap, f, rps, tA, kA, hv, hlo, hgl, hcap, hm, hAt, hmap, hPM, hf, hsh, hkA⟩
      · rw [h0] at hlt; simp at hlt
      · injection hv with hA _ hc
        subst hA
        subst hc
        have hgw1 : g < w1.heap.size := R57.out.1 g rfl
        have hlen : xs.length = rps.length := by rw [← hmap, List.length_map]
        generalize posK xs key = i0 at *
        by_cases hy : yv.f0 = 0
        · have HX4 := Aside0.mk (show (rps.eraseIdx i0).map (·.p) = res by rw [HX3.out, if_pos hy, ← hmap, map_del])
          have HD := del_row (w.heap.size + 1 + 1 + 1) w1.heap.size g c' i0 (i0 + 1) f rps w7 (by omega) hm hAt hPM hlo (fun j hj => hf j (by rw [hlen]; exact hj)) (by omega) rfl
          obtain ⟨mm, hmm⟩ : ∃ mm, mm = rps.length - 1 := ⟨_, rfl⟩
          rw [show (((i0 + 1 : Nat)) : Int) = (i0 : Int) + 1 by omega, ← hmm, ← hlen] at HD
          have HD' := Aside0.mk HD
          have HL := Aside0.mk (show (rps.eraseIdx i0).length = mm ∧ mm ≤ 9223372036854775807 ∧ mm ≤ c' by rw [List.length_eraseIdx, if_pos (by omega)]; omega)
          have LO := Aside0.mk hlo
          clear HD HX3 hmm hf hPM hAt hmap hsh hkA R57 hlen
          go_wp2_with fail
          refine Calls.mono HD'.out ?_
          rintro e w8 ⟨rfl, hRow, hChg⟩
          have P8 := Aside0.mk ((hChg.2.2 w1.heap.size (by omega) (Ne.symm LO.out.2)).trans P7.out)
          have Z8 := Aside0.mk ((hChg.2.2 (w.heap.size + 1 + 1) (by omega) (by have := LO.out.1; omega)).trans Z7.out)
          have LOW8 := Aside0.mk (LOW7.out.trans (hChg.1 w.heap.size (by have := LO.out.1; omega) (by omega)))
          have ROW8 := Aside0.mk hRow
          have hs8 : w1.heap.size < w8.heap.size := by have := hChg.2.1; omega
          clear hRow hChg p0 p1 p2 p3 p4 p5 z0 z1 z2 z3 z4 z5 t0 t1 t2 t3 t4 t5 q0 q1 q2 q3 q4 q5 P7 Z7 X7 LOW7 HD'
          have u5 := frz P8.out (n := 5)
          obtain ⟨p0, p1, p2, p3, p4, p5⟩ := box35 P8.out
          obtain ⟨z0, z1, z2, z3, z4, z5⟩ := box35 Z8.out
          have t0 := frz Z8.out (n := 0)
          have t1 := frz Z8.out (n := 1)
          have t2 := frz Z8.out (n := 2)
          have t3 := frz Z8.out (n := 3)
          have t4 := frz Z8.out (n := 4)
          have t5 := frz Z8.out (n := 5)
          go_wp2
          have BF := Aside0.mk (six_set (c0 := .int .i64 pv.f0) (c1 := .int .i64 pv.f1) (c2 := .int .i64 pv.f2) (c3 := .string pv.f3) (c4 := .slice A4' n4' c4') (c5 := .slice (some ⟨g, 0, none⟩) mm c') (cell_far (o := 5) (v := .slice (some ⟨g, 0, none⟩) mm c') Z8.out (show w.heap.size + 1 + 1 ≠ w1.heap.size by omega)))
          skip
          have RF5 := Aside0.mk (Row.far (b := w.heap.size + 1 + 1) (o := 5) (v := .slice (some ⟨g, 0, none⟩) mm c') (Row.far (b := w.heap.size + 1 + 1) (o := 4) (v := .slice A4' n4' c4') (Row.far (b := w.heap.size + 1 + 1) (o := 3) (v := .string pv.f3) (Row.far (b := w.heap.size + 1 + 1) (o := 2) (v := .int .i64 pv.f2) (Row.far (b := w.heap.size + 1 + 1) (o := 1) (v := .int .i64 pv.f1) (Row.far (b := w.heap.size + 1 + 1) (o := 0) (v := .int .i64 pv.f0) (Row.far (b := w1.heap.size) (o := 5) (v := .slice (some ⟨g, 0, none⟩) mm c') ROW8.out (.inr rfl)) (.inl (by omega))) (.inl (by omega))) (.inl (by omega))) (.inl (by omega))) (.inl (by omega))) (.inl (by omega)))
          have LF := Aside0.mk (RowKit.Below.setCell (RowKit.Below.setCell (RowKit.Below.setCell (RowKit.Below.setCell (RowKit.Below.setCell (RowKit.Below.setCell (RowKit.Below.setCell LOW8.out (p := ⟨w1.heap.size, 5, none⟩) (by show w.heap.size ≤ w1.heap.size; omega) (.slice (some ⟨g, 0, none⟩) mm c')) (p := ⟨w.heap.size + 1 + 1, 0, none⟩) (by show w.heap.size ≤ w.heap.size + 1 + 1; omega) (.int .i64 pv.f0)) (p := ⟨w.heap.size + 1 + 1, 1, none⟩) (by show w.heap.size ≤ w.heap.size + 1 + 1; omega) (.int .i64 pv.f1)) (p := ⟨w.heap.size + 1 + 1, 2, none⟩) (by show w.heap.size ≤ w.heap.size + 1 + 1; omega) (.int .i64 pv.f2)) (p := ⟨w.heap.size + 1 + 1, 3, none⟩) (by show w.heap.size ≤ w.heap.size + 1 + 1; omega) (.string pv.f3)) (p := ⟨w.heap.size + 1 + 1, 4, none⟩) (by show w.heap.size ≤ w.heap.size + 1 + 1; omega) (.slice A4' n4' c4')) (p := ⟨w.heap.size + 1 + 1, 5, none⟩) (by show w.heap.size ≤ w.heap.size + 1 + 1; omega) (.slice (some ⟨g, 0, none⟩) mm c'))
          generalize (((((((w8.setCell ⟨w1.heap.size, 5, none⟩ (.slice (some ⟨g, 0, none⟩) mm c')).setCell ⟨w.heap.size + 1 + 1, 0, none⟩ (.int .i64 pv.f0)).setCell ⟨w.heap.size + 1 + 1, 1, none⟩ (.int .i64 pv.f1)).setCell ⟨w.heap.size + 1 + 1, 2, none⟩ (.int .i64 pv.f2)).setCell ⟨w.heap.size + 1 + 1, 3, none⟩ (.string pv.f3)).setCell ⟨w.heap.size + 1 + 1, 4, none⟩ (.slice A4' n4' c4')).setCell ⟨w.heap.size + 1 + 1, 5, none⟩ (.slice (some ⟨g, 0, none⟩) mm c')) = WF at *
          clear z0 z1 z2 z3 z4 z5 t0 t1 t2 t3 t4 t5 p0 p1 p2 p3 p4 p5
          obtain ⟨r0, r1, r2, r3, r4, r5⟩ := box35 BF.out
          have g41 := (Kd.R_reads' R47.out).2.1
          have g42 : Kd.F k35 WF (fun k => w.heap.size ≤ k) A4' pv.f4.length pv.f4 := by rw [hf4]; exact fun W' _ => ⟨rfl, by simp, fun h => absurd h (by simp)⟩
          have g52 := Kd.F_mono (ok' := fun k => w.heap.size ≤ k) (RF5.out.closeF (by rw [HL.out.1]; exact HL.out.2.1)) (fun k hk => Nat.le_trans (by omega) hk)
          rw [HX4.out] at g52
          have g53 : mm = res.length := by rw [← HX4.out, List.length_map, HL.out.1]
          have g51 : res.length ≤ c' := by rw [← g53]; exact HL.out.2.2
          refine bodyPost_ret (v := .agg #[.int .i64 pv.f0, .int .i64 pv.f1, .int .i64 pv.f2, .string pv.f3, .slice A4' n4' c4', .slice (some ⟨g, 0, none⟩) mm c']) (by simp [results, Try.results65, go_sem, r0, r1, r2, r3, r4, r5]) rfl ⟨A4', c4', _, _, by rw [HN4.out, g53], by rw [← HN4.out]; exact g41, g42, g51, g52, LF.out⟩

        · obtain ⟨y, hyy⟩ : ∃ y : RP, y = ⟨⟨key, yv⟩, Y4, yc4, Y5, yc5⟩ := ⟨_, rfl⟩
          have hPy : PM w7 (w.heap.size + 1 + 1 + 1) w1.heap.size g y := by
            rw [hyy]
            exact k89_mkM w7 _ _ ⟨key, yv⟩ (Kd.R_lower (Kd.R_mono RY47.out (fun k hk => ⟨⟨hk.2, by omega⟩, by omega⟩)) (by omega)) (Kd.R_lower (Kd.R_mono RY57.out (fun k hk => ⟨⟨hk.2, by omega⟩, by omega⟩)) (by omega))
          have hkey2 : y.p.f0 = (rps.getD i0 default).p.f0 := by
            rw [hyy]
            show key = _
            rw [← hkey, ← hmap, List.getD_eq_getElem?_getD, List.getElem?_map, List.getD_eq_getElem?_getD, List.getElem?_eq_getElem (by omega)]
            rfl
          have HX4 := Aside0.mk (show (rps.set i0 y).map (·.p) = res by rw [HX3.out, if_neg hy, ← hmap, List.map_set, hyy])
          have ROW := Aside0.mk (rep_row hAt (by omega) (fun j hj => hf j (by rw [hlen]; exact hj)) hPM hPy hlo (by omega) hkey2)
          have HL := Aside0.mk (show (rps.set i0 y).length = xs.length ∧ xs.length ≤ 9223372036854775807 ∧ xs.length ≤ c' by rw [List.length_set]; omega)
          have n0 : (0 : Int) ≤ (i0 : Int) := by omega
          have n1 : (i0 : Int) < (xs.length : Int) := by omega
          have hng : w.heap.size + 1 + 1 < g := by have := hlo.1; omega
          have e1 := hAt (i0 * 7 + 1) (by omega)
          have e2 := hAt (i0 * 7 + 2) (by omega)
          have e3 := hAt (i0 * 7 + 3) (by omega)
          have e4 := hAt (i0 * 7 + 4) (by omega)
          have e5 := hAt (i0 * 7 + 5) (by omega)
          have e6 := hAt (i0 * 7 + 6) (by omega)
          obtain ⟨e1, f1⟩ := e1
          obtain ⟨e2, f2⟩ := e2
          obtain ⟨e3, f3⟩ := e3
          obtain ⟨e4, f4⟩ := e4
          obtain ⟨e5, f5⟩ := e5
          obtain ⟨e6, f6⟩ := e6
          generalize f (i0 * 7 + 1) = o1 at *
          generalize f (i0 * 7 + 2) = o2 at *
          generalize f (i0 * 7 + 3) = o3 at *
          generalize f (i0 * 7 + 4) = o4 at *
          generalize f (i0 * 7 + 5) = o5 at *
          generalize f (i0 * 7 + 6) = o6 at *
          have HY := Aside0.mk hyy
          subst hyy
          simp only [] at ROW
          clear HX3 hf hPM hAt hmap hsh hkA R57 hlen hPy hkey2 hkey hlo
          go_wp2
          have hHL := HL.out
          have BF := Aside0.mk (six_set (c0 := .int .i64 pv.f0) (c1 := .int .i64 pv.f1) (c2 := .int .i64 pv.f2) (c3 := .string pv.f3) (c4 := .slice A4' n4' c4') (c5 := .slice (some ⟨g, 0, none⟩) xs.length c') (cell_far (o := i0 * 7 + 1 + 5) (v := .slice Y5 yv.f5.length yc5) (cell_far (o := i0 * 7 + 1 + 4) (v := .slice Y4 yv.f4.length yc4) (cell_far (o := i0 * 7 + 1 + 3) (v := .string yv.f3) (cell_far (o := i0 * 7 + 1 + 2) (v := .int .i64 yv.f2) (cell_far (o := i0 * 7 + 1 + 1) (v := .int .i64 yv.f1) (cell_far (o := i0 * 7 + 1) (v := .int .i64 yv.f0) (Z7.out) (show w.heap.size + 1 + 1 ≠ g by omega)) (show w.heap.size + 1 + 1 ≠ g by omega)) (show w.heap.size + 1 + 1 ≠ g by omega)) (show w.heap.size + 1 + 1 ≠ g by omega)) (show w.heap.size + 1 + 1 ≠ g by omega)) (show w.heap.size + 1 + 1 ≠ g by omega)))
          skip
          have RF5 := Aside0.mk (Row.far (b := w.heap.size + 1 + 1) (o := 5) (v := .slice (some ⟨g, 0, none⟩) xs.length c') (Row.far (b := w.heap.size + 1 + 1) (o := 4) (v := .slice A4' n4' c4') (Row.far (b := w.heap.size + 1 + 1) (o := 3) (v := .string pv.f3) (Row.far (b := w.heap.size + 1 + 1) (o := 2) (v := .int .i64 pv.f2) (Row.far (b := w.heap.size + 1 + 1) (o := 1) (v := .int .i64 pv.f1) (Row.far (b := w.heap.size + 1 + 1) (o := 0) (v := .int .i64 pv.f0) (ROW.out) (.inl (by omega))) (.inl (by omega))) (.inl (by omega))) (.inl (by omega))) (.inl (by omega))) (.inl (by omega)))
          have LF := Aside0.mk (RowKit.Below.setCell (RowKit.Below.setCell (RowKit.Below.setCell (RowKit.Below.setCell (RowKit.Below.setCell (RowKit.Below.setCell (RowKit.Below.setCell (RowKit.Below.setCell (RowKit.Below.setCell (RowKit.Below.setCell (RowKit.Below.setCell (RowKit.Below.setCell (LOW7.out) (p := ⟨g, i0 * 7 + 1, none⟩) (by show w.heap.size ≤ g; omega) (.int .i64 yv.f0)) (p := ⟨g, i0 * 7 + 1 + 1, none⟩) (by show w.heap.size ≤ g; omega) (.int .i64 yv.f1)) (p := ⟨g, i0 * 7 + 1 + 2, none⟩) (by show w.heap.size ≤ g; omega) (.int .i64 yv.f2)) (p := ⟨g, i0 * 7 + 1 + 3, none⟩) (by show w.heap.size ≤ g; omega) (.string yv.f3)) (p := ⟨g, i0 * 7 + 1 + 4, none⟩) (by show w.heap.size ≤ g; omega) (.slice Y4 yv.f4.length yc4)) (p := ⟨g, i0 * 7 + 1 + 5, none⟩) (by show w.heap.size ≤ g; omega) (.slice Y5 yv.f5.length yc5)) (p := ⟨w.heap.size + 1 + 1, 0, none⟩) (by show w.heap.size ≤ w.heap.size + 1 + 1; omega) (.int .i64 pv.f0)) (p := ⟨w.heap.size + 1 + 1, 1, none⟩) (by show w.heap.size ≤ w.heap.size + 1 + 1; omega) (.int .i64 pv.f1)) (p := ⟨w.heap.size + 1 + 1, 2, none⟩) (by show w.heap.size ≤ w.heap.size + 1 + 1; omega) (.int .i64 pv.f2)) (p := ⟨w.heap.size + 1 + 1, 3, none⟩) (by show w.heap.size ≤ w.heap.size + 1 + 1; omega) (.string pv.f3)) (p := ⟨w.heap.size + 1 + 1, 4, none⟩) (by show w.heap.size ≤ w.heap.size + 1 + 1; omega) (.slice A4' n4' c4')) (p := ⟨w.heap.size + 1 + 1, 5, none⟩) (by show w.heap.size ≤ w.heap.size + 1 + 1; omega) (.slice (some ⟨g, 0, none⟩) xs.length c'))
          generalize ((((((((((((w7.setCell ⟨g, i0 * 7 + 1, none⟩ (.int .i64 yv.f0)).setCell ⟨g, i0 * 7 + 1 + 1, none⟩ (.int .i64 yv.f1)).setCell ⟨g, i0 * 7 + 1 + 2, none⟩ (.int .i64 yv.f2)).setCell ⟨g, i0 * 7 + 1 + 3, none⟩ (.string yv.f3)).setCell ⟨g, i0 * 7 + 1 + 4, none⟩ (.slice Y4 yv.f4.length yc4)).setCell ⟨g, i0 * 7 + 1 + 5, none⟩ (.slice Y5 yv.f5.length yc5)).setCell ⟨w.heap.size + 1 + 1, 0, none⟩ (.int .i64 pv.f0)).setCell ⟨w.heap.size + 1 + 1, 1, none⟩ (.int .i64 pv.f1)).setCell ⟨w.heap.size + 1 + 1, 2, none⟩ (.int .i64 pv.f2)).setCell ⟨w.heap.size + 1 + 1, 3, none⟩ (.string pv.f3)).setCell ⟨w.heap.size + 1 + 1, 4, none⟩ (.slice A4' n4' c4')).setCell ⟨w.heap.size + 1 + 1, 5, none⟩ (.slice (some ⟨g, 0, none⟩) xs.length c')) = WF at *
          clear z0 z1 z2 z3 z4 z5 t0 t1 t2 t3 t4 t5 p0 p1 p2 p3 p4 p5
          obtain ⟨r0, r1, r2, r3, r4, r5⟩ := box35 BF.out
          have g41 := (Kd.R_reads' R47.out).2.1
          have g42 : Kd.F k35 WF (fun k => w.heap.size ≤ k) A4' pv.f4.length pv.f4 := by rw [hf4]; exact fun W' _ => ⟨rfl, by simp, fun h => absurd h (by simp)⟩
          have g52 := Kd.F_mono (ok' := fun k => w.heap.size ≤ k) (RF5.out.closeF (by rw [HL.out.1]; exact HL.out.2.1)) (fun k hk => Nat.le_trans (by omega) hk)
          rw [HX4.out] at g52
          have g53 : xs.length = res.length := by rw [← HX4.out, List.length_map, HL.out.1]
          have g51 : res.length ≤ c' := by rw [← g53]; exact HL.out.2.2
          refine bodyPost_ret (v := .agg #[.int .i64 pv.f0, .int .i64 pv.f1, .int .i64 pv.f2, .string pv.f3, .slice A4' n4' c4', .slice (some ⟨g, 0, none⟩) xs.length c']) (by simp [results, Try.results65, go_sem, r0, r1, r2, r3, r4, r5]) rfl ⟨A4', c4', _, _, by rw [HN4.out, g53], by rw [← HN4.out]; exact g41, g42, g51, g52, LF.out⟩

    | false =>
      by_cases hy : yv.f0 = 0
      · have HX3 := Aside0.mk (show res = xs by rw [HX2.out, hh]; simp [hy])
        clear HX2 hh
        go_wp2
        have BF := Aside0.mk (six_set (c0 := .int .i64 pv.f0) (c1 := .int .i64 pv.f1) (c2 := .int .i64 pv.f2) (c3 := .string pv.f3) (c4 := .slice A4' n4' c4') (c5 := .slice A' xs.length c') (Z7.out))
        have RF4 := Aside0.mk (Kd.R_far (p := ⟨w.heap.size + 1 + 1, 5, none⟩) (Kd.R_far (p := ⟨w.heap.size + 1 + 1, 4, none⟩) (Kd.R_far (p := ⟨w.heap.size + 1 + 1, 3, none⟩) (Kd.R_far (p := ⟨w.heap.size + 1 + 1, 2, none⟩) (Kd.R_far (p := ⟨w.heap.size + 1 + 1, 1, none⟩) (Kd.R_far (p := ⟨w.heap.size + 1 + 1, 0, none⟩) (Kd.R_bound (R47.out)) (fun k hk => by have := hk.2.1; show k ≠ w.heap.size + 1 + 1; omega) (.int .i64 pv.f0)) (fun k hk => by have := hk.2.1; show k ≠ w.heap.size + 1 + 1; omega) (.int .i64 pv.f1)) (fun k hk => by have := hk.2.1; show k ≠ w.heap.size + 1 + 1; omega) (.int .i64 pv.f2)) (fun k hk => by have := hk.2.1; show k ≠ w.heap.size + 1 + 1; omega) (.string pv.f3)) (fun k hk => by have := hk.2.1; show k ≠ w.heap.size + 1 + 1; omega) (.slice A4' n4' c4')) (fun k hk => by have := hk.2.1; show k ≠ w.heap.size + 1 + 1; omega) (.slice A' xs.length c'))
        have RF5 := Aside0.mk (Kd.R_far (p := ⟨w.heap.size + 1 + 1, 5, none⟩) (Kd.R_far (p := ⟨w.heap.size + 1 + 1, 4, none⟩) (Kd.R_far (p := ⟨w.heap.size + 1 + 1, 3, none⟩) (Kd.R_far (p := ⟨w.heap.size + 1 + 1, 2, none⟩) (Kd.R_far (p := ⟨w.heap.size + 1 + 1, 1, none⟩) (Kd.R_far (p := ⟨w.heap.size + 1 + 1, 0, none⟩) (Kd.R_bound (R57.out)) (fun k hk => by have := hk.2.1; show k ≠ w.heap.size + 1 + 1; omega) (.int .i64 pv.f0)) (fun k hk => by have := hk.2.1; show k ≠ w.heap.size + 1 + 1; omega) (.int .i64 pv.f1)) (fun k hk => by have := hk.2.1; show k ≠ w.heap.size + 1 + 1; omega) (.int .i64 pv.f2)) (fun k hk => by have := hk.2.1; show k ≠ w.heap.size + 1 + 1; omega) (.string pv.f3)) (fun k hk => by have := hk.2.1; show k ≠ w.heap.size + 1 + 1; omega) (.slice A4' n4' c4')) (fun k hk => by have := hk.2.1; show k ≠ w.heap.size + 1 + 1; omega) (.slice A' xs.length c'))
        have LF := Aside0.mk (RowKit.Below.setCell (RowKit.Below.setCell (RowKit.Below.setCell (RowKit.Below.setCell (RowKit.Below.setCell (RowKit.Below.setCell (LOW7.out) (p := ⟨w.heap.size + 1 + 1, 0, none⟩) (by show w.heap.size ≤ w.heap.size + 1 + 1; omega) (.int .i64 pv.f0)) (p := ⟨w.heap.size + 1 + 1, 1, none⟩) (by show w.heap.size ≤ w.heap.size + 1 + 1; omega) (.int .i64 pv.f1)) (p := ⟨w.heap.size + 1 + 1, 2, none⟩) (by show w.heap.size ≤ w.heap.size + 1 + 1; omega) (.int .i64 pv.f2)) (p := ⟨w.heap.size + 1 + 1, 3, none⟩) (by show w.heap.size ≤ w.heap.size + 1 + 1; omega) (.string pv.f3)) (p := ⟨w.heap.size + 1 + 1, 4, none⟩) (by show w.heap.size ≤ w.heap.size + 1 + 1; omega) (.slice A4' n4' c4')) (p := ⟨w.heap.size + 1 + 1, 5, none⟩) (by show w.heap.size ≤ w.heap.size + 1 + 1; omega) (.slice A' xs.length c'))
        generalize ((((((w7.setCell ⟨w.heap.size + 1 + 1, 0, none⟩ (.int .i64 pv.f0)).setCell ⟨w.heap.size + 1 + 1, 1, none⟩ (.int .i64 pv.f1)).setCell ⟨w.heap.size + 1 + 1, 2, none⟩ (.int .i64 pv.f2)).setCell ⟨w.heap.size + 1 + 1, 3, none⟩ (.string pv.f3)).setCell ⟨w.heap.size + 1 + 1, 4, none⟩ (.slice A4' n4' c4')).setCell ⟨w.heap.size + 1 + 1, 5, none⟩ (.slice A' xs.length c')) = WF at *
        clear z0 z1 z2 z3 z4 z5 t0 t1 t2 t3 t4 t5 p0 p1 p2 p3 p4 p5
        obtain ⟨r0, r1, r2, r3, r4, r5⟩ := box35 BF.out
        obtain ⟨_, g41, _⟩ := Kd.R_reads' (Kd.R_mono RF4.out (fun _ _ => trivial) : k35.R 35 WF (w.heap.size + 1 + 1 + 1) (fun _ => True) (.slice A4' n4' c4') pv.f4)
        have g42 : Kd.F k35 WF (fun k => w.heap.size ≤ k) A4' pv.f4.length pv.f4 := by
          have h := Kd.F_mono (Kd.R_F (Kd.R_bound RF4.out)) (fun k hk => show w.heap.size ≤ k from Nat.le_trans (by omega) hk.2.1)
          rw [HN4.out] at h
          exact h
        obtain ⟨g5a, g51, _⟩ := Kd.R_reads' (Kd.R_mono RF5.out (fun _ _ => trivial) : k89.R 89 WF (w.heap.size + 1 + 1 + 1) (fun _ => True) (.slice A' xs.length c') xs)
        have g52 : Kd.F k89 WF (fun k => w.heap.size ≤ k) A' xs.length xs := Kd.F_mono (Kd.R_F (Kd.R_bound RF5.out)) (fun k hk => Nat.le_trans (by omega) hk.2.1)
        have g50 := HX3.out
        rw [← HX3.out] at g51 g52
        refine bodyPost_ret (v := .agg #[.int .i64 pv.f0, .int .i64 pv.f1, .int .i64 pv.f2, .string pv.f3, .slice A4' n4' c4', .slice A' xs.length c']) (by simp [results, Try.results65, go_sem, r0, r1, r2, r3, r4, r5]) rfl ⟨A4', c4', _, _, by rw [HN4.out, g50], by rw [← HN4.out]; exact g41, g42, g51, g52, LF.out⟩

      · have HX3 := Aside0.mk (show res = xs.take (posK xs key) ++ ⟨key, yv⟩ :: xs.drop (posK xs key) by rw [HX2.out, hh]; simp [hy])
        have hf4 := HF4.out trivial
        have hle : posK xs key ≤ xs.length := List.countP_le_length
        have hx9 := XL.out.2
        clear HX2 hh HF4 XL
        generalize posK xs key = i0 at *
        have HI := Aside0.mk (ins_any (w := w7) (lo := w.heap.size + 1 + 1 + 1) (pb := w1.heap.size) (b2 := w.heap.size + 1 + 1) (base2 := w3.heap.size + 1) key yv R57.out hx9 i0 hle (by omega) (by omega) (by omega) (by omega) RY47.out RY57.out)
        clear R57 RY47 RY57
        go_wp2_with fail
        refine Calls.mono HI.out ?_
        rintro e w8 ⟨g, cap, rps, rfl, h1, h2, h3, h4, h5, h6, h7⟩
        have P8 := Aside0.mk (h4.trans P7.out)
        have Z8 := Aside0.mk (h5.trans Z7.out)
        have LOW8 := Aside0.mk (LOW7.out.trans (h6.mono (show w.heap.size ≤ w.heap.size + 1 + 1 by omega)))
        have ROW8 := Aside0.mk h3
        have HX4 := Aside0.mk (show rps.map (·.p) = res by rw [h2, HX3.out])
        obtain ⟨mm, hmm⟩ : ∃ mm, mm = xs.length + 1 := ⟨_, rfl⟩
        have hrl : rps.length = xs.length + 1 := by have h9 := congrArg List.length h2; simp at h9; omega
        have HL := Aside0.mk (show rps.length = mm ∧ mm ≤ 9223372036854775807 ∧ mm ≤ cap by omega)
        rw [← hmm]
        have hs8 : w1.heap.size < w8.heap.size := by omega
        clear hmm hrl h1 h2 h3 h4 h5 h6 h7 p0 p1 p2 p3 p4 p5 z0 z1 z2 z3 z4 z5 t0 t1 t2 t3 t4 t5 q0 q1 q2 q3 q4 q5 P7 Z7 X7 LOW7 HI HX3
        have u5 := frz P8.out (n := 5)
        obtain ⟨p0, p1, p2, p3, p4, p5⟩ := box35 P8.out
        obtain ⟨z0, z1, z2, z3, z4, z5⟩ := box35 Z8.out
        have t0 := frz Z8.out (n := 0)
        have t1 := frz Z8.out (n := 1)
        have t2 := frz Z8.out (n := 2)
        have t3 := frz Z8.out (n := 3)
        have t4 := frz Z8.out (n := 4)
        have t5 := frz Z8.out (n := 5)
        go_wp2
        have BF := Aside0.mk (six_set (c0 := .int .i64 pv.f0) (c1 := .int .i64 pv.f1) (c2 := .int .i64 pv.f2) (c3 := .string pv.f3) (c4 := .slice A4' n4' c4') (c5 := .slice (some ⟨g, 0, none⟩) mm cap) (cell_far (o := 5) (v := .slice (some ⟨g, 0, none⟩) mm cap) Z8.out (show w.heap.size + 1 + 1 ≠ w1.heap.size by omega)))
        skip
        have RF5 := Aside0.mk (Row.far (b := w.heap.size + 1 + 1) (o := 5) (v := .slice (some ⟨g, 0, none⟩) mm cap) (Row.far (b := w.heap.size + 1 + 1) (o := 4) (v := .slice A4' n4' c4') (Row.far (b := w.heap.size + 1 + 1) (o := 3) (v := .string pv.f3) (Row.far (b := w.heap.size + 1 + 1) (o := 2) (v := .int .i64 pv.f2) (Row.far (b := w.heap.size + 1 + 1) (o := 1) (v := .int .i64 pv.f1) (Row.far (b := w.heap.size + 1 + 1) (o := 0) (v := .int .i64 pv.f0) (Row.far (b := w1.heap.size) (o := 5) (v := .slice (some ⟨g, 0, none⟩) mm cap) ROW8.out (.inr rfl)) (.inl (by omega))) (.inl (by omega))) (.inl (by omega))) (.inl (by omega))) (.inl (by omega))) (.inl (by omega)))
        have LF := Aside0.mk (RowKit.Below.setCell (RowKit.Below.setCell (RowKit.Below.setCell (RowKit.Below.setCell (RowKit.Below.setCell (RowKit.Below.setCell (RowKit.Below.setCell LOW8.out (p := ⟨w1.heap.size, 5, none⟩) (by show w.heap.size ≤ w1.heap.size; omega) (.slice (some ⟨g, 0, none⟩) mm cap)) (p := ⟨w.heap.size + 1 + 1, 0, none⟩) (by show w.heap.size ≤ w.heap.size + 1 + 1; omega) (.int .i64 pv.f0)) (p := ⟨w.heap.size + 1 + 1, 1, none⟩) (by show w.heap.size ≤ w.heap.size + 1 + 1; omega) (.int .i64 pv.f1)) (p := ⟨w.heap.size + 1 + 1, 2, none⟩) (by show w.heap.size ≤ w.heap.size + 1 + 1; omega) (.int .i64 pv.f2)) (p := ⟨w.heap.size + 1 + 1, 3, none⟩) (by show w.heap.size ≤ w.heap.size + 1 + 1; omega) (.string pv.f3)) (p := ⟨w.heap.size + 1 + 1, 4, none⟩) (by show w.heap.size ≤ w.heap.size + 1 + 1; omega) (.slice A4' n4' c4')) (p := ⟨w.heap.size + 1 + 1, 5, none⟩) (by show w.heap.size ≤ w.heap.size + 1 + 1; omega) (.slice (some ⟨g, 0, none⟩) mm cap))
        generalize (((((((w8.setCell ⟨w1.heap.size, 5, none⟩ (.slice (some ⟨g, 0, none⟩) mm cap)).setCell ⟨w.heap.size + 1 + 1, 0, none⟩ (.int .i64 pv.f0)).setCell ⟨w.heap.size + 1 + 1, 1, none⟩ (.int .i64 pv.f1)).setCell ⟨w.heap.size + 1 + 1, 2, none⟩ (.int .i64 pv.f2)).setCell ⟨w.heap.size + 1 + 1, 3, none⟩ (.string pv.f3)).setCell ⟨w.heap.size + 1 + 1, 4, none⟩ (.slice A4' n4' c4')).setCell ⟨w.heap.size + 1 + 1, 5, none⟩ (.slice (some ⟨g, 0, none⟩) mm cap)) = WF at *
        clear z0 z1 z2 z3 z4 z5 t0 t1 t2 t3 t4 t5 p0 p1 p2 p3 p4 p5
        obtain ⟨r0, r1, r2, r3, r4, r5⟩ := box35 BF.out
        have g41 := (Kd.R_reads' R47.out).2.1
        have g42 : Kd.F k35 WF (fun k => w.heap.size ≤ k) A4' pv.f4.length pv.f4 := by rw [hf4]; exact fun W' _ => ⟨rfl, by simp, fun h => absurd h (by simp)⟩
        have g52 := Kd.F_mono (ok' := fun k => w.heap.size ≤ k) (RF5.out.closeF (by rw [HL.out.1]; exact HL.out.2.1)) (fun k hk => Nat.le_trans (by omega) hk)
        rw [HX4.out] at g52
        have g53 : mm = res.length := by rw [← HX4.out, List.length_map, HL.out.1]
        have g51 : res.length ≤ cap := by rw [← g53]; exact HL.out.2.2
        refine bodyPost_ret (v := .agg #[.int .i64 pv.f0, .int .i64 pv.f1, .int .i64 pv.f2, .string pv.f3, .slice A4' n4' c4', .slice (some ⟨g, 0, none⟩) mm cap]) (by simp [results, Try.results65, go_sem, r0, r1, r2, r3, r4, r5]) rfl ⟨A4', c4', _, _, by rw [HN4.out, g53], by rw [← HN4.out]; exact g41, g42, g51, g52, LF.out⟩
theorem with_calls (v x : S35) (key : ByteArray) (A4 : Option Addr) (c4 : Nat) (A5 : Option Addr) (c5 : Nat) (B4 : Option Addr) (d4 : Nat) (B5 : Option Addr) (d5 : Nat) (w : World) (fv : fewV v) (fx : fewV x) (la4v : v.f4.length ≤ c4) (ra4v : k35.C w A4 v.f4.length v.f4) (la5v : v.f5.length ≤ c5) (ra5v : k89.C w A5 v.f5.length v.f5) (la4x : x.f4.length ≤ d4) (ra4x : k35.C w B4 x.f4.length x.f4) (la5x : x.f5.length ≤ d5) (ra5x : k89.C w B5 x.f5.length x.f5) :
    Calls Try.prog 65 #[.agg #[.int .i64 v.f0, .int .i64 v.f1, .int .i64 v.f2, .string v.f3, .slice A4 v.f4.length c4, .slice A5 v.f5.length c5], .string key, .agg #[.int .i64 x.f0, .int .i64 x.f1, .int .i64 x.f2, .string x.f3, .slice B4 x.f4.length d4, .slice B5 x.f5.length d5]] w fun e w' => ∃ (a4 : Option Addr) (n4 : Nat) (a5 : Option Addr) (n5 : Nat), e = .returned (.agg #[.int .i64 (plain v).f0, .int .i64 (plain v).f1, .int .i64 (plain v).f2, .string (plain v).f3, .slice a4 (plain v).f4.length n4, .slice a5 (withD v key x).length n5]) ∧ (plain v).f4.length ≤ n4 ∧ k35.C w' a4 (plain v).f4.length (plain v).f4 ∧ (withD v key x).length ≤ n5 ∧ k89.C w' a5 (withD v key x).length (withD v key x) ∧ RowKit.Below w.heap.size w w' :=
  (with_callsF v x key A4 c4 A5 c5 B4 d4 B5 d5 w fv fx la4v ra4v la5v ra5v la4x ra4x la5x ra5x).mono fun e w' ⟨a4, n4, a5, n5, he, h1, h2, h3, h4, hb⟩ => ⟨a4, n4, a5, n5, he, h1, Kd.F_now h2, h3, Kd.F_now h4, hb⟩
end Go.Proofs.Ytogpnkkoablmiaa.V
end
section
namespace Go.Proofs.Ytogpnkkoablmiaa.V
open Go.Shelf Go.RowKit Go.Lib Go.Sort Go.Proofs.Ytogpnkkoablmiaa.Q Go.Proofs.YtogpnkkoablmiaaW.PrintWords Go.Proofs.YtogpnkkoablmiaaW.PrintLast Go.Proofs.YtogpnkkoablmiaaW.PrintMore
set_option linter.unusedVariables false
set_option linter.unusedSimpArgs false
theorem mem_pairsP (d : List S89) (p : S89) : p ∈ pairsP d ↔ (d.map (fun p => (⟨p.f0, plain p.f1⟩ : S89))).find? (fun y => decide (y.f0.data = p.f0.data)) = some p ∧ p.f1.f0 ≠ 0 := by
  have h := (fst_fold (d.map (fun p => (⟨p.f0, plain p.f1⟩ : S89))) [] [] fst_nil).2 p
  unfold pairsP
  rw [List.mem_filter, h, List.nil_append]
  simp
end Go.Proofs.Ytogpnkkoablmiaa.V
end
