/- Parts of the proof: what the theorem reaches, put together by a program of this session. -/
import Derived.ArgAppend
import Derived.Below
import Derived.BigGuardPart
import Derived.BigQuiet
import Derived.BigRegion
import Derived.Deep.AppendLies
import Derived.Deep.CutBlock
import Derived.Deep.DeepCutAuto
import Derived.Deep.Draws
import Derived.Deep.LoopGhost
import Derived.Deep.OwnRows
import Derived.Deep.QuietTactic
import Derived.Deep.RegionHeld3
import Derived.Deep.RegionLaw
import Derived.KernelRfl
import Derived.Laws.BitsLemmas
import Derived.Laws.BytesArg
import Derived.Laws.EntriesVeiled
import Derived.Laws.IdiomCopy
import Derived.Laws.MakeOwn
import Derived.Laws.OwnMore
import Derived.Laws.Rows
import Derived.Laws.Slices
import Derived.Laws.StructEq
import Derived.Lib.AppendIntMem
import Derived.Lib.AppendStr
import Derived.Lib.Bytealg
import Derived.Lib.ConvBytes
import Derived.Lib.Hide
import Derived.Lib.OwnBridge
import Derived.Lib.SliceRun
import Derived.Maps.AppendAt
import Derived.Maps.OwnOps
import Derived.Maps.Views
import Derived.OpenShut
import Derived.OrdersHeld
import Derived.Outline
import Derived.OwnWalk
import Derived.RowKit
import Derived.RowKit3
import Derived.Shelf.SlSortCmp.KitK
import Derived.Shelf.Spec.SlicesInsertGrow
import Derived.Sort.LotA
import Derived.Sort.WalkB12
import Derived.Sort.WalkB2
import Derived.Tactics
import Derived.Test.YtogpnkkoablmiaaProg
import Derived.WalkKit
import Derived.WalkLawsBesides
import Derived.WideLaws
import Derived.Test.YtogpnkkoablmiaaBB1
import Derived.Test.YtogpnkkoablmiaaBB2
import Derived.Test.YtogpnkkoablmiaaBB3
import Derived.Test.YtogpnkkoablmiaaBB4
import Derived.Test.YtogpnkkoablmiaaBB5
import Derived.Test.YtogpnkkoablmiaaBB6
import Derived.Test.YtogpnkkoablmiaaBB7
import Derived.Test.YtogpnkkoablmiaaBB9
import Derived.Test.YtogpnkkoablmiaaBB10
import Derived.Test.YtogpnkkoablmiaaBB11
import Derived.Test.YtogpnkkoablmiaaBB12
import Derived.Test.YtogpnkkoablmiaaBB13
import Derived.Test.YtogpnkkoablmiaaBB14
import Derived.Test.YtogpnkkoablmiaaBB15
import Derived.Test.YtogpnkkoablmiaaBB16
import Derived.Test.YtogpnkkoablmiaaBB17
import Derived.Test.YtogpnkkoablmiaaBB18
import Derived.Test.YtogpnkkoablmiaaBB19
import Derived.Test.YtogpnkkoablmiaaBB20
import Derived.Test.YtogpnkkoablmiaaBB21
import Derived.Test.YtogpnkkoablmiaaBB22
import Derived.Test.YtogpnkkoablmiaaBB23
import Derived.Test.YtogpnkkoablmiaaBB24
section
namespace Go.Proofs.Ytogpnkkoablmiaa.P
open Go.RowKit Go.Proofs.Ytogpnkkoablmiaa.V Go.Proofs.Ytogpnkkoablmiaa.U Go.Proofs.Ytogpnkkoablmiaa.R Go.Proofs.Ytogpnkkoablmiaa.Q Go.Proofs.YtogpnkkoablmiaaW.PrintWords Go.Proofs.YtogpnkkoablmiaaW.PrintLast
set_option linter.unusedVariables false
set_option linter.unusedSimpArgs false
theorem dict_pairs (d : List S89) : (plain ⟨6, 0, 0, ⟨#[]⟩, [], d⟩).f5 = pairsP d := by rw [plain_eq]; simp
theorem find_plain (d : List S89) (key : ByteArray) : (d.map (fun p => (⟨p.f0, plain p.f1⟩ : S89))).find? (fun y => decide (y.f0.data = key.data)) = (d.find? (fun y => decide (y.f0.data = key.data))).map (fun p => (⟨p.f0, plain p.f1⟩ : S89)) := by
  rw [List.find?_map]; rfl
theorem first_some {d : List S89} {key : ByteArray} {p : S89} (h : d.find? (fun y => decide (y.f0.data = key.data)) = some p) (hn : (plain p.f1).f0 ≠ 0) : hk d key = true ∧ gk d key = plain p.f1 := by
  have hkey : p.f0.data = key.data := by simpa using List.find?_some h
  have hm : (⟨p.f0, plain p.f1⟩ : S89) ∈ pairsP d := by
    rw [mem_pairsP]
    refine ⟨?_, hn⟩
    show (d.map _).find? (fun y : S89 => decide (y.f0.data = p.f0.data)) = _
    rw [hkey, find_plain, h]; rfl
  have hh : hk d key = true := by
    unfold hk hasK
    rw [dict_pairs, List.any_eq_true]
    exact ⟨_, hm, by simpa using hkey⟩
  refine ⟨hh, ?_⟩
  unfold gk getV
  rw [dict_pairs]
  unfold hk at hh
  rw [dict_pairs] at hh
  cases hf : (pairsP d).find? (fun p => decide (p.f0.data = key.data)) with
  | none =>
    rw [List.find?_eq_none] at hf
    exact absurd (by simpa using hkey) (hf _ hm)
  | some q =>
    have h1 := List.mem_of_find?_eq_some hf
    have h2 : q.f0.data = key.data := by simpa using List.find?_some hf
    rw [mem_pairsP] at h1
    have h3 := h1.1
    rw [h2, find_plain, h] at h3
    have h4 := Option.some.inj h3
    show q.f1 = _
    rw [← h4]
theorem first_none {d : List S89} {key : ByteArray} (h : ∀ p ∈ d, p.f0.data ≠ key.data) : hk d key = false ∧ gk d key = z35 := by
  have hh : hk d key = false := by
    unfold hk hasK
    rw [dict_pairs]
    cases hb : (pairsP d).any (fun x => decide (x.f0.data = key.data)) with
    | false => rfl
    | true =>
      obtain ⟨q, hq, hk⟩ := List.any_eq_true.1 hb
      rw [mem_pairsP] at hq
      have hm := List.mem_of_find?_eq_some hq.1
      obtain ⟨x, hx, e⟩ := List.mem_map.1 hm
      have : x.f0 = q.f0 := by rw [← e]
      exact absurd (by rw [this]; simpa using hk) (h x hx)
  exact ⟨hh, gk_none hh⟩
theorem sum4 {t : Int} (h0 : 0 ≤ t) (h1 : t ≤ 4294967295) : (H.putS t 4).1.size = 4 ∧ fl 0 (bytesOf (H.putS t 4).1) = t := by
  have hw : ¬ (4 < G.wd t) := by
    have := (H.wd_iff t h0 (by omega) 4 (by omega)).2 (by omega)
    omega
  have e : (H.putS t 4).1 = strOfNums (H.be t 4) := by
    unfold H.putS
    simp [show ¬ t < 0 by omega, hw, show t < 4294967296 by omega]
  rw [e]
  refine ⟨by rw [H.str_size, H.be_length], ?_⟩
  rw [H.bytes_str _ (H.be_range 4 t)]
  exact H.val_be 4 t h0 (by omega)
theorem of_back (t0 t1 t2 t3 t4 t5 : Int) (more : List S89) (hc : chkT t0 t1 t2 t3 t4 t5 = 0) (hp : ∀ p ∈ more, p.f0.data ≠ #[80, 114, 101, 118] ∧ p.f0.data ≠ #[82, 111, 111, 116]) :
    ofS (prT t0 t1 t2 t3 t4 t5 ++ more) = (t0, t1, t2, t3, t4, t5, 0) := by
  have hc2 := hc
  unfold chkT at hc2
  split at hc2
  case isFalse => cases hc2
  rename_i hg
  obtain ⟨s1, s2⟩ := sum4 hg.2.2.2.2.1 hg.2.2.2.2.2
  have k1 : (prT t0 t1 t2 t3 t4 t5 ++ more).find? (fun y => decide (y.f0.data = (⟨#[67, 114, 99]⟩ : ByteArray).data)) = some ⟨⟨#[67, 114, 99]⟩, ⟨4, 0, 0, (H.putS t5 4).1, [], []⟩⟩ := by
    simp [prT]
  have k2 : (prT t0 t1 t2 t3 t4 t5 ++ more).find? (fun y => decide (y.f0.data = (⟨#[76, 101, 110]⟩ : ByteArray).data)) = some (kvI ⟨#[76, 101, 110]⟩ t4) := by
    simp [prT, kvI]
  have k5 : (prT t0 t1 t2 t3 t4 t5 ++ more).find? (fun y => decide (y.f0.data = (⟨#[83, 105, 122, 101]⟩ : ByteArray).data)) = some (kvI ⟨#[83, 105, 122, 101]⟩ t0) := by
    by_cases h1 : 0 ≤ t1 <;> by_cases h2 : 0 < t2 <;> simp [prT, kvI, h1, h2]
  obtain ⟨b1, x1⟩ := first_some k1 (by rw [plain_eq]; simp)
  obtain ⟨b2, x2⟩ := first_some k2 (by rw [plain_eq]; simp [kvI])
  obtain ⟨b5, x5⟩ := first_some k5 (by rw [plain_eq]; simp [kvI])
  have x1' : gk (prT t0 t1 t2 t3 t4 t5 ++ more) ⟨#[67, 114, 99]⟩ = ⟨4, 0, 0, (H.putS t5 4).1, [], []⟩ := by rw [x1, plain_eq]; simp
  have x2' : gk (prT t0 t1 t2 t3 t4 t5 ++ more) ⟨#[76, 101, 110]⟩ = ⟨2, t4, 0, ⟨#[]⟩, [], []⟩ := by rw [x2, plain_eq]; simp [kvI]
  have x5' : gk (prT t0 t1 t2 t3 t4 t5 ++ more) ⟨#[83, 105, 122, 101]⟩ = ⟨2, t0, 0, ⟨#[]⟩, [], []⟩ := by rw [x5, plain_eq]; simp [kvI]
  have h3 : (hk (prT t0 t1 t2 t3 t4 t5 ++ more) ⟨#[80, 114, 101, 118]⟩ = true ∧ gk (prT t0 t1 t2 t3 t4 t5 ++ more) ⟨#[80, 114, 101, 118]⟩ = ⟨2, t1, 0, ⟨#[]⟩, [], []⟩ ∧ 0 ≤ t1) ∨ (hk (prT t0 t1 t2 t3 t4 t5 ++ more) ⟨#[80, 114, 101, 118]⟩ = false ∧ gk (prT t0 t1 t2 t3 t4 t5 ++ more) ⟨#[80, 114, 101, 118]⟩ = z35 ∧ t1 = -1) := by
    by_cases h1 : 0 ≤ t1
    · have k3 : (prT t0 t1 t2 t3 t4 t5 ++ more).find? (fun y => decide (y.f0.data = (⟨#[80, 114, 101, 118]⟩ : ByteArray).data)) = some (kvI ⟨#[80, 114, 101, 118]⟩ t1) := by
        simp [prT, kvI, h1]
      obtain ⟨b3, x3⟩ := first_some k3 (by rw [plain_eq]; simp [kvI])
      exact .inl ⟨b3, by rw [x3, plain_eq]; simp [kvI], h1⟩
    · have hn : ∀ p ∈ prT t0 t1 t2 t3 t4 t5 ++ more, p.f0.data ≠ (⟨#[80, 114, 101, 118]⟩ : ByteArray).data := by
        intro p hm
        rcases List.mem_append.1 hm with hm | hm
        · by_cases h2 : 0 < t2 <;> simp [prT, kvI, h1, h2] at hm <;> rcases hm with rfl | rfl | rfl | rfl <;> simp
        · exact (hp p hm).1
      obtain ⟨b3, x3⟩ := first_none hn
      exact .inr ⟨b3, x3, by omega⟩
  have h4 : (hk (prT t0 t1 t2 t3 t4 t5 ++ more) ⟨#[82, 111, 111, 116]⟩ = true ∧ gk (prT t0 t1 t2 t3 t4 t5 ++ more) ⟨#[82, 111, 111, 116]⟩ = ⟨7, t2, t3, ⟨#[]⟩, [], []⟩) ∨ (hk (prT t0 t1 t2 t3 t4 t5 ++ more) ⟨#[82, 111, 111, 116]⟩ = false ∧ gk (prT t0 t1 t2 t3 t4 t5 ++ more) ⟨#[82, 111, 111, 116]⟩ = z35 ∧ t2 = 0 ∧ t3 = 0) := by
    by_cases h2 : 0 < t2
    · have k4 : (prT t0 t1 t2 t3 t4 t5 ++ more).find? (fun y => decide (y.f0.data = (⟨#[82, 111, 111, 116]⟩ : ByteArray).data)) = some ⟨⟨#[82, 111, 111, 116]⟩, ⟨7, t2, t3, ⟨#[]⟩, [], []⟩⟩ := by
        by_cases h1 : 0 ≤ t1 <;> simp [prT, kvI, h1, h2]
      obtain ⟨b4, x4⟩ := first_some k4 (by rw [plain_eq]; simp)
      exact .inl ⟨b4, by rw [x4, plain_eq]; simp⟩
    · have hn : ∀ p ∈ prT t0 t1 t2 t3 t4 t5 ++ more, p.f0.data ≠ (⟨#[82, 111, 111, 116]⟩ : ByteArray).data := by
        intro p hm
        rcases List.mem_append.1 hm with hm | hm
        · by_cases h1 : 0 ≤ t1 <;> simp [prT, kvI, h1, h2] at hm <;> rcases hm with rfl | rfl | rfl | rfl <;> simp
        · exact (hp p hm).2
      obtain ⟨b4, x4⟩ := first_none hn
      refine .inr ⟨b4, x4, ?_⟩
      rcases hg.1 with h | h
      · exact h
      · omega
  unfold ofS
  rw [x1', x2', x5', b1, b2, b5]
  rcases h3 with ⟨b3, x3, g3⟩ | ⟨b3, x3, rfl⟩ <;> rcases h4 with ⟨b4, x4⟩ | ⟨b4, x4, rfl, rfl⟩ <;> rw [b3, x3, b4, x4] <;> simp [ofB, s1, s2, hc, z35]
  all_goals omega
end Go.Proofs.Ytogpnkkoablmiaa.P
end
section
namespace Go.Proofs.Ytogpnkkoablmiaa.V
open Go.Shelf Go.RowKit Go.Lib Go.Sort Go.Proofs.Ytogpnkkoablmiaa.R Go.Proofs.Ytogpnkkoablmiaa.Q Go.Proofs.YtogpnkkoablmiaaW.PrintWords Go.Proofs.YtogpnkkoablmiaaW.PrintLast Go.Proofs.YtogpnkkoablmiaaW.PrintMore
set_option linter.unusedVariables false
set_option linter.unusedSimpArgs false
theorem app_zero {w : World} {base : Nat} (hbw : base ≤ w.heap.size) (vb : Nat) (xs : List S89) (A : Option Addr) (c : Nat) (hx : k89.C w A xs.length xs) (h0 : 0 < xs.length) (hl : xs.length ≤ 90000) :
    ∃ (v' : Value) (w' : World) (rps : List RP), (∀ ty, (Builtin.append_ #[33, 33] ty #[.slice (some ⟨vb, 0, none⟩) 0 0, .slice A xs.length c]).run Try.prog w = .ok v' w') ∧ Lst w' base v' rps ∧ rps.map (·.p) = xs ∧ (∀ x ∈ rps, Good w x) ∧ RowKit.Below base w w' := by
  have hu33 := Try.underlying33
  obtain ⟨i0, hi0, hz0, hz1, hz2⟩ := info_parts info89
  obtain ⟨rps, hm, hR, hG⟩ := raw_of hx
  have hrl : rps.length = xs.length := by rw [← hm, List.length_map]
  obtain ⟨ad, rfl, hc⟩ := hR.2.2 h0
  obtain ⟨news, hnews⟩ : ∃ news, news = cut (rowf rps) 0 (xs.length * 7) := ⟨_, rfl⟩
  have hnl : news.length = xs.length * 7 := by rw [hnews, cut_len]
  have hsrc : Src Try.prog i0.size 33 (.slice (some ad) xs.length c) xs.length news w := by
    rw [hz1]
    refine Src.ofSlice w hu33 ad xs.length c news hnl (fun j u hj => ?_) (by rw [hnews]; exact cut_one (fun j _ => rowf_one rps j) (Nat.le_refl (0 + xs.length * 7)))
    have hj2 : j < xs.length * 7 := by have := (List.getElem?_eq_some_iff.1 hj).1; rwa [hnl] at this
    rw [hnews, cut_get _ _ _ _ hj2, Nat.zero_add] at hj
    obtain ⟨cc, hcl, hce, hcell⟩ := hc (j / 7) (rps.getD (j / 7) default) (by rw [List.getD_eq_getElem?_getD, List.getElem?_eq_getElem (by omega)]; rfl)
    have h1 := hcell (j % 7) u (by
      rw [hce]
      have h7 : j % 7 < (encP (rps.getD (j / 7) default)).length := by rw [encP_len]; omega
      rw [List.getElem?_eq_getElem h7, ← hj]
      unfold rowf
      rw [List.getD_eq_getElem?_getD (l := encP _), List.getElem?_eq_getElem h7]
      rfl)
    rwa [show j / 7 * 7 + j % 7 = j by omega] at h1
  have hold : (Builtin.firstCells i0.size 0 (.slice (some ⟨vb, 0, none⟩) 0 0)).run Try.prog w.drew = .ok (#[] : Array Value) w.drew := by
    rw [hz1]
    exact run_firstCells_some w.drew 7 0 ⟨vb, 0, none⟩ 0 0 [] (by simp) (fun j u hj => by simp at hj)
  have hrun : ∀ ty, (Builtin.append_ #[33, 33] ty #[.slice (some ⟨vb, 0, none⟩) 0 0, .slice (some ad) xs.length c]).run Try.prog w = _ := fun ty =>
    run_append_grow_src w 33 33 ty 89 i0 _ hu33 hi0 hz0 (some ⟨vb, 0, none⟩) 0 0 _ hold _ xs.length _ hsrc (by omega) (by omega) (by rw [hz2]; exact growslice_fits (by omega) (by omega))
  obtain ⟨G, hGe⟩ : ∃ G, G = grownCap w (0 + xs.length) 0 89 := ⟨_, rfl⟩
  have hGn : 0 + xs.length ≤ G := by rw [hGe]; exact grownCap_ge w _ _ _
  have hG63 : G ≤ 9223372036854775807 := by
    have := grownCap_le_maxLen w (0 + xs.length) 0 89 (by unfold maxLen; omega)
    rw [← hGe] at this
    unfold maxLen at this
    omega
  rw [← hGe] at hrun
  obtain ⟨row, hrow⟩ : ∃ row, row = (([] : List Value) ++ news).toArray ++ Builtin.zeroCells (Value.agg #[.string ⟨#[]⟩, .int .i64 0, .int .i64 0, .int .i64 0, .string ⟨#[]⟩, .slice none 0 0, .slice none 0 0]).cells (G - (0 + xs.length)) := ⟨_, rfl⟩
  have hrow2 : row = news.toArray ++ Builtin.zeroCells (Value.agg #[.string ⟨#[]⟩, .int .i64 0, .int .i64 0, .int .i64 0, .string ⟨#[]⟩, .slice none 0 0, .slice none 0 0]).cells (G - (0 + xs.length)) := by rw [hrow]; simp
  have hrs : G * 7 ≤ row.size := by
    rw [hrow2, Array.size_append]
    simp [Builtin.zeroCells, Value.cells, hnl]
    omega
  refine ⟨_, _, rps, hrun, ⟨w.heap.size, G, fun j => row.getD j default, by rw [hrl, Nat.zero_add], hbw, by rw [World.size_alloc]; show base ≤ w.heap.size + 1; omega, ?_, fun j hj => ?_, by omega, hG63⟩, hm, hG, below_alloc_le hbw⟩
  · refine at_new w.drew _ (G * 7) _ 89 ?_ (fun j hj => ?_)
    · rw [← hrow]; exact hrs
    · show _ = row.getD j default
      rw [Array.getD_eq_getD_getElem?, Array.getElem?_eq_getElem (by omega)]
      subst hrow
      rfl
  · show row.getD j default = _
    rw [Array.getD_eq_getD_getElem?, Array.getElem?_eq_getElem (by omega), Option.getD_some]
    have hj2 : j < news.toArray.size := by simp [hnl]; omega
    simp only [hrow2]
    rw [Array.getElem_append_left hj2, List.getElem_toArray]
    subst hnews
    rw [cut_el, Nat.zero_add]
theorem app_event {P : Program} {ops : Array Oper} {o : Oper} {rest : List Oper} {a : Act} {Q : Exit → Act → World → Prop} {W w1 : World} {v : Value} (hgd : o.guard = none) (s x : Operand) (t : TypeId)
    (ho : o.op = .call { callee := .builtin .append, args := #[s, x], argTypes := #[t, t] }) (vs vx : Value) (hs : a.eval s = vs) (hx : a.eval x = vx)
    (hrun : ∀ ty, (Builtin.append_ #[t, t] ty #[vs, vx]).run P W = .ok v w1) (h : wpList P ops Q rest (a.put o.dst v) w1) : wpList P ops Q (o :: rest) a W := by
  have hr := hrun o.type
  refine wpList_plain hgd fun K hK => ?_
  unfold Oper.wp execOp
  simp only [ho, resolve, invoke, builtin, Sem.run_bind, Sem.run_pure, Result.andThen_ok, List.map_toArray, List.map_cons, List.map_nil, hs, hx, hr]
  exact hK _ _ h
theorem Lst.alloc {w : World} {base : Nat} {v : Value} {rps : List RP} (h : Lst w base v rps) (o : Obj) : Lst (w.alloc o) base v rps := by
  obtain ⟨g, cap, f, hv, hb, hbw, hA, hf, hc, hm⟩ := h
  refine ⟨g, cap, f, hv, hb, by rw [World.size_alloc]; omega, fun j hj => ?_, hf, hc, hm⟩
  have hg : g < w.heap.size := World.block_lt_of_cell? w _ (hA j hj).1
  exact At.below hA hg (below_alloc (RowKit.Below.refl _ _) o) j hj
def mayK (p : S89) : Bool := !(decide (p.f0 = ⟨#[80, 114, 101, 118]⟩) || decide (p.f0 = ⟨#[82, 111, 111, 116]⟩))
theorem chk_vals (t0 t1 t2 t3 t4 t5 : Int) : chkT t0 t1 t2 t3 t4 t5 = 0 ∨ chkT t0 t1 t2 t3 t4 t5 = 3 := by unfold chkT; split; exact .inl rfl; exact .inr rfl
theorem prev_list : (⟨#[80, 114, 101, 118]⟩ : ByteArray).toList = [80, 114, 101, 118] := by kernel_rfl
theorem root_list : (⟨#[82, 111, 111, 116]⟩ : ByteArray).toList = [82, 111, 111, 116] := by kernel_rfl
theorem few_flat {v : S35} (h4 : v.f4 = []) (h5 : v.f5 = []) : fewV v := P.fewV_of (by rw [h4]; simp) (by rw [h5]; simp) (fun x hx => by rw [h4] at hx; simp at hx) (fun p hp => by rw [h5] at hp; simp at hp)
theorem prT_few {t0 t1 t2 t3 t4 t5 : Int} : ∀ p ∈ P.prT t0 t1 t2 t3 t4 t5, fewV p.f1 := by
  intro p hp
  have h : p.f1.f4 = [] ∧ p.f1.f5 = [] := by
    by_cases h1 : 0 ≤ t1 <;> by_cases h2 : 0 < t2 <;> simp [P.prT, P.kvI, h1, h2] at hp <;> rcases hp with rfl | rfl | rfl | rfl | rfl <;> exact ⟨rfl, rfl⟩
  exact few_flat h.1 h.2
theorem mayK_ne {p : S89} (h : mayK p = true) : p.f0.data ≠ #[80, 114, 101, 118] ∧ p.f0.data ≠ #[82, 111, 111, 116] := by
  simp [mayK] at h
  refine ⟨fun e => h.1 ?_, fun e => h.2 ?_⟩
  · cases hp : p.f0; rw [hp] at e; simp at e; rw [e]
  · cases hp : p.f0; rw [hp] at e; simp at e; rw [e]
theorem bare_prT (t0 t1 t2 t3 t4 t5 : Int) : bareD (P.prT t0 t1 t2 t3 t4 t5) = [P.kvI ⟨#[76, 101, 110]⟩ t4] ++ (if 0 ≤ t1 then [P.kvI ⟨#[80, 114, 101, 118]⟩ t1] else []) ++ (if 0 < t2 then [⟨⟨#[82, 111, 111, 116]⟩, ⟨7, t2, t3, ⟨#[]⟩, [], []⟩⟩] else []) ++ [P.kvI ⟨#[83, 105, 122, 101]⟩ t0] := by
  unfold P.prT
  generalize (H.putS t5 4).1 = s
  by_cases h1 : 0 ≤ t1 <;> by_cases h2 : 0 < t2 <;> simp only [h1, h2, if_true, if_false] <;> kernel_rfl
theorem bare_same (t0 t1 t2 t3 t4 t5 t6 : Int) : (bareD (P.prT t0 t1 t2 t3 t4 t5)).length + 1 = (bareD (P.prT t0 t1 t2 t3 t4 t6)).length + 1 := by rw [bare_prT, bare_prT]
theorem bare_len (t0 t1 t2 t3 t4 t5 : Int) : (bareD (P.prT t0 t1 t2 t3 t4 t5)).length + 1 = (P.prT t0 t1 t2 t3 t4 t5).length := by
  rw [bare_prT]
  by_cases h1 : 0 ≤ t1 <;> by_cases h2 : 0 < t2 <;> simp [P.prT, h1, h2]
theorem chk_sum {t0 t1 t2 t3 t4 t5 s : Int} (h : chkT t0 t1 t2 t3 t4 t5 = 0) (h0 : 0 ≤ s) (h1 : s < 4294967296) : chkT t0 t1 t2 t3 t4 s = 0 := by
  unfold chkT at h ⊢
  split at h
  · rename_i hg
    exact if_pos ⟨hg.1, hg.2.1, hg.2.2.1, hg.2.2.2.1, h0, by omega⟩
  · cases h
set_option maxHeartbeats 8000000 in
set_option maxRecDepth 100000 in
theorem back_calls (t0 t1 t2 t3 t4 t5 sum : Int) (A : Option Addr) (c : Nat) (more : List S89) (w : World) (hC : k89.C w A more.length more) (hc : more.length ≤ c) (hs0 : 0 ≤ sum) (hs1 : sum < 4294967296) :
    Calls Try.prog 8 #[.agg #[.int .i64 t0, .int .i64 t1, .int .i64 t2, .int .i64 t3, .int .i64 t4, .int .i64 t5], .slice A more.length c, .int .u32 sum] w fun e w' => e = .returned (.bool true) ∧ RowKit.Below w.heap.size w w' := by
  have hu35 := Try.underlying35
  have hu33 := Try.underlying33
  have hu72 := Try.underlying72
  have hu28 := Try.underlying28
  have hu89 := Try.underlying89
  have hu3 := Try.underlying3
  have hu87 := Try.underlying87
  have C0 := Aside0.mk hC
  have L0 := Aside0.mk hc
  obtain ⟨b, k0, hb, hk⟩ := P.small_all more
  have SM := Aside0.mk (fun W (h : k89.C W A more.length more) => binderylaw24_Small.calls k0 A c more b W h hc (hk k0 (Nat.le_refl _)))
  have SB := Aside0.mk hb
  have HS := Aside0.mk (And.intro hs0 hs1)
  clear hC hc hb hk hs0 hs1
  go_enter Try.func8, Try.ntmps8
  go_wp2_with fail
  refine Calls.mono (SM.out _ (Kd.C_alloc C0.out _)) ?_
  rintro e w1 ⟨rfl, hb⟩
  have B1 := Aside0.mk (blk_below (blk_new w (.cells #[.int .i64 t0, .int .i64 t1, .int .i64 t2, .int .i64 t3, .int .i64 t4, .int .i64 t5] 72)) hb)
  have HB1 := Aside0.mk (below_step (below_alloc (RowKit.Below.refl w.heap.size w) (.cells #[.int .i64 t0, .int .i64 t1, .int .i64 t2, .int .i64 t3, .int .i64 t4, .int .i64 t5] 72)) hb)
  have C1 := Aside0.mk (Kd.C_below (Kd.C_alloc C0.out (.cells #[.int .i64 t0, .int .i64 t1, .int .i64 t2, .int .i64 t3, .int .i64 t4, .int .i64 t5] 72)) hb)
  have s1 : w.heap.size < w1.heap.size := by have h := hb.size; rw [World.size_alloc] at h; omega
  clear hb SM C0
  cases b with
  | false =>
      go_wp2_with fail
      refine Calls.mono (trailers_calls _) ?_
      rintro e w2 ⟨rfl, hb⟩
      have HB2 := Aside0.mk (HB1.out.trans (hb.mono HB1.out.size))
      go_wp2
      go_ret
      exact ⟨rfl, HB2.out⟩
  | true =>
    have SB2 := Aside0.mk (SB.out rfl)
    clear SB
    obtain ⟨q0, q1, q2, q3, q4, q5⟩ := box35 B1.out
    go_wp2_with fail
    by_cases h0 : chkT t0 t1 t2 t3 t4 t5 = 0
    rotate_left
    · have h3 := (chk_vals t0 t1 t2 t3 t4 t5).resolve_left h0
      refine Calls.mono (R.trailer_Pairs.calls 1 t0 t1 t2 t3 t4 t5 [] 3 w1 (by rw [P.prog_pairs t0 t1 t2 t3 t4 t5 0, if_neg h0, h3])) ?_
      rintro e w2 ⟨v0, rfl, hN, hb⟩
      obtain ⟨A1, c1, hv, _, _⟩ := Kd.N_reads hN
      have hl0 : ([] : List S89).length = 0 := rfl
      rw [hl0] at hv
      subst hv
      have B2 := Aside0.mk (blk_below B1.out hb)
      have HB2 := Aside0.mk (HB1.out.trans (hb.mono HB1.out.size))
      have s2 : w.heap.size < w2.heap.size := by have h := hb.size; omega
      have CK := Aside0.mk (fun W => trailer_Check.calls 1 t0 t1 t2 t3 t4 t5 3 W (by rw [chk_f, h3]))
      clear hN hb hl0 q0 q1 q2 q3 q4 q5 h0 h3
      obtain ⟨q0, q1, q2, q3, q4, q5⟩ := box35 B2.out
      go_wp2_with fail
      refine Calls.mono (CK.out _) ?_
      rintro e w3 ⟨rfl, hb⟩
      have HB3 := Aside0.mk (HB2.out.trans (hb.mono HB2.out.size))
      clear hb q0 q1 q2 q3 q4 q5
      go_wp2_with fail
      refine Calls.mono (trailers_calls _) ?_
      rintro e w4 ⟨rfl, hb⟩
      have HB4 := Aside0.mk (HB3.out.trans (hb.mono HB3.out.size))
      clear hb
      go_wp2
      go_ret
      exact ⟨rfl, HB4.out⟩
    obtain ⟨D, hD⟩ : ∃ D, D = P.prT t0 t1 t2 t3 t4 t5 := ⟨_, rfl⟩
    have H0 := Aside0.mk h0
    have HD := Aside0.mk hD
    have PP := R.trailer_Pairs.calls 1 t0 t1 t2 t3 t4 t5 D 0 w1 (by rw [P.prog_pairs t0 t1 t2 t3 t4 t5 0, if_pos h0, hD])
    clear h0 hD
    refine Calls.mono PP ?_
    rintro e w2 ⟨v0, rfl, hN, hb⟩
    obtain ⟨A1, c1, hv, hl, hC⟩ := Kd.N_reads hN
    subst hv
    have hDl : 0 < D.length ∧ D.length ≤ 5 := by
      rw [HD.out]
      by_cases h1 : 0 ≤ t1 <;> by_cases h2 : 0 < t2 <;> simp [P.prT, h1, h2]
    obtain ⟨n1, hn1⟩ : ∃ n1, n1 = D.length := ⟨_, rfl⟩
    have DC := Aside0.mk (show k89.C w2 A1 D.length D from hC)
    have DL := Aside0.mk (And.intro hl hDl)
    have N1 := Aside0.mk hn1
    rw [← hn1]
    have B2 := Aside0.mk (blk_below B1.out hb)
    have HB2 := Aside0.mk hb
    have C2 := Aside0.mk (Kd.C_below C1.out hb)
    have s2 : w.heap.size < w2.heap.size := by have h := hb.size; omega
    clear PP hN hb hl hC hDl hn1 q0 q1 q2 q3 q4 q5
    have DC0 := Aside0.mk (Kd.C_alloc DC.out (.cells #[] 89))
    have CM0 := Aside0.mk (Kd.C_alloc C2.out (.cells #[] 89))
    have B0 := Aside0.mk (blk_alloc B2.out (.cells #[] 89))
    have HB0 := Aside0.mk (below_alloc (HB1.out.trans (HB2.out.mono HB1.out.size)) (.cells #[] 89))
    have s0 : w.heap.size < (w2.alloc (.cells #[] 89)).heap.size := by rw [World.size_alloc]; omega
    obtain ⟨va, w3, rps, hrun, hLst, hmap, hGd, hB3⟩ := app_zero (w := w2.alloc (.cells #[] 89)) (base := (w2.alloc (.cells #[] 89)).heap.size) (Nat.le_refl _) w2.heap.size D A1 c1 DC0.out DL.out.2.1 (by have := DL.out.2.2; omega)
    rw [← N1.out] at hrun
    clear DC C2 B2 HB1 HB2
    go_wp2_with ((with_reducible refine gate_builtin (b := .append) (xs := #[.tmp 44, .tmp 45]) (ts := #[33, 33]) rfl ?_); refine app_event (v := va) (w1 := w3) rfl (.tmp 44) (.tmp 45) 33 rfl (.slice (some ⟨w2.heap.size, 0, none⟩) 0 0) (.slice A1 n1 c1) ?g1 ?g2 hrun ?_; (case g1 => rfl); (case g2 => rfl))
    clear hrun
    generalize w2.alloc (.cells #[] 89) = W0 at *
    have hB3' := Aside0.mk hB3
    have L3 := Aside0.mk hLst
    have M3 := Aside0.mk hmap
    have G3 := Aside0.mk hGd
    clear hLst hmap hGd hB3
    go_loopw [9, 10] (fun v i wr => ∃ (k : Nat) (rps : List RP), k ≤ more.length ∧ i = .int .i64 k ∧ Aside0 (Lst wr W0.heap.size v rps) ∧ Aside0 (rps.map (·.p) = D ++ (more.take k).filter mayK) ∧ Aside0 (∀ x ∈ rps, Good W0 x) ∧ Aside0 (RowKit.Below W0.heap.size W0 wr)) (fun _ i _ => more.length - (intOf i).toNat)
    case atStart => exact ⟨0, rps, Nat.zero_le _, rfl, L3, ⟨by rw [M3.out]; simp⟩, G3, hB3'⟩
    case round =>
        clear L3 M3 G3 hB3'
        obtain ⟨k, rps, hk, rfl, HL, HM, HG, HB⟩ := hrel
        by_cases hlt : k < more.length
        · obtain ⟨ad, P4, p4, P5, p5, rfl, y0, y1, y2, y3, y4, y5, y6, lp4, gp4, lp5, gp5⟩ := at89 CM0.out k hlt
          have HK := Aside0.mk (show (more.take (k + 1)).filter mayK = (more.take k).filter mayK ++ (if mayK (more.getD k z89) = true then [more.getD k z89] else []) by
            rw [take_snocD more k hlt, List.filter_append]; simp [List.filter_cons])
          have h60 := SB2.out.1
          have hml : ((more.take k).filter mayK).length ≤ 60 := Nat.le_trans (List.length_filter_le _ _) (by rw [List.length_take]; have := SB2.out.1; omega)
          generalize more.getD k z89 = x at *
          generalize (more.take k).filter mayK = mk at *
          have GX := Aside0.mk (show Good W0 ⟨x, P4, p4, P5, p5⟩ from ⟨lp4, gp4, lp5, gp5⟩)
          replace y0 := y0 ⟨wr, HB.out⟩
          replace y1 := y1 ⟨wr, HB.out⟩
          replace y2 := y2 ⟨wr, HB.out⟩
          replace y3 := y3 ⟨wr, HB.out⟩
          replace y4 := y4 ⟨wr, HB.out⟩
          replace y5 := y5 ⟨wr, HB.out⟩
          replace y6 := y6 ⟨wr, HB.out⟩
          simp only [] at y0 y1 y2 y3 y4 y5 y6
          clear lp4 gp4 lp5 gp5
          by_cases hm : mayK x = true
          · have HKT := Aside0.mk (show (more.take (k + 1)).filter mayK = mk ++ [x] by rw [HK.out, if_pos hm])
            have hk1 : ¬ x.f0.toList = [80, 114, 101, 118] := by
              intro h
              have : x.f0 = ⟨#[80, 114, 101, 118]⟩ := ba_inj (by rw [h, prev_list])
              simp [mayK, this] at hm
            have hk2 : ¬ x.f0.toList = [82, 111, 111, 116] := by
              intro h
              have : x.f0 = ⟨#[82, 111, 111, 116]⟩ := ba_inj (by rw [h, root_list])
              simp [mayK, this] at hm
            have hk1b : (x.f0.toList == [80, 114, 101, 118]) = false := by simpa using hk1
            have hk2b : (x.f0.toList == [82, 111, 111, 116]) = false := by simpa using hk2
            have hrl : rps.length ≤ 1000000 := by
              have h := congrArg List.length HM.out
              rw [List.length_map, List.length_append] at h
              have := DL.out.2.2
              omega
            have hLA : Lst (wr.alloc (.cells #[.string x.f0, .int .i64 x.f1.f0, .int .i64 x.f1.f1, .int .i64 x.f1.f2, .string x.f1.f3, .slice P4 x.f1.f4.length p4, .slice P5 x.f1.f5.length p5] 89)) W0.heap.size _ rps := Lst.alloc HL.out _
            obtain ⟨v', w', hrun, hL', hb'⟩ := app_pair hLA hrl ⟨x, P4, p4, P5, p5⟩ wr.heap.size (at_new _ _ 7 _ _ (by simp) (fun j hj => by
              rcases j with _ | _ | _ | _ | _ | _ | _ | j
              · rfl
              · rfl
              · rfl
              · rfl
              · rfl
              · rfl
              · rfl
              · omega))
            have HL' := Aside0.mk hL'
            have HB' := Aside0.mk ((below_alloc HB.out (.cells #[.string x.f0, .int .i64 x.f1.f0, .int .i64 x.f1.f1, .int .i64 x.f1.f2, .string x.f1.f3, .slice P4 x.f1.f4.length p4, .slice P5 x.f1.f5.length p5] 89)).trans hb')
            clear hLA hm hL' hb' hml hrl
            go_wp2_with ((with_reducible refine gate_builtin (b := .append) (xs := #[.tmp 64, .tmp 69]) (ts := #[33, 33]) rfl ?_); refine app_event (v := v') (w1 := w') rfl (.tmp 64) (.tmp 69) 33 rfl _ _ ?g1 ?g2 hrun ?_; (case g1 => rfl); (case g2 => rfl))
            exact ⟨⟨k + 1, rps ++ [⟨x, P4, p4, P5, p5⟩], by omega, by go_num, HL', ⟨by rw [List.map_append, HM.out, HKT.out, List.append_assoc]; rfl⟩, ⟨fun z hz => by
              rcases List.mem_append.1 hz with hz | hz
              · exact HG.out z hz
              · rw [List.mem_singleton.1 hz]; exact GX.out⟩, HB'⟩, by simp [intOf]; omega⟩
          · have HKT := Aside0.mk (show (more.take (k + 1)).filter mayK = mk by rw [HK.out, if_neg hm]; simp)
            have hpr : x.f0 = ⟨#[80, 114, 101, 118]⟩ ∨ x.f0 = ⟨#[82, 111, 111, 116]⟩ := by
              simp [mayK] at hm
              by_cases h : x.f0 = ⟨#[80, 114, 101, 118]⟩
              · exact .inl h
              · exact .inr (hm h)
            rcases hpr with hp | hp
            · have hk1 : x.f0.toList = [80, 114, 101, 118] := by rw [hp, prev_list]
              have hk1b : (x.f0.toList == [80, 114, 101, 118]) = true := by rw [hk1]; rfl
              clear hp hm hml
              go_wp2
              exact ⟨⟨k + 1, rps, by omega, by go_num, HL, ⟨by rw [HM.out, HKT.out]⟩, HG, HB⟩, by simp [intOf]; omega⟩
            · have hk2 : x.f0.toList = [82, 111, 111, 116] := by rw [hp, root_list]
              have hk2b : (x.f0.toList == [82, 111, 111, 116]) = true := by rw [hk2]; rfl
              have hk1 : ¬ x.f0.toList = [80, 114, 101, 118] := by rw [hk2]; decide
              have hk1b : (x.f0.toList == [80, 114, 101, 118]) = false := by rw [hk2]; rfl
              clear hp hm hml
              go_wp2
              exact ⟨⟨k + 1, rps, by omega, by go_num, HL, ⟨by rw [HM.out, HKT.out]⟩, HG, HB⟩, by simp [intOf]; omega⟩
        · obtain ⟨g, cap, f, hv, hg, hgw, hA, hf, hcl, hcm⟩ := HL.out
          subst hv
          obtain ⟨AL, hAL⟩ : ∃ AL, AL = D ++ more.filter mayK := ⟨_, rfl⟩
          have hm2 : rps.map (·.p) = AL := by rw [HM.out, List.take_of_length_le (by omega), hAL]
          have hl2 : rps.length = AL.length := by rw [← hm2, List.length_map]
          have CA := Aside0.mk (show k89.C wr (some ⟨g, 0, none⟩) AL.length AL by
            have h := row_close (w := wr) (g := g) (rps := rps) (by omega) ((hA.mono (by omega)).congr (fun j hj => hf j hj)) (fun x hx => (HG.out x hx).below HB.out)
            rw [hm2] at h
            exact h)
          have hAl : AL.length ≤ 65 := by
            rw [hAL, List.length_append]
            have h1 := List.length_filter_le mayK more
            have h2 := SB2.out.1
            have h3 := DL.out.2.2
            omega
          have HO : R.trailer_Of.f AL = some (t0, t1, t2, t3, t4, t5, 0) := by
            unfold R.trailer_Of.f
            rw [if_pos (P.few_pairs (by omega) (fun p hp => by
              rw [hAL] at hp
              rcases List.mem_append.1 hp with hp | hp
              · rw [HD.out] at hp; exact prT_few p hp
              · exact SB2.out.2 p (List.mem_filter.1 hp).1))]
            rw [hAL, HD.out, P.of_back t0 t1 t2 t3 t4 t5 _ H0.out (fun p hp => mayK_ne (List.mem_filter.1 hp).2)]
          rw [hl2] at hcl
          have OC := R.trailer_Of.calls (some ⟨g, 0, none⟩) cap AL t0 t1 t2 t3 t4 t5 0 wr CA.out hcl HO
          rw [← hl2] at OC
          have hsw := HB.out.size
          have BW := Aside0.mk (blk_below B0.out HB.out)
          have DW := Aside0.mk (Kd.C_below DC0.out HB.out)
          have HBW := Aside0.mk (HB0.out.trans (HB.out.mono HB0.out.size))
          have sW : w.heap.size < wr.heap.size := by omega
          obtain ⟨n2, hn2⟩ : ∃ n2, n2 = rps.length := ⟨_, rfl⟩
          rw [← hn2] at OC ⊢
          clear hm2 hl2 hAL hAl HO hA hf hcl hcm hn2 HL HM HG HB CA hsw hg hgw
          go_wp2_with fail
          refine Calls.mono OC ?_
          rintro e w5 ⟨rfl, hb⟩
          have s5 : w.heap.size < w5.heap.size := by have := hb.size; omega
          have B5 := Aside0.mk (blk_below BW.out hb)
          have D5 := Aside0.mk (Kd.C_below DW.out hb)
          have HB5 := Aside0.mk (HBW.out.trans (hb.mono HBW.out.size))
          have hwr : IntKind.i64.wrap sum = sum := by have := HS.out; rw [i64_w]; unfold wrap64; omega
          clear OC hb BW DW HBW sW
          obtain ⟨q0, q1, q2, q3, q4, q5⟩ := box35 B5.out
          go_wp2_with fail
          obtain ⟨D2, hD2⟩ : ∃ D2, D2 = P.prT t0 t1 t2 t3 t4 sum := ⟨_, rfl⟩
          refine Calls.mono (R.trailer_Pairs.calls 1 t0 t1 t2 t3 t4 sum D2 0 _ (by rw [P.prog_pairs t0 t1 t2 t3 t4 sum 0, if_pos (chk_sum H0.out HS.out.1 HS.out.2), hD2])) ?_
          rintro e w6 ⟨v1, rfl, hN, hb⟩
          obtain ⟨A2, c2, hv2, hl2, hC2⟩ := Kd.N_reads hN
          subst hv2
          have s6 : w5.heap.size < w6.heap.size := by have h := hb.size; rw [World.size_alloc, World.size_alloc] at h; omega
          have s6b : w.heap.size < w6.heap.size := by omega
          have B6 := Aside0.mk (blk_below (blk_alloc (blk_alloc B5.out (.cells #[.int .i64 t0, .int .i64 t1, .int .i64 t2, .int .i64 t3, .int .i64 t4, .int .i64 t5] 72)) (.cells #[.int .i64 t0, .int .i64 t1, .int .i64 t2, .int .i64 t3, .int .i64 t4, .int .i64 sum] 72)) hb)
          have T6 := Aside0.mk (blk_below (blk_alloc (blk_new w5 (.cells #[.int .i64 t0, .int .i64 t1, .int .i64 t2, .int .i64 t3, .int .i64 t4, .int .i64 t5] 72)) (.cells #[.int .i64 t0, .int .i64 t1, .int .i64 t2, .int .i64 t3, .int .i64 t4, .int .i64 sum] 72)) hb)
          have D6 := Aside0.mk (Kd.C_below (Kd.C_alloc (Kd.C_alloc D5.out (.cells #[.int .i64 t0, .int .i64 t1, .int .i64 t2, .int .i64 t3, .int .i64 t4, .int .i64 t5] 72)) (.cells #[.int .i64 t0, .int .i64 t1, .int .i64 t2, .int .i64 t3, .int .i64 t4, .int .i64 sum] 72)) hb)
          have HB6 := Aside0.mk (below_step (below_alloc (below_alloc HB5.out (.cells #[.int .i64 t0, .int .i64 t1, .int .i64 t2, .int .i64 t3, .int .i64 t4, .int .i64 t5] 72)) (.cells #[.int .i64 t0, .int .i64 t1, .int .i64 t2, .int .i64 t3, .int .i64 t4, .int .i64 sum] 72)) hb)
          obtain ⟨BD, hBD⟩ : ∃ BD, BD = bareD D := ⟨_, rfl⟩
          have hBE : bareD D2 = BD := by rw [hBD, hD2, HD.out, bare_prT, bare_prT]
          obtain ⟨nb, hnb⟩ : ∃ nb, nb = BD.length := ⟨_, rfl⟩
          have hn1 : n1 = nb + 1 := by rw [N1.out, hnb, hBD, HD.out, bare_len]
          obtain ⟨n3, hn3⟩ : ∃ n3, n3 = D2.length := ⟨_, rfl⟩
          have hb5 : nb ≤ 5 := by have h := N1.out; have := DL.out.2.2; omega
          have fD : fewV ⟨6, 0, 0, ⟨#[]⟩, [], D⟩ := P.few_pairs (by have := DL.out.2.2; omega) (by rw [HD.out]; exact prT_few)
          have fE : fewV ⟨6, 0, 0, ⟨#[]⟩, [], D2⟩ := P.few_pairs (by rw [hD2, ← bare_len, bare_same t0 t1 t2 t3 t4 sum t5, ← HD.out, ← hBD, ← hnb]; omega) (by rw [hD2]; exact prT_few)
          have KD := Aside0.mk (fun (W : World) (h1 : k89.C W A1 D.length D) => ((R.trailer_Bare.calls A1 c1 D BD W h1 DL.out.1 (by unfold R.trailer_Bare.f; rw [if_pos fD, hBD])).mono (fun e w' ⟨v, he, hV, hb⟩ => by
            obtain ⟨a, n, hv, h3, hF⟩ := hV
            exact ⟨a, n, by rw [he, hv, hnb], by rw [hnb]; exact h3, by rw [hnb]; exact Kd.F_now hF, hb⟩) : Calls Try.prog 48 #[.slice A1 D.length c1] W fun e w' => ∃ (a : Option Addr) (n : Nat), e = .returned (.slice a nb n) ∧ nb ≤ n ∧ k89.C w' a nb BD ∧ RowKit.Below W.heap.size W w'))
          have KE := Aside0.mk (fun (W : World) (h1 : k89.C W A2 D2.length D2) => ((R.trailer_Bare.calls A2 c2 D2 BD W h1 hl2 (by unfold R.trailer_Bare.f; rw [if_pos fE, hBE])).mono (fun e w' ⟨v, he, hV, hb⟩ => by
            obtain ⟨a, n, hv, h3, hF⟩ := hV
            exact ⟨a, n, by rw [he, hv, hnb], by rw [hnb]; exact h3, by rw [hnb]; exact Kd.F_now hF, hb⟩) : Calls Try.prog 48 #[.slice A2 D2.length c2] W fun e w' => ∃ (a : Option Addr) (n : Nat), e = .returned (.slice a nb n) ∧ nb ≤ n ∧ k89.C w' a nb BD ∧ RowKit.Below W.heap.size W w'))
          have KX := Aside0.mk (fun (W : World) (a : Option Addr) (n : Nat) (a' : Option Addr) (n' : Nat) (h1 : k89.C W a nb BD) (h2 : nb ≤ n) (h3 : k89.C W a' nb BD) (h4 : nb ≤ n') => (by
            have h := R.binderylaw23_Pairs.calls a n BD a' n' BD true W (by rw [← hnb]; exact h1) (by omega) (by rw [← hnb]; exact h3) (by omega) (ex_same _)
            rw [← hnb] at h
            exact h : Calls Try.prog 41 #[.slice a nb n, .slice a' nb n'] W fun e w' => e = .returned (.bool true) ∧ RowKit.Below W.heap.size W w'))
          have DCc := Aside0.mk (show k89.C w6 A1 D.length D from D6.out)
          have ECc := Aside0.mk (show k89.C w6 A2 D2.length D2 from hC2)
          have HBc := HB6
          rw [← N1.out] at KD DCc
          rw [← hn3] at KE ECc ⊢
          subst hn1
          have hsub : IntKind.i64.wrap (((nb + 1 : Nat) : Int) - 1) = (nb : Int) := by rw [i64_w]; unfold wrap64; omega
          have hsub2 : wrap64 (((nb + 1 : Nat) : Int) - 1) = (nb : Int) := by unfold wrap64; omega
          clear hN hb hl2 hC2 hD2 hBD hBE hnb fD fE hn3 q0 q1 q2 q3 q4 q5 B5 D5 HB5 D6 HB6
          obtain ⟨q0, q1, q2, q3, q4, q5⟩ := box35 B6.out
          obtain ⟨p0, p1, p2, p3, p4', p5'⟩ := box35 T6.out
          go_wp2_with fail
          refine Calls.mono (KD.out _ DCc.out) ?_
          rintro e w7 ⟨aD, nD, rfl, hn_, hA_, hb⟩
          have XD := Aside0.mk (And.intro hn_ hA_)
          have EC7 := Aside0.mk (Kd.C_below ECc.out hb)
          have DC7 := Aside0.mk (Kd.C_below DCc.out hb)
          have HB7 := Aside0.mk (below_step HBc.out hb)
          clear hn_ hA_ hb DCc ECc HBc q0 q1 q2 q3 q4 q5 p0 p1 p2 p3 p4' p5'
          go_wp2_with fail
          refine Calls.mono (KE.out _ EC7.out) ?_
          rintro e w8 ⟨aE, nE, rfl, hn_, hA_, hb⟩
          have XE := Aside0.mk (And.intro hn_ hA_)
          have XD8 := Aside0.mk (Kd.C_below XD.out.2 hb)
          have DC8 := Aside0.mk (Kd.C_below DC7.out hb)
          have HB8 := Aside0.mk (below_step HB7.out hb)
          clear hn_ hA_ hb DC7 EC7 HB7
          go_wp2_with fail
          refine Calls.mono (KX.out _ aD nD aE nE XD8.out XD.out.1 XE.out.2 XE.out.1) ?_
          rintro e w9 ⟨rfl, hb⟩
          have DC9 := Aside0.mk (Kd.C_below DC8.out hb)
          have HB9 := Aside0.mk (below_step HB8.out hb)
          clear hb DC8 HB8 XD8
          go_wp2_with fail
          refine Calls.mono (KD.out _ DC9.out) ?_
          rintro e w10 ⟨aF, nF, rfl, hn_, hA_, hb⟩
          have HB10 := Aside0.mk (below_step HB9.out hb)
          clear hn_ hA_ hb DC9 HB9
          go_wp2_with fail
          refine Calls.mono (trailers_calls _) ?_
          rintro e w11 ⟨rfl, hb⟩
          have HB11 := Aside0.mk (below_step HB10.out hb)
          clear hb
          go_wp2
          go_ret
          exact ⟨rfl, HB11.out⟩
end Go.Proofs.Ytogpnkkoablmiaa.V
end
