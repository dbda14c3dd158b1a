/- Parts of the proof: what the theorem reaches, put together by a program of this session. -/
import Derived.Test.YtogpnkkoablmiaaBY26
section
namespace Go.Proofs.Ytogpnkkoablmiaa.V
open Go.Proofs.Ytogpnkkoablmiaa.P Go.Shelf Go.RowKit Go.Lib Go.Sort Go.Proofs.Ytogpnkkoablmiaa.Q Go.Proofs.YtogpnkkoablmiaaW.PrintWords Go.Proofs.YtogpnkkoablmiaaW.PrintLast Go.Proofs.YtogpnkkoablmiaaW.PrintMore
set_option linter.unusedVariables false
set_option linter.unusedSimpArgs false
attribute [local go_sem high] eqA28
attribute [local go_sem] nzv_ne nzv_beq nzv_bne
attribute [local go_sem] Oper.semAt_some
theorem nz2 {rn rg : Int} (h : ¬ (rn = 0 ∧ rg = 0)) : (!rn == 0 || !rg == 0) = true := by
 cases h1 : rn == 0 <;> cases h2 : rg == 0 <;> simp_all
theorem rootB_bad {rn rg : Int} (h : ¬ (rn = 0 ∧ rg = 0)) (h2 : rn < 1 ∨ 8388607 < rn ∨ rg < 0 ∨ 65535 < rg) : rootB rn rg = false := by
 unfold rootB inB
 simp
 omega
theorem rootB_ok {rn rg : Int} (h2 : ¬ (rn < 1 ∨ 8388607 < rn ∨ rg < 0 ∨ 65535 < rg)) : rootB rn rg = true := by
 unfold rootB inB
 simp
 omega
def RNewPost (b : List S69) (rn rg most : Int) (w : World) (e : Ending) (w' : World) : Prop :=
 (newE b rn rg most ≠ 0 ∧ e = .returned (.tuple #[.agg #[.slice none 0 0, .int .i64 0, .int .i64 0, .slice none 0 0, .int .i64 0, .int .i64 0, .int .i64 0], .int .i64 (newE b rn rg most)]) ∧ RowKit.Below w.heap.size w w') ∨
 (newE b rn rg most = 0 ∧ ∃ R : RL, e = .returned (.tuple #[.agg (R.cells (newW b rn rg most)), .int .i64 0]) ∧ RefIs (fun k => w.heap.size ≤ k) R (newW b rn rg most) w' ∧ RowKit.Below w.heap.size w w')
set_option maxHeartbeats 16000000 in
set_option maxRecDepth 100000 in
theorem ref_new (b : List S69) (A : Option Addr) (cA : Nat) (rn rg most : Int) (w : World) (hb0 : k69.C w A b.length b) (hl : b.length ≤ 80000) (hf : ∀ x ∈ b, fewV x.f2) :
 Calls Try.prog 27 #[.slice A b.length cA, .agg #[.int .i64 rn, .int .i64 rg], .int .i64 most] w (RNewPost b rn rg most w) := by
 have hu28 := Try.underlying28
 have hu46 := Try.underlying46
 have hu49 := Try.underlying49
 have hu51 := Try.underlying51
 have hu69 := Try.underlying69
 obtain ⟨i0, hi0, hz0, hz1, hz2⟩ := info_parts info69
 have HI := A_ (And.intro hi0 (And.intro hz0 (And.intro hz1 hz2)))
 clear hi0 hz0 hz1 hz2
 have H0 := A_ hb0
 have HF := A_ hf
 obtain ⟨N, hN⟩ : ∃ N, N = b.length := ⟨_, rfl⟩
 rw [← hN]
 have HN := A_ hN
 have HL := A_ (show N ≤ 80000 by omega)
 have HB0 := A_ (below_alloc (below_alloc (RowKit.Below.refl w.heap.size w) (.cells #[.int .i64 rn, .int .i64 rg] 28)) (.cells #[.slice none 0 0, .int .i64 0, .int .i64 0, .slice none 0 0, .int .i64 0, .int .i64 0, .int .i64 0] 51))
 have BZ := A_ (blk_new (w.alloc (.cells #[.int .i64 rn, .int .i64 rg] 28)) (.cells #[.slice none 0 0, .int .i64 0, .int .i64 0, .slice none 0 0, .int .i64 0, .int .i64 0, .int .i64 0] 51))
 simp only [World.size_alloc] at BZ
 clear hb0 hf hN hl
 by_cases hm0 : most < 1
 · have hmd : decide (most < 1) = true := decide_eq_true hm0
   have HEO := A_ (show newE b rn rg most = 2 from by unfold newE; rw [if_pos (by unfold inB; simp; omega)])
   go_enter Try.func27, Try.ntmps27
   go_wp2
   obtain ⟨r0, r1, r2, r3, r4, r5, r6⟩ := box7 BZ.out
   refine bodyPost_ret (v := .tuple #[.agg #[.slice none 0 0, .int .i64 0, .int .i64 0, .slice none 0 0, .int .i64 0, .int .i64 0, .int .i64 0], .int .i64 2]) (by
    have r0' : ((w.alloc (.cells #[.int .i64 rn, .int .i64 rg] 28)).alloc (.cells #[.slice none 0 0, .int .i64 0, .int .i64 0, .slice none 0 0, .int .i64 0, .int .i64 0, .int .i64 0] 51)).cell? ⟨w.heap.size + 1, 0, none⟩ = some (.slice none 0 0) := r0
    simp [results, Try.results27, go_sem, r0, r1, r2, r3, r4, r5, r6]) rfl ?_
   exact Or.inl ⟨by rw [HEO.out]; decide, by rw [HEO.out], HB0.out⟩
 by_cases hm1 : 8388606 < most
 · have hmd : decide (8388606 < most) = true := decide_eq_true hm1
   have HEO := A_ (show newE b rn rg most = 2 from by unfold newE; rw [if_pos (by unfold inB; simp; omega)])
   go_enter Try.func27, Try.ntmps27
   go_wp2
   obtain ⟨r0, r1, r2, r3, r4, r5, r6⟩ := box7 BZ.out
   refine bodyPost_ret (v := .tuple #[.agg #[.slice none 0 0, .int .i64 0, .int .i64 0, .slice none 0 0, .int .i64 0, .int .i64 0, .int .i64 0], .int .i64 2]) (by
    have r0' : ((w.alloc (.cells #[.int .i64 rn, .int .i64 rg] 28)).alloc (.cells #[.slice none 0 0, .int .i64 0, .int .i64 0, .slice none 0 0, .int .i64 0, .int .i64 0, .int .i64 0] 51)).cell? ⟨w.heap.size + 1, 0, none⟩ = some (.slice none 0 0) := r0
    simp [results, Try.results27, go_sem, r0, r1, r2, r3, r4, r5, r6]) rfl ?_
   exact Or.inl ⟨by rw [HEO.out]; decide, by rw [HEO.out], HB0.out⟩
 have HMO := A_ (show inB most 1 8388606 = true from by unfold inB; simp; omega)
 have HB3 := A_ (below_alloc HB0.out (.cells #[] 69))
 have BZ3 := A_ (blk_alloc BZ.out (.cells #[] 69))
 have BN3 := A_ (blk_alloc (blk_alloc (blk_new w (.cells #[.int .i64 rn, .int .i64 rg] 28)) (.cells #[.slice none 0 0, .int .i64 0, .int .i64 0, .slice none 0 0, .int .i64 0, .int .i64 0, .int .i64 0] 51)) (.cells #[] 69))
 have OW := A_ (World.ownsRow_lit (base := w.heap.size + 2) (e := 69) (size := 8) (((w.alloc (.cells #[.int .i64 rn, .int .i64 rg] 28)).alloc (.cells #[.slice none 0 0, .int .i64 0, .int .i64 0, .slice none 0 0, .int .i64 0, .int .i64 0, .int .i64 0] 51))) #[] 0 (by simp) (by simp [maxLen]) (by simp))
 simp only [World.size_alloc] at OW BN3
 clear HB0 BZ
 have hmd0 : decide (most < 1) = false := decide_eq_false hm0
 have hmd1 : decide (8388606 < most) = false := decide_eq_false hm1
 go_enter Try.func27, Try.ntmps27
 go_wp2
 clear hm0 hm1 hmd0 hmd1
 go_loopw [8, 9] (fun v8 i wr => ∃ (k g c n : Nat) (rs : List RS), k ≤ N ∧ v8 = .slice (some ⟨g, 0, none⟩) n c ∧ i = .int .i64 k ∧ Aside0 (n = rs.length ∧ n = k) ∧ Aside0 (RowKit.Below w.heap.size w wr) ∧ Aside0 (wr.heap[w.heap.size]? = some (.cells #[.int .i64 rn, .int .i64 rg] 28 (0, 0))) ∧ Aside0 (wr.heap[w.heap.size + 1]? = some (.cells #[.slice none 0 0, .int .i64 0, .int .i64 0, .slice none 0 0, .int .i64 0, .int .i64 0, .int .i64 0] 51 (0, 0))) ∧ Aside0 (OwnT (w.heap.size + 2) g c rs wr) ∧ Aside0 (rs.map (fun y => y.x) = (List.range k).map (newS b)) ∧ Aside0 (∀ j, j < k → badG (b.getD j z69) = false)) (fun _ i _ => N - (intOf i).toNat)
 case atStart =>
  exact ⟨0, _, _, 0, [], Nat.zero_le _, rfl, rfl, ⟨rfl, rfl⟩, HB3, BN3, BZ3, ⟨⟨OW.out, fun x hx => by simp at hx⟩⟩, ⟨rfl⟩, ⟨fun j hj => by omega⟩⟩
 case round =>
  clear HB3 BN3 BZ3 OW
  obtain ⟨k, g, c, n, rs, hk, rfl, rfl, HNR, HB, BN, BZ, HO, HMP, HNB1⟩ := hrel
  by_cases hlt : k < N
  · obtain ⟨ad0, P4, p4, P5, p5, hA0, x0, x1, x2, x3, x4, x5, x6, x7, lp4, gp4, lp5, gp5⟩ := at_T69 (Kd.C_below H0.out HB.out) (k : Int) (by omega) (by have := HN.out; omega)
    subst hA0
    simp only [rd_T69, Int.toNat_natCast] at x0 x1 x2 x3 x4 x5 x6 x7 lp4 gp4 lp5 gp5
    have hwk : wrap64 ((k : Int) + 1) = (k : Int) + 1 := by have := HL.out; unfold wrap64; omega
    have HWK := A_ hwk
    have hNm : N ≤ 9223372036854775807 := by have := HL.out; omega
    have HXF := A_ (HF.out _ (getD_mem b k (by have := HN.out; omega) z69))
    have HXN := A_ (show ∀ lv, lv = decide (0 < k) → plainX (b.getD k z69) lv = newS b k from fun lv hlv => by
     unfold plainX newS
     rw [if_pos (show k < b.length by have := HN.out; omega), hlv]
     simp)
    have HBG := A_ (show badG (b.getD k z69) = true → b.any badG = true from fun h => List.any_eq_true.2 ⟨_, getD_mem b k (by have := HN.out; omega) z69, h⟩)
    have HBS := A_ (show badG (b.getD k z69) = false → ∀ j, j < k + 1 → badG (b.getD j z69) = false from fun h j hj => by
     by_cases hjk : j < k
     · exact HNB1.out j hjk
     · obtain rfl : j = k := by omega
       exact h)
    generalize b.getD k z69 = x at *
    have HXV := A_ (show HasV x.f2 P4 p4 P5 p5 wr from ⟨lp4, gp4, lp5, gp5⟩)
    clear hwk lp4 gp4 lp5 gp5
    by_cases hg0 : x.f0 < 0
    · have hgd : decide (x.f0 < 0) = true := decide_eq_true hg0
      have HEO := A_ (show newE b rn rg most = 2 from by unfold newE; rw [if_neg (by simp [HMO.out]), if_pos (HBG.out (by unfold badG inB; simp; omega))])
      obtain ⟨t0, t1, t2, t3, t4, t5, t6⟩ := box7 BZ.out
      obtain ⟨fq0, fq1, fq2, fq3, fq4, fq5, fq6⟩ := frz7 BZ.out
      have hzl := blk_lt BZ.out
      have HBF := A_ (show RowKit.Below w.heap.size w (wr.setCells (w.heap.size + 1) 0 [.slice none 0 0, .int .i64 0, .int .i64 0, .slice none 0 0, .int .i64 0, .int .i64 0, .int .i64 0]) from HB.out.trans (below_setcells (b := w.heap.size) (g := w.heap.size + 1) (by omega) 0 _))
      have e6 := set_same7 (.slice none 0 0) (.int .i64 0) (.int .i64 0) (.slice none 0 0) (.int .i64 0) (.int .i64 0) (.int .i64 0) BZ.out
      have E6 := A_ e6
      clear e6
      go_wp2
      refine ret_named (wr.setCells (w.heap.size + 1) 0 [.slice none 0 0, .int .i64 0, .int .i64 0, .slice none 0 0, .int .i64 0, .int .i64 0, .int .i64 0]) rfl (fun Wf hWf => ?_)
      obtain ⟨r0, r1, r2, r3, r4, r5, r6⟩ := box7 (show Wf.heap[w.heap.size + 1]? = some (.cells #[.slice none 0 0, .int .i64 0, .int .i64 0, .slice none 0 0, .int .i64 0, .int .i64 0, .int .i64 0] 51 (0, 0)) from by rw [hWf]; exact E6.out)
      refine bodyPost_ret (v := .tuple #[.agg #[.slice none 0 0, .int .i64 0, .int .i64 0, .slice none 0 0, .int .i64 0, .int .i64 0, .int .i64 0], .int .i64 2]) (by simp [results, Try.results27, go_sem, r0, r1, r2, r3, r4, r5, r6]) rfl ?_
      subst hWf
      have HC : RowKit.Below w.heap.size w _ := HBF.out
      exact Or.inl ⟨by rw [HEO.out]; decide, by rw [HEO.out], HC⟩
    by_cases hg1 : 65535 < x.f0
    · have hgd0 : decide (x.f0 < 0) = false := decide_eq_false hg0
      have hgd : decide (65535 < x.f0) = true := decide_eq_true hg1
      have HEO := A_ (show newE b rn rg most = 2 from by unfold newE; rw [if_neg (by simp [HMO.out]), if_pos (HBG.out (by unfold badG inB; simp; omega))])
      obtain ⟨t0, t1, t2, t3, t4, t5, t6⟩ := box7 BZ.out
      obtain ⟨fq0, fq1, fq2, fq3, fq4, fq5, fq6⟩ := frz7 BZ.out
      have hzl := blk_lt BZ.out
      have HBF := A_ (show RowKit.Below w.heap.size w (wr.setCells (w.heap.size + 1) 0 [.slice none 0 0, .int .i64 0, .int .i64 0, .slice none 0 0, .int .i64 0, .int .i64 0, .int .i64 0]) from HB.out.trans (below_setcells (b := w.heap.size) (g := w.heap.size + 1) (by omega) 0 _))
      have e6 := set_same7 (.slice none 0 0) (.int .i64 0) (.int .i64 0) (.slice none 0 0) (.int .i64 0) (.int .i64 0) (.int .i64 0) BZ.out
      have E6 := A_ e6
      clear e6
      go_wp2
      refine ret_named (wr.setCells (w.heap.size + 1) 0 [.slice none 0 0, .int .i64 0, .int .i64 0, .slice none 0 0, .int .i64 0, .int .i64 0, .int .i64 0]) rfl (fun Wf hWf => ?_)
      obtain ⟨r0, r1, r2, r3, r4, r5, r6⟩ := box7 (show Wf.heap[w.heap.size + 1]? = some (.cells #[.slice none 0 0, .int .i64 0, .int .i64 0, .slice none 0 0, .int .i64 0, .int .i64 0, .int .i64 0] 51 (0, 0)) from by rw [hWf]; exact E6.out)
      refine bodyPost_ret (v := .tuple #[.agg #[.slice none 0 0, .int .i64 0, .int .i64 0, .slice none 0 0, .int .i64 0, .int .i64 0, .int .i64 0], .int .i64 2]) (by simp [results, Try.results27, go_sem, r0, r1, r2, r3, r4, r5, r6]) rfl ?_
      subst hWf
      have HC : RowKit.Below w.heap.size w _ := HBF.out
      exact Or.inl ⟨by rw [HEO.out]; decide, by rw [HEO.out], HC⟩
    have hgd0 : decide (x.f0 < 0) = false := decide_eq_false hg0
    have hgd1 : decide (65535 < x.f0) = false := decide_eq_false hg1
    have HNB2 := A_ (HBS.out (by unfold badG inB; simp; omega))
    clear HBS HBG HNB1
    by_cases hk0 : k = 0
    · have HK0 := A_ hk0
      have hk2 : decide (0 < k) = false := by simp; omega
      have HXP := A_ (HXN.out false (by simp; omega))
      clear HXN hk0
      have KP := A_ (show Calls Try.prog 90 #[.agg #[.int .i64 x.f0, .bool x.f1, .int .i64 x.f2.f0, .int .i64 x.f2.f1, .int .i64 x.f2.f2, .string x.f2.f3, .slice P4 x.f2.f4.length p4, .slice P5 x.f2.f5.length p5], .bool false] wr fun e w' => ∃ y : RS, e = .returned (.agg #[.int .i64 y.x.f0, .bool y.x.f1, .int .i64 y.x.f2.f0, .int .i64 y.x.f2.f1, .int .i64 y.x.f2.f2, .string y.x.f2.f3, .slice y.a4 y.x.f2.f4.length y.c4, .slice y.a5 y.x.f2.f5.length y.c5]) ∧ y.x = plainX x false ∧ FT y w' ∧ RowKit.Below wr.heap.size wr w' from ref_plain x false P4 p4 P5 p5 wr HXV.out HXF.out)
      go_wp2_with fail
      refine Calls.mono KP.out ?_
      rintro e w4 ⟨y, rfl, hyx, hft, hb⟩
      have HMY := A_ (show (rs ++ [y]).map (fun y => y.x) = (List.range (k + 1)).map (newS b) from by rw [List.range_succ, List.map_append, List.map_append, HMP.out]; congr 1; show [y.x] = [newS b k]; rw [hyx, ← HXP.out])
      have HFY := A_ hft
      replace HO := A_ (HO.out.below hb)
      replace BN := A_ (blk_below BN.out hb)
      replace BZ := A_ (blk_below BZ.out hb)
      replace HB := A_ (HB.out.trans (hb.mono HB.out.size))
      have HLZ := A_ (blk_lt BZ.out)
      clear hb hft hyx KP x0 x1 x2 x3 x4 x5 x6 x7
      have HOA := A_ (show (w4.alloc (.cells #[.int .i64 y.x.f0, .bool y.x.f1, .int .i64 y.x.f2.f0, .int .i64 y.x.f2.f1, .int .i64 y.x.f2.f2, .string y.x.f2.f3, .slice y.a4 y.x.f2.f4.length y.c4, .slice y.a5 y.x.f2.f5.length y.c5] 69)).ownsRow (w.heap.size + 2) 69 8 (.slice (some ⟨g, 0, none⟩) n c) n (flatS rs) from by rw [HNR.out.1]; exact World.ownsRow.alloc HO.out.1 _)
      have HSA := A_ (show w.heap.size + 2 ≤ (w4.alloc (.cells #[.int .i64 y.x.f0, .bool y.x.f1, .int .i64 y.x.f2.f0, .int .i64 y.x.f2.f1, .int .i64 y.x.f2.f2, .string y.x.f2.f3, .slice y.a4 y.x.f2.f4.length y.c4, .slice y.a5 y.x.f2.f5.length y.c5] 69)).heap.size by rw [World.size_alloc]; have := HLZ.out; omega)
      have HBA := A_ (below_alloc HB.out (.cells #[.int .i64 y.x.f0, .bool y.x.f1, .int .i64 y.x.f2.f0, .int .i64 y.x.f2.f1, .int .i64 y.x.f2.f2, .string y.x.f2.f3, .slice y.a4 y.x.f2.f4.length y.c4, .slice y.a5 y.x.f2.f5.length y.c5] 69))
      have HFA := A_ (show ∀ z ∈ rs ++ [y], FT z (w4.alloc (.cells #[.int .i64 y.x.f0, .bool y.x.f1, .int .i64 y.x.f2.f0, .int .i64 y.x.f2.f1, .int .i64 y.x.f2.f2, .string y.x.f2.f3, .slice y.a4 y.x.f2.f4.length y.c4, .slice y.a5 y.x.f2.f5.length y.c5] 69)) from fun z hz => by
       rcases List.mem_append.1 hz with hz | hz
       · exact (HO.out.2 z hz).keep (KeepU.of_below (Nat.le_refl _) (below_alloc (RowKit.Below.refl _ _) (.cells #[.int .i64 y.x.f0, .bool y.x.f1, .int .i64 y.x.f2.f0, .int .i64 y.x.f2.f1, .int .i64 y.x.f2.f2, .string y.x.f2.f3, .slice y.a4 y.x.f2.f4.length y.c4, .slice y.a5 y.x.f2.f5.length y.c5] 69)))
       · have ez := List.mem_singleton.1 hz
         rw [ez]
         exact (HFY.out).keep (KeepU.of_below (Nat.le_refl _) (below_alloc (RowKit.Below.refl _ _) (.cells #[.int .i64 y.x.f0, .bool y.x.f1, .int .i64 y.x.f2.f0, .int .i64 y.x.f2.f1, .int .i64 y.x.f2.f2, .string y.x.f2.f3, .slice y.a4 y.x.f2.f4.length y.c4, .slice y.a5 y.x.f2.f5.length y.c5] 69))))
      have BNA := A_ (blk_alloc BN.out (.cells #[.int .i64 y.x.f0, .bool y.x.f1, .int .i64 y.x.f2.f0, .int .i64 y.x.f2.f1, .int .i64 y.x.f2.f2, .string y.x.f2.f3, .slice y.a4 y.x.f2.f4.length y.c4, .slice y.a5 y.x.f2.f5.length y.c5] 69))
      have BZA := A_ (blk_alloc BZ.out (.cells #[.int .i64 y.x.f0, .bool y.x.f1, .int .i64 y.x.f2.f0, .int .i64 y.x.f2.f1, .int .i64 y.x.f2.f2, .string y.x.f2.f3, .slice y.a4 y.x.f2.f4.length y.c4, .slice y.a5 y.x.f2.f5.length y.c5] 69))
      go_wp2_with (first | ((with_reducible refine gate_dst (N := 49) rfl ?_); refine wpList_append_own (w4.alloc (.cells #[.int .i64 y.x.f0, .bool y.x.f1, .int .i64 y.x.f2.f0, .int .i64 y.x.f2.f1, .int .i64 y.x.f2.f2, .string y.x.f2.f3, .slice y.a4 y.x.f2.f4.length y.c4, .slice y.a5 y.x.f2.f5.length y.c5] 69)) rfl (.tmp 40) (.tmp 48) 46 rfl (w.heap.size + 2) 69 i0 (.agg #[(.int .i64 0), (.bool false), (.int .i64 0), (.int .i64 0), (.int .i64 0), (.string ⟨#[]⟩), (.slice none 0 0), (.slice none 0 0)]) 8 104 Try.underlying46 HI.out.1 HI.out.2.1 HI.out.2.2.1 HI.out.2.2.2 rfl (by decide) (.slice (some ⟨g, 0, none⟩) n c) n (flatS rs) rfl HOA.out ⟨w4.heap.size, 0, none⟩ 1 1 [.int .i64 y.x.f0, .bool y.x.f1, .int .i64 y.x.f2.f0, .int .i64 y.x.f2.f1, .int .i64 y.x.f2.f2, .string y.x.f2.f3, .slice y.a4 y.x.f2.f4.length y.c4, .slice y.a5 y.x.f2.f5.length y.c5] rfl rfl (cells_new _ _ _) (by simp [Value.oneCell']) (by have := HL.out; have := HNR.out.2; simp only [maxLen]; omega) (by have := HL.out; have := HNR.out.2; omega) HSA.out ?_))
      intro v' w8 hown hgrow _
      obtain ⟨g', c', rfl⟩ := ownsRow_succ hown
      have hgb : ∀ r, (Value.slice (some ⟨g, 0, none⟩) n c).ownBlock = some r → w.heap.size + 2 ≤ r := fun r hr => own_base HOA.out r hr
      have HKU := KeepU.grown (B := w.heap.size + 2) hgrow HOA.out (Nat.le_refl _) HSA.out (by decide)
      have HNR8 := A_ (show n + 1 = (rs ++ [y]).length from by rw [List.length_append, ← HNR.out.1]; rfl)
      have HO8 := A_ (show OwnT (w.heap.size + 2) g' c' (rs ++ [y]) w8 from ⟨by rw [← HNR8.out, flatS_app]; simpa [flatS, flat8, encS, z69, z35] using hown, fun z hz => (HFA.out z hz).keep HKU⟩)
      have HB8 := A_ (HBA.out.trans ((RowKit.Below.refl w.heap.size (w4.alloc (.cells #[.int .i64 y.x.f0, .bool y.x.f1, .int .i64 y.x.f2.f0, .int .i64 y.x.f2.f1, .int .i64 y.x.f2.f2, .string y.x.f2.f3, .slice y.a4 y.x.f2.f4.length y.c4, .slice y.a5 y.x.f2.f5.length y.c5] 69))).grown hgrow HBA.out.size (fun r hr => by have := hgb r hr; omega)))
      have BN8 := A_ ((hgrow.block _ (blk_lt BNA.out) (fun e => by have := hgb _ e.symm; omega)).trans BNA.out)
      have BZ8 := A_ ((hgrow.block _ (blk_lt BZA.out) (fun e => by have := hgb _ e.symm; omega)).trans BZA.out)
      clear hown hgrow hgb HKU
      go_wp2
      exact ⟨⟨k + 1, g', c', n + 1, _, by omega, rfl, by first | (rw [HWK.out]; simp; done) | (simp; done), ⟨HNR8.out, by have := HNR.out.2; omega⟩, HB8, BN8, BZ8, HO8, HMY, HNB2⟩, by first | (rw [HWK.out]; simp [intOf]; omega) | (simp [intOf]; omega)⟩
    · have hk1 : 0 < k := by omega
      have hk2 : decide ((0 : Int) < (k : Int)) = true := by simp; omega
      have HXP := A_ (HXN.out true (by simp; omega))
      clear HXN hk0
      have KP := A_ (show Calls Try.prog 90 #[.agg #[.int .i64 x.f0, .bool x.f1, .int .i64 x.f2.f0, .int .i64 x.f2.f1, .int .i64 x.f2.f2, .string x.f2.f3, .slice P4 x.f2.f4.length p4, .slice P5 x.f2.f5.length p5], .bool true] wr fun e w' => ∃ y : RS, e = .returned (.agg #[.int .i64 y.x.f0, .bool y.x.f1, .int .i64 y.x.f2.f0, .int .i64 y.x.f2.f1, .int .i64 y.x.f2.f2, .string y.x.f2.f3, .slice y.a4 y.x.f2.f4.length y.c4, .slice y.a5 y.x.f2.f5.length y.c5]) ∧ y.x = plainX x true ∧ FT y w' ∧ RowKit.Below wr.heap.size wr w' from ref_plain x true P4 p4 P5 p5 wr HXV.out HXF.out)
      go_wp2_with fail
      refine Calls.mono KP.out ?_
      rintro e w4 ⟨y, rfl, hyx, hft, hb⟩
      have HMY := A_ (show (rs ++ [y]).map (fun y => y.x) = (List.range (k + 1)).map (newS b) from by rw [List.range_succ, List.map_append, List.map_append, HMP.out]; congr 1; show [y.x] = [newS b k]; rw [hyx, ← HXP.out])
      have HFY := A_ hft
      replace HO := A_ (HO.out.below hb)
      replace BN := A_ (blk_below BN.out hb)
      replace BZ := A_ (blk_below BZ.out hb)
      replace HB := A_ (HB.out.trans (hb.mono HB.out.size))
      have HLZ := A_ (blk_lt BZ.out)
      clear hb hft hyx KP x0 x1 x2 x3 x4 x5 x6 x7
      have HOA := A_ (show (w4.alloc (.cells #[.int .i64 y.x.f0, .bool y.x.f1, .int .i64 y.x.f2.f0, .int .i64 y.x.f2.f1, .int .i64 y.x.f2.f2, .string y.x.f2.f3, .slice y.a4 y.x.f2.f4.length y.c4, .slice y.a5 y.x.f2.f5.length y.c5] 69)).ownsRow (w.heap.size + 2) 69 8 (.slice (some ⟨g, 0, none⟩) n c) n (flatS rs) from by rw [HNR.out.1]; exact World.ownsRow.alloc HO.out.1 _)
      have HSA := A_ (show w.heap.size + 2 ≤ (w4.alloc (.cells #[.int .i64 y.x.f0, .bool y.x.f1, .int .i64 y.x.f2.f0, .int .i64 y.x.f2.f1, .int .i64 y.x.f2.f2, .string y.x.f2.f3, .slice y.a4 y.x.f2.f4.length y.c4, .slice y.a5 y.x.f2.f5.length y.c5] 69)).heap.size by rw [World.size_alloc]; have := HLZ.out; omega)
      have HBA := A_ (below_alloc HB.out (.cells #[.int .i64 y.x.f0, .bool y.x.f1, .int .i64 y.x.f2.f0, .int .i64 y.x.f2.f1, .int .i64 y.x.f2.f2, .string y.x.f2.f3, .slice y.a4 y.x.f2.f4.length y.c4, .slice y.a5 y.x.f2.f5.length y.c5] 69))
      have HFA := A_ (show ∀ z ∈ rs ++ [y], FT z (w4.alloc (.cells #[.int .i64 y.x.f0, .bool y.x.f1, .int .i64 y.x.f2.f0, .int .i64 y.x.f2.f1, .int .i64 y.x.f2.f2, .string y.x.f2.f3, .slice y.a4 y.x.f2.f4.length y.c4, .slice y.a5 y.x.f2.f5.length y.c5] 69)) from fun z hz => by
       rcases List.mem_append.1 hz with hz | hz
       · exact (HO.out.2 z hz).keep (KeepU.of_below (Nat.le_refl _) (below_alloc (RowKit.Below.refl _ _) (.cells #[.int .i64 y.x.f0, .bool y.x.f1, .int .i64 y.x.f2.f0, .int .i64 y.x.f2.f1, .int .i64 y.x.f2.f2, .string y.x.f2.f3, .slice y.a4 y.x.f2.f4.length y.c4, .slice y.a5 y.x.f2.f5.length y.c5] 69)))
       · have ez := List.mem_singleton.1 hz
         rw [ez]
         exact (HFY.out).keep (KeepU.of_below (Nat.le_refl _) (below_alloc (RowKit.Below.refl _ _) (.cells #[.int .i64 y.x.f0, .bool y.x.f1, .int .i64 y.x.f2.f0, .int .i64 y.x.f2.f1, .int .i64 y.x.f2.f2, .string y.x.f2.f3, .slice y.a4 y.x.f2.f4.length y.c4, .slice y.a5 y.x.f2.f5.length y.c5] 69))))
      have BNA := A_ (blk_alloc BN.out (.cells #[.int .i64 y.x.f0, .bool y.x.f1, .int .i64 y.x.f2.f0, .int .i64 y.x.f2.f1, .int .i64 y.x.f2.f2, .string y.x.f2.f3, .slice y.a4 y.x.f2.f4.length y.c4, .slice y.a5 y.x.f2.f5.length y.c5] 69))
      have BZA := A_ (blk_alloc BZ.out (.cells #[.int .i64 y.x.f0, .bool y.x.f1, .int .i64 y.x.f2.f0, .int .i64 y.x.f2.f1, .int .i64 y.x.f2.f2, .string y.x.f2.f3, .slice y.a4 y.x.f2.f4.length y.c4, .slice y.a5 y.x.f2.f5.length y.c5] 69))
      go_wp2_with (first | ((with_reducible refine gate_dst (N := 49) rfl ?_); refine wpList_append_own (w4.alloc (.cells #[.int .i64 y.x.f0, .bool y.x.f1, .int .i64 y.x.f2.f0, .int .i64 y.x.f2.f1, .int .i64 y.x.f2.f2, .string y.x.f2.f3, .slice y.a4 y.x.f2.f4.length y.c4, .slice y.a5 y.x.f2.f5.length y.c5] 69)) rfl (.tmp 40) (.tmp 48) 46 rfl (w.heap.size + 2) 69 i0 (.agg #[(.int .i64 0), (.bool false), (.int .i64 0), (.int .i64 0), (.int .i64 0), (.string ⟨#[]⟩), (.slice none 0 0), (.slice none 0 0)]) 8 104 Try.underlying46 HI.out.1 HI.out.2.1 HI.out.2.2.1 HI.out.2.2.2 rfl (by decide) (.slice (some ⟨g, 0, none⟩) n c) n (flatS rs) rfl HOA.out ⟨w4.heap.size, 0, none⟩ 1 1 [.int .i64 y.x.f0, .bool y.x.f1, .int .i64 y.x.f2.f0, .int .i64 y.x.f2.f1, .int .i64 y.x.f2.f2, .string y.x.f2.f3, .slice y.a4 y.x.f2.f4.length y.c4, .slice y.a5 y.x.f2.f5.length y.c5] rfl rfl (cells_new _ _ _) (by simp [Value.oneCell']) (by have := HL.out; have := HNR.out.2; simp only [maxLen]; omega) (by have := HL.out; have := HNR.out.2; omega) HSA.out ?_))
      intro v' w8 hown hgrow _
      obtain ⟨g', c', rfl⟩ := ownsRow_succ hown
      have hgb : ∀ r, (Value.slice (some ⟨g, 0, none⟩) n c).ownBlock = some r → w.heap.size + 2 ≤ r := fun r hr => own_base HOA.out r hr
      have HKU := KeepU.grown (B := w.heap.size + 2) hgrow HOA.out (Nat.le_refl _) HSA.out (by decide)
      have HNR8 := A_ (show n + 1 = (rs ++ [y]).length from by rw [List.length_append, ← HNR.out.1]; rfl)
      have HO8 := A_ (show OwnT (w.heap.size + 2) g' c' (rs ++ [y]) w8 from ⟨by rw [← HNR8.out, flatS_app]; simpa [flatS, flat8, encS, z69, z35] using hown, fun z hz => (HFA.out z hz).keep HKU⟩)
      have HB8 := A_ (HBA.out.trans ((RowKit.Below.refl w.heap.size (w4.alloc (.cells #[.int .i64 y.x.f0, .bool y.x.f1, .int .i64 y.x.f2.f0, .int .i64 y.x.f2.f1, .int .i64 y.x.f2.f2, .string y.x.f2.f3, .slice y.a4 y.x.f2.f4.length y.c4, .slice y.a5 y.x.f2.f5.length y.c5] 69))).grown hgrow HBA.out.size (fun r hr => by have := hgb r hr; omega)))
      have BN8 := A_ ((hgrow.block _ (blk_lt BNA.out) (fun e => by have := hgb _ e.symm; omega)).trans BNA.out)
      have BZ8 := A_ ((hgrow.block _ (blk_lt BZA.out) (fun e => by have := hgb _ e.symm; omega)).trans BZA.out)
      clear hown hgrow hgb HKU
      go_wp2
      exact ⟨⟨k + 1, g', c', n + 1, _, by omega, rfl, by first | (rw [HWK.out]; simp; done) | (simp; done), ⟨HNR8.out, by have := HNR.out.2; omega⟩, HB8, BN8, BZ8, HO8, HMY, HNB2⟩, by first | (rw [HWK.out]; simp [intOf]; omega) | (simp [intOf]; omega)⟩
  · obtain rfl : N = k := by omega
    have HNB := A_ (show b.any badG = false from by
     rw [List.any_eq_false]
     intro x hx
     obtain ⟨j, hj⟩ := List.getElem?_of_mem hx
     have hjl := (List.getElem?_eq_some_iff.1 hj).1
     have h := HNB1.out j (by have := HN.out; omega)
     rw [List.getD_eq_getElem?_getD, hj] at h
     simpa using h)
    have HLZ := A_ (blk_lt BZ.out)
    have HWR := A_ (RowKit.Below.refl wr.heap.size wr)
    go_upto_if 52 with fail
    go_cut [8] (fun v8 wq => ∃ (g c n : Nat) (rs : List RS), v8 = .slice (some ⟨g, 0, none⟩) n c ∧ Aside0 (n = rs.length) ∧ Aside0 (RowKit.Below w.heap.size w wq) ∧ Aside0 (wq.heap[w.heap.size]? = some (.cells #[.int .i64 rn, .int .i64 rg] 28 (0, 0))) ∧ Aside0 (wq.heap[w.heap.size + 1]? = some (.cells #[.slice none 0 0, .int .i64 0, .int .i64 0, .slice none 0 0, .int .i64 0, .int .i64 0, .int .i64 0] 51 (0, 0))) ∧ Aside0 (OwnT (w.heap.size + 2) g c rs wq) ∧ Aside0 (rs.map (fun y => y.x) = newNow b))
    case first =>
     by_cases hN0 : N = 0
     · subst hN0
       obtain rfl : n = 0 := HNR.out.2
       obtain rfl : rs = [] := List.length_eq_zero_iff.1 HNR.out.1.symm
       have HFY := A_ (show FT ⟨z69, none, 0, none, 0⟩ wr from FV.nil _ _ _ rfl rfl)
       have HOA := A_ (show (wr.alloc (.cells #[.int .i64 0, .bool false, .int .i64 0, .int .i64 0, .int .i64 0, .string ⟨#[]⟩, .slice none 0 0, .slice none 0 0] 69)).ownsRow (w.heap.size + 2) 69 8 (.slice (some ⟨g, 0, none⟩) 0 c) 0 (flatS ([] : List RS)) from by rw [HNR.out.1]; exact World.ownsRow.alloc HO.out.1 _)
       have HSA := A_ (show w.heap.size + 2 ≤ (wr.alloc (.cells #[.int .i64 0, .bool false, .int .i64 0, .int .i64 0, .int .i64 0, .string ⟨#[]⟩, .slice none 0 0, .slice none 0 0] 69)).heap.size by rw [World.size_alloc]; have := HLZ.out; omega)
       have HBA := A_ (below_alloc HB.out (.cells #[.int .i64 0, .bool false, .int .i64 0, .int .i64 0, .int .i64 0, .string ⟨#[]⟩, .slice none 0 0, .slice none 0 0] 69))
       have HFA := A_ (show ∀ z ∈ ([] : List RS) ++ [(⟨z69, none, 0, none, 0⟩ : RS)], FT z (wr.alloc (.cells #[.int .i64 0, .bool false, .int .i64 0, .int .i64 0, .int .i64 0, .string ⟨#[]⟩, .slice none 0 0, .slice none 0 0] 69)) from fun z hz => by
        rcases List.mem_append.1 hz with hz | hz
        · exact (HO.out.2 z hz).keep (KeepU.of_below (Nat.le_refl _) (below_alloc (RowKit.Below.refl _ _) (.cells #[.int .i64 0, .bool false, .int .i64 0, .int .i64 0, .int .i64 0, .string ⟨#[]⟩, .slice none 0 0, .slice none 0 0] 69)))
        · have ez := List.mem_singleton.1 hz
          rw [ez]
          exact (HFY.out).keep (KeepU.of_below (Nat.le_refl _) (below_alloc (RowKit.Below.refl _ _) (.cells #[.int .i64 0, .bool false, .int .i64 0, .int .i64 0, .int .i64 0, .string ⟨#[]⟩, .slice none 0 0, .slice none 0 0] 69))))
       have BNA := A_ (blk_alloc BN.out (.cells #[.int .i64 0, .bool false, .int .i64 0, .int .i64 0, .int .i64 0, .string ⟨#[]⟩, .slice none 0 0, .slice none 0 0] 69))
       have BZA := A_ (blk_alloc BZ.out (.cells #[.int .i64 0, .bool false, .int .i64 0, .int .i64 0, .int .i64 0, .string ⟨#[]⟩, .slice none 0 0, .slice none 0 0] 69))
       go_wp2_with (first | ((with_reducible refine gate_dst (N := 56) rfl ?_); refine wpList_append_own (wr.alloc (.cells #[.int .i64 0, .bool false, .int .i64 0, .int .i64 0, .int .i64 0, .string ⟨#[]⟩, .slice none 0 0, .slice none 0 0] 69)) rfl (.tmp 53) (.tmp 55) 46 rfl (w.heap.size + 2) 69 i0 (.agg #[(.int .i64 0), (.bool false), (.int .i64 0), (.int .i64 0), (.int .i64 0), (.string ⟨#[]⟩), (.slice none 0 0), (.slice none 0 0)]) 8 104 Try.underlying46 HI.out.1 HI.out.2.1 HI.out.2.2.1 HI.out.2.2.2 rfl (by decide) (.slice (some ⟨g, 0, none⟩) 0 c) 0 (flatS ([] : List RS)) rfl HOA.out ⟨wr.heap.size, 0, none⟩ 1 1 [.int .i64 0, .bool false, .int .i64 0, .int .i64 0, .int .i64 0, .string ⟨#[]⟩, .slice none 0 0, .slice none 0 0] rfl rfl (cells_new _ _ _) (by simp [Value.oneCell']) (by have := HL.out; have := HNR.out.2; simp only [maxLen]; omega) (by have := HL.out; have := HNR.out.2; omega) HSA.out ?_))
       intro v' w8 hown hgrow _
       obtain ⟨g', c', rfl⟩ := ownsRow_succ hown
       have hgb : ∀ r, (Value.slice (some ⟨g, 0, none⟩) 0 c).ownBlock = some r → w.heap.size + 2 ≤ r := fun r hr => own_base HOA.out r hr
       have HKU := KeepU.grown (B := w.heap.size + 2) hgrow HOA.out (Nat.le_refl _) HSA.out (by decide)
       have HNR8 := A_ (show 0 + 1 = (([] : List RS) ++ [(⟨z69, none, 0, none, 0⟩ : RS)]).length from by rw [List.length_append, ← HNR.out.1]; rfl)
       have HO8 := A_ (show OwnT (w.heap.size + 2) g' c' (([] : List RS) ++ [(⟨z69, none, 0, none, 0⟩ : RS)]) w8 from ⟨by rw [← HNR8.out, flatS_app]; simpa [flatS, flat8, encS, z69, z35] using hown, fun z hz => (HFA.out z hz).keep HKU⟩)
       have HB8 := A_ (HBA.out.trans ((RowKit.Below.refl w.heap.size (wr.alloc (.cells #[.int .i64 0, .bool false, .int .i64 0, .int .i64 0, .int .i64 0, .string ⟨#[]⟩, .slice none 0 0, .slice none 0 0] 69))).grown hgrow HBA.out.size (fun r hr => by have := hgb r hr; omega)))
       have BN8 := A_ ((hgrow.block _ (blk_lt BNA.out) (fun e => by have := hgb _ e.symm; omega)).trans BNA.out)
       have BZ8 := A_ ((hgrow.block _ (blk_lt BZA.out) (fun e => by have := hgb _ e.symm; omega)).trans BZA.out)
       clear hown hgrow hgb HKU
       have HMQ := A_ (show ([] ++ [(⟨z69, none, 0, none, 0⟩ : RS)]).map (fun y : RS => y.x) = newNow b from by unfold newNow newS; rw [← HN.out]; simp [← HN.out])
       go_wp2
       go_meet
       case rel => exact ⟨g', c', _, _, rfl, HNR8, HB8, BN8, BZ8, HO8, HMQ⟩
     · have hn0 : ((n : Int) == 0) = false := by rw [beq_eq_false_iff_ne]; have := HNR.out.2; omega
       have HMQ := A_ (show rs.map (fun y => y.x) = newNow b from by rw [HMP.out]; unfold newNow; congr 2; have := HN.out; omega)
       have HNR0 := A_ HNR.out.1
       go_wp2
       go_meet
       case rel => exact ⟨g, c, n, rs, rfl, HNR0, HB, BN, BZ, HO, HMQ⟩
    case' rest => obtain ⟨g2, c2, n2, rs2, rfl, HNR2, HB2, BN2, BZ2, HO2, HMQ⟩ := hcut
    clear HNR HB BN BZ HO HMP HNB1 HLZ HWR
    obtain ⟨d0, d1⟩ := box2 BN2.out
    have hln := blk_lt BN2.out
    go_upto_region 12 with fail
    obtain ⟨W9, hW9⟩ : ∃ W9, W9 = wc := ⟨_, rfl⟩
    go_cut [79] (fun s wd => s = .bool (!rootB rn rg) ∧ wd = wc)
    case first =>
     by_cases hr0 : rn = 0 ∧ rg = 0
     · obtain ⟨rfl, rfl⟩ := hr0
       go_wp2
       go_meet
       case rel => exact ⟨rfl, rfl⟩
     · have hrb := nz2 hr0
       have HRN := A_ hr0
       clear hr0
       by_cases hc0 : rn < 1
       · have hd0 : decide (rn < 1) = true := decide_eq_true hc0
         have HRB := A_ (rootB_bad HRN.out (by omega))
         go_wp2
         go_meet
         case rel => exact ⟨by rw [HRB.out]; rfl, rfl⟩
       have hd0 : decide (rn < 1) = false := decide_eq_false hc0
       by_cases hc1 : 8388607 < rn
       · have hd1 : decide (8388607 < rn) = true := decide_eq_true hc1
         have HRB := A_ (rootB_bad HRN.out (by omega))
         go_wp2
         go_meet
         case rel => exact ⟨by rw [HRB.out]; rfl, rfl⟩
       have hd1 : decide (8388607 < rn) = false := decide_eq_false hc1
       by_cases hc2 : rg < 0
       · have hd2 : decide (rg < 0) = true := decide_eq_true hc2
         have HRB := A_ (rootB_bad HRN.out (by omega))
         go_wp2
         go_meet
         case rel => exact ⟨by rw [HRB.out]; rfl, rfl⟩
       have hd2 : decide (rg < 0) = false := decide_eq_false hc2
       by_cases hc3 : 65535 < rg
       · have hd3 : decide (65535 < rg) = true := decide_eq_true hc3
         have HRB := A_ (rootB_bad HRN.out (by omega))
         go_wp2
         go_meet
         case rel => exact ⟨by rw [HRB.out]; rfl, rfl⟩
       have hd3 : decide (65535 < rg) = false := decide_eq_false hc3
       have HRB := A_ (rootB_ok (rn := rn) (rg := rg) (by omega))
       go_wp2
       go_meet
       case rel => exact ⟨by rw [HRB.out]; rfl, rfl⟩
    case' rest => obtain ⟨rfl, rfl⟩ := hcut
    clear d0 d1 hln hW9
    obtain ⟨rb, hrb⟩ : ∃ rb, rb = rootB rn rg := ⟨_, rfl⟩
    rw [← hrb]
    have HRB := A_ hrb
    clear hrb
    obtain ⟨d0, d1⟩ := box2 BN2.out
    have hln := blk_lt BN2.out
    cases rb
    · have HEO := A_ (show newE b rn rg most = 3 from by unfold newE; rw [if_neg (by simp [HMO.out]), if_neg (by simp [HNB.out]), if_pos HRB.out.symm])
      obtain ⟨t0, t1, t2, t3, t4, t5, t6⟩ := box7 BZ2.out
      obtain ⟨fq0, fq1, fq2, fq3, fq4, fq5, fq6⟩ := frz7 BZ2.out
      have hzl := blk_lt BZ2.out
      have HBF := A_ (show RowKit.Below w.heap.size w (wc.setCells (w.heap.size + 1) 0 [.slice none 0 0, .int .i64 0, .int .i64 0, .slice none 0 0, .int .i64 0, .int .i64 0, .int .i64 0]) from HB2.out.trans (below_setcells (b := w.heap.size) (g := w.heap.size + 1) (by omega) 0 _))
      have e6 := set_same7 (.slice none 0 0) (.int .i64 0) (.int .i64 0) (.slice none 0 0) (.int .i64 0) (.int .i64 0) (.int .i64 0) BZ2.out
      have E6 := A_ e6
      clear e6
      go_wp2
      refine ret_named (wc.setCells (w.heap.size + 1) 0 [.slice none 0 0, .int .i64 0, .int .i64 0, .slice none 0 0, .int .i64 0, .int .i64 0, .int .i64 0]) rfl (fun Wf hWf => ?_)
      obtain ⟨r0, r1, r2, r3, r4, r5, r6⟩ := box7 (show Wf.heap[w.heap.size + 1]? = some (.cells #[.slice none 0 0, .int .i64 0, .int .i64 0, .slice none 0 0, .int .i64 0, .int .i64 0, .int .i64 0] 51 (0, 0)) from by rw [hWf]; exact E6.out)
      refine bodyPost_ret (v := .tuple #[.agg #[.slice none 0 0, .int .i64 0, .int .i64 0, .slice none 0 0, .int .i64 0, .int .i64 0, .int .i64 0], .int .i64 3]) (by simp [results, Try.results27, go_sem, r0, r1, r2, r3, r4, r5, r6]) rfl ?_
      subst hWf
      have HC : RowKit.Below w.heap.size w _ := HBF.out
      exact Or.inl ⟨by rw [HEO.out]; decide, by rw [HEO.out], HC⟩
    · have HEO := A_ (show newE b rn rg most = 0 from by unfold newE; rw [if_neg (by simp [HMO.out]), if_neg (by simp [HNB.out]), if_neg (by rw [← HRB.out]; decide)])
      obtain ⟨t0, t1, t2, t3, t4, t5, t6⟩ := box7 BZ2.out
      obtain ⟨fq0, fq1, fq2, fq3, fq4, fq5, fq6⟩ := frz7 BZ2.out
      have hzl := blk_lt BZ2.out
      have HBF := A_ (show RowKit.Below w.heap.size w ((wc.setCells (w.heap.size + 1) 0 [.slice (some ⟨g2, 0, none⟩) n2 c2, .int .i64 rn, .int .i64 rg, .slice (some ⟨g2, 0, none⟩) n2 c2, .int .i64 rn, .int .i64 rg, .int .i64 most]).alloc (.cells #[.slice (some ⟨g2, 0, none⟩) n2 c2, .int .i64 rn, .int .i64 rg] 49)) from below_alloc (HB2.out.trans (below_setcells (b := w.heap.size) (g := w.heap.size + 1) (by omega) 0 _)) (.cells #[.slice (some ⟨g2, 0, none⟩) n2 c2, .int .i64 rn, .int .i64 rg] 49))
      have HOF := A_ (show OwnT 0 g2 c2 (rs2) ((wc.setCells (w.heap.size + 1) 0 [.slice (some ⟨g2, 0, none⟩) n2 c2, .int .i64 rn, .int .i64 rg, .slice (some ⟨g2, 0, none⟩) n2 c2, .int .i64 rn, .int .i64 rg, .int .i64 most]).alloc (.cells #[.slice (some ⟨g2, 0, none⟩) n2 c2, .int .i64 rn, .int .i64 rg] 49)) from OwnT.below (OwnT.box (HO2.out.lower (Nat.zero_le _)) BZ2.out (by decide) (by decide) 0 [.slice (some ⟨g2, 0, none⟩) n2 c2, .int .i64 rn, .int .i64 rg, .slice (some ⟨g2, 0, none⟩) n2 c2, .int .i64 rn, .int .i64 rg, .int .i64 most]) (below_alloc (RowKit.Below.refl _ _) (.cells #[.slice (some ⟨g2, 0, none⟩) n2 c2, .int .i64 rn, .int .i64 rg] 49)))
      have e6 := set_same7 (.slice (some ⟨g2, 0, none⟩) n2 c2) (.int .i64 rn) (.int .i64 rg) (.slice (some ⟨g2, 0, none⟩) n2 c2) (.int .i64 rn) (.int .i64 rg) (.int .i64 most) BZ2.out
      have E6 := A_ (blk_alloc e6 (.cells #[.slice (some ⟨g2, 0, none⟩) n2 c2, .int .i64 rn, .int .i64 rg] 49))
      clear e6
      go_wp2
      refine ret_named ((wc.setCells (w.heap.size + 1) 0 [.slice (some ⟨g2, 0, none⟩) n2 c2, .int .i64 rn, .int .i64 rg, .slice (some ⟨g2, 0, none⟩) n2 c2, .int .i64 rn, .int .i64 rg, .int .i64 most]).alloc (.cells #[.slice (some ⟨g2, 0, none⟩) n2 c2, .int .i64 rn, .int .i64 rg] 49)) rfl (fun Wf hWf => ?_)
      obtain ⟨r0, r1, r2, r3, r4, r5, r6⟩ := box7 (show Wf.heap[w.heap.size + 1]? = some (.cells #[.slice (some ⟨g2, 0, none⟩) n2 c2, .int .i64 rn, .int .i64 rg, .slice (some ⟨g2, 0, none⟩) n2 c2, .int .i64 rn, .int .i64 rg, .int .i64 most] 51 (0, 0)) from by rw [hWf]; exact E6.out)
      refine bodyPost_ret (v := .tuple #[.agg #[.slice (some ⟨g2, 0, none⟩) n2 c2, .int .i64 rn, .int .i64 rg, .slice (some ⟨g2, 0, none⟩) n2 c2, .int .i64 rn, .int .i64 rg, .int .i64 most], .int .i64 0]) (by simp [results, Try.results27, go_sem, r0, r1, r2, r3, r4, r5, r6]) rfl ?_
      subst hWf
      have HC : RowKit.Below w.heap.size w _ := HBF.out
      exact Or.inr ⟨HEO.out, ⟨g2, c2, rs2, g2, c2, rs2⟩, by rw [HNR2.out]; rfl, ⟨HOF.out, HMQ.out, HOF.out, HMQ.out, Nat.le_trans (Nat.le_add_right _ 2) HO2.out.lt.1, Nat.le_trans (Nat.le_add_right _ 2) HO2.out.lt.1⟩, HC⟩
theorem far_ {W : World} {g o b k : Nat} {vs : List Value} {u : Value} (h : W.cell? ⟨b, k, none⟩ = some u) (hb : b ≠ g) : (W.setCells g o vs).cell? ⟨b, k, none⟩ = some u := by
 have e := cells_other (W := W) hb (World.block_lt_of_cell? W _ h) vs o
 rw [← h]
 unfold World.cell?
 simp only [e]
set_option maxHeartbeats 16000000 in
set_option maxRecDepth 100000 in
theorem ref_alloc (b : Nat → Prop) (R : RL) (s : WS) (w : World) (h : RefIs b R s w) (hp : PlW s) (h0 : ∀ k, w.heap.size ≤ k → b k) (h1 : 0 < R.rsN.length) (h9 : R.rsN.length ≤ 80000) :
 Calls Try.prog 91 #[.agg (R.cells s)] w fun e w' => ∃ R', e = .returned (.tuple #[.agg (R'.cells (allocS s)), .agg #[.int .i64 (allocR s).1, .int .i64 (allocR s).2.1], .int .i64 (allocR s).2.2]) ∧ RefIs b R' (allocS s) w' ∧ RowKit.Below w.heap.size w w' := by
 have hu28 := Try.underlying28
 have hu46 := Try.underlying46
 have hu49 := Try.underlying49
 have hu51 := Try.underlying51
 have hu69 := Try.underlying69
 obtain ⟨i0, hi0, hz0, hz1, hz2⟩ := info_parts info69
 have HI := A_ (And.intro hi0 (And.intro hz0 (And.intro hz1 hz2)))
 clear hi0 hz0 hz1 hz2
 have hlen : s.now.length = R.rsN.length := by rw [← h.2.1, List.length_map]
 have hgN := h.1.lt.2
 have H := A_ h
 have HP := A_ hp
 have HH0 := A_ h0
 obtain ⟨gN, cN, rsN, gB, cB, rsB⟩ := R
 simp only [RL.cells] at h1 h9 hlen hgN ⊢
 obtain ⟨nN, hnN⟩ : ∃ nN, nN = rsN.length := ⟨_, rfl⟩
 obtain ⟨nB, hnB⟩ : ∃ nB, nB = rsB.length := ⟨_, rfl⟩
 rw [← hnN] at hlen h9 h1
 rw [← hnN, ← hnB]
 obtain ⟨⟨q1, q2, q3⟩, hq⟩ : ∃ q, q = allocR s := ⟨_, rfl⟩
 obtain ⟨sp, hsp⟩ : ∃ sp, sp = allocS s := ⟨_, rfl⟩
 rw [← hq, ← hsp]
 have HQ := A_ (And.intro hq hsp)
 have HNN := A_ (And.intro hnN (And.intro hnB hlen))
 have HL := A_ h9
 have HG := A_ hgN
 have H00 := A_ h1
 have HB3 := A_ (below_alloc (below_alloc (below_alloc (RowKit.Below.refl w.heap.size w) (.cells #[.slice (some ⟨gN, 0, none⟩) nN cN, .int .i64 s.rn, .int .i64 s.rg, .slice (some ⟨gB, 0, none⟩) nB cB, .int .i64 s.bn, .int .i64 s.bg, .int .i64 s.most] 51)) (.cells #[.slice none 0 0, .int .i64 0, .int .i64 0, .slice none 0 0, .int .i64 0, .int .i64 0, .int .i64 0] 51)) (.cells #[.int .i64 0, .int .i64 0] 28))
 have BX3 := A_ (blk_alloc (blk_alloc (blk_new w (.cells #[.slice (some ⟨gN, 0, none⟩) nN cN, .int .i64 s.rn, .int .i64 s.rg, .slice (some ⟨gB, 0, none⟩) nB cB, .int .i64 s.bn, .int .i64 s.bg, .int .i64 s.most] 51)) (.cells #[.slice none 0 0, .int .i64 0, .int .i64 0, .slice none 0 0, .int .i64 0, .int .i64 0, .int .i64 0] 51)) (.cells #[.int .i64 0, .int .i64 0] 28))
 have BZ3 := A_ (blk_alloc (blk_new (w.alloc (.cells #[.slice (some ⟨gN, 0, none⟩) nN cN, .int .i64 s.rn, .int .i64 s.rg, .slice (some ⟨gB, 0, none⟩) nB cB, .int .i64 s.bn, .int .i64 s.bg, .int .i64 s.most] 51)) (.cells #[.slice none 0 0, .int .i64 0, .int .i64 0, .slice none 0 0, .int .i64 0, .int .i64 0, .int .i64 0] 51)) (.cells #[.int .i64 0, .int .i64 0] 28))
 have BN3 := A_ (blk_new ((w.alloc (.cells #[.slice (some ⟨gN, 0, none⟩) nN cN, .int .i64 s.rn, .int .i64 s.rg, .slice (some ⟨gB, 0, none⟩) nB cB, .int .i64 s.bn, .int .i64 s.bg, .int .i64 s.most] 51)).alloc (.cells #[.slice none 0 0, .int .i64 0, .int .i64 0, .slice none 0 0, .int .i64 0, .int .i64 0, .int .i64 0] 51)) (.cells #[.int .i64 0, .int .i64 0] 28))
 simp only [World.size_alloc] at BZ3 BN3
 clear h hp hnN hnB hlen h9 hgN h1 h0 hq hsp
 go_enter Try.func91, Try.ntmps91
 go_wp2
 go_loopw [5] (fun i wr => ∃ k : Nat, 1 ≤ k ∧ k ≤ nN ∧ i = .int .i64 k ∧ Aside0 (RowKit.Below w.heap.size w wr) ∧ Aside0 (wr.heap[w.heap.size]? = some (.cells #[.slice (some ⟨gN, 0, none⟩) nN cN, .int .i64 s.rn, .int .i64 s.rg, .slice (some ⟨gB, 0, none⟩) nB cB, .int .i64 s.bn, .int .i64 s.bg, .int .i64 s.most] 51 (0, 0))) ∧ Aside0 (wr.heap[w.heap.size + 1]? = some (.cells #[.slice none 0 0, .int .i64 0, .int .i64 0, .slice none 0 0, .int .i64 0, .int .i64 0, .int .i64 0] 51 (0, 0))) ∧ Aside0 (wr.heap[w.heap.size + 1 + 1]? = some (.cells #[.int .i64 0, .int .i64 0] 28 (0, 0))) ∧ Aside0 (∀ j, j < k → ¬ (0 < j ∧ freeS (s.now.getD j z69) = true))) (fun i _ => nN - (intOf i).toNat)
 case atStart => exact ⟨1, Nat.le_refl _, H00.out, rfl, HB3, BX3, BZ3, BN3, ⟨fun j hj hh => by omega⟩⟩
 case round =>
  clear HB3 BX3 BZ3 BN3
  obtain ⟨k, hk1, hk, rfl, HB, BX, BZ, BN, HNO⟩ := hrel
  have hlt0 : w.heap.size < wr.heap.size := blk_lt BX.out
  have HR := A_ (H.out.below HB.out)
  obtain ⟨u0, u1, u2, u3, u4, u5, u6⟩ := box7 BX.out
  by_cases hlt : k < nN
  · obtain ⟨y, hy, hyx, hym, s0, s1, s2, s3, s4, s5, s6, s7⟩ := HR.out.slot k (by show k < rsN.length; have := HNN.out.1; omega)
    have hwk : wrap64 ((k : Int) + 1) = (k : Int) + 1 := by have := HL.out; unfold wrap64; omega
    have HWK := A_ hwk
    have hNm : nN ≤ 9223372036854775807 := by have := HL.out; omega
    have hgNr : gN < wr.heap.size := Nat.lt_of_lt_of_le HG.out HB.out.size
    have HYX := A_ hyx
    simp only [] at s0 s1 s2 s3 s4 s5 s6 s7
    obtain ⟨x0, hx0⟩ : ∃ x0, x0 = y.x.f0 := ⟨_, rfl⟩
    obtain ⟨lv, hlv⟩ : ∃ lv, lv = y.x.f1 := ⟨_, rfl⟩
    rw [← hx0] at s0
    rw [← hlv] at s1
    have HXX := A_ (And.intro hx0 hlv)
    clear hwk hy hyx hym hx0 hlv
    cases lv
    case true =>
     have HNO2 := A_ (show ∀ j, j < k + 1 → ¬ (0 < j ∧ freeS (s.now.getD j z69) = true) from fun j hj hh => by
      by_cases hjk : j < k
      · exact HNO.out j hjk hh
      · obtain rfl : j = k := by omega
        have h2 := hh.2
        rw [← HYX.out] at h2
        unfold freeS at h2
        rw [← HXX.out.2] at h2
        simp at h2)
     have HB2 := A_ (below_alloc HB.out (.cells #[.int .i64 x0, .bool true, .int .i64 y.x.f2.f0, .int .i64 y.x.f2.f1, .int .i64 y.x.f2.f2, .string y.x.f2.f3, .slice y.a4 y.x.f2.f4.length y.c4, .slice y.a5 y.x.f2.f5.length y.c5] 69))
     have BX2 := A_ (blk_alloc BX.out (.cells #[.int .i64 x0, .bool true, .int .i64 y.x.f2.f0, .int .i64 y.x.f2.f1, .int .i64 y.x.f2.f2, .string y.x.f2.f3, .slice y.a4 y.x.f2.f4.length y.c4, .slice y.a5 y.x.f2.f5.length y.c5] 69))
     have BZ2 := A_ (blk_alloc BZ.out (.cells #[.int .i64 x0, .bool true, .int .i64 y.x.f2.f0, .int .i64 y.x.f2.f1, .int .i64 y.x.f2.f2, .string y.x.f2.f3, .slice y.a4 y.x.f2.f4.length y.c4, .slice y.a5 y.x.f2.f5.length y.c5] 69))
     have BN2 := A_ (blk_alloc BN.out (.cells #[.int .i64 x0, .bool true, .int .i64 y.x.f2.f0, .int .i64 y.x.f2.f1, .int .i64 y.x.f2.f2, .string y.x.f2.f3, .slice y.a4 y.x.f2.f4.length y.c4, .slice y.a5 y.x.f2.f5.length y.c5] 69))
     clear HB BX BZ BN HR
     go_wp2
     exact ⟨⟨k + 1, by omega, by omega, by first | (rw [HWK.out]; simp; done) | (simp; done), HB2, BX2, BZ2, BN2, HNO2⟩, by first | (rw [HWK.out]; simp [intOf]; omega) | (simp [intOf]; omega)⟩
    case false =>
     by_cases hmx : x0 < 65535
     case neg =>
      have hmd : decide (x0 < 65535) = false := decide_eq_false hmx
      have HNO2 := A_ (show ∀ j, j < k + 1 → ¬ (0 < j ∧ freeS (s.now.getD j z69) = true) from fun j hj hh => by
       by_cases hjk : j < k
       · exact HNO.out j hjk hh
       · obtain rfl : j = k := by omega
         have h2 := hh.2
         rw [← HYX.out] at h2
         unfold freeS at h2
         rw [← HXX.out.1] at h2
         simp at h2
         omega)
      have HB2 := A_ (below_alloc HB.out (.cells #[.int .i64 x0, .bool false, .int .i64 y.x.f2.f0, .int .i64 y.x.f2.f1, .int .i64 y.x.f2.f2, .string y.x.f2.f3, .slice y.a4 y.x.f2.f4.length y.c4, .slice y.a5 y.x.f2.f5.length y.c5] 69))
      have BX2 := A_ (blk_alloc BX.out (.cells #[.int .i64 x0, .bool false, .int .i64 y.x.f2.f0, .int .i64 y.x.f2.f1, .int .i64 y.x.f2.f2, .string y.x.f2.f3, .slice y.a4 y.x.f2.f4.length y.c4, .slice y.a5 y.x.f2.f5.length y.c5] 69))
      have BZ2 := A_ (blk_alloc BZ.out (.cells #[.int .i64 x0, .bool false, .int .i64 y.x.f2.f0, .int .i64 y.x.f2.f1, .int .i64 y.x.f2.f2, .string y.x.f2.f3, .slice y.a4 y.x.f2.f4.length y.c4, .slice y.a5 y.x.f2.f5.length y.c5] 69))
      have BN2 := A_ (blk_alloc BN.out (.cells #[.int .i64 x0, .bool false, .int .i64 y.x.f2.f0, .int .i64 y.x.f2.f1, .int .i64 y.x.f2.f2, .string y.x.f2.f3, .slice y.a4 y.x.f2.f4.length y.c4, .slice y.a5 y.x.f2.f5.length y.c5] 69))
      clear HB BX BZ BN HR
      go_wp2
      exact ⟨⟨k + 1, by omega, by omega, by first | (rw [HWK.out]; simp; done) | (simp; done), HB2, BX2, BZ2, BN2, HNO2⟩, by first | (rw [HWK.out]; simp [intOf]; omega) | (simp [intOf]; omega)⟩
     case pos =>
      have hmd : decide (x0 < 65535) = true := decide_eq_true hmx
      have HLE := A_ (show leastN s.now = k from least_some (by have := HNN.out.2.2; omega) HNO.out (by omega) (by rw [← HYX.out]; unfold freeS; rw [← HXX.out.1, ← HXX.out.2]; simpa using hmx))
      have HY2 := A_ (show y.x.f2 = z35 from by rw [HYX.out]; exact (plx_at HP.out.1 k).2 (by rw [← HYX.out]; exact HXX.out.2.symm))
      have HRR := A_ (show q1 = (k : Int) ∧ q2 = x0 ∧ q3 = 0 from by
       have h2 := HQ.out.1
       unfold allocR at h2
       rw [HLE.out, if_pos (by omega), ← HYX.out, ← HXX.out.1] at h2
       simpa using h2)
      obtain ⟨sq, hsq⟩ : ∃ sq, sq = ({ s with now := s.now.set k ⟨x0, true, z35⟩ } : WS) := ⟨_, rfl⟩
      have HSQ := A_ hsq
      have HSP := A_ (show sp = { s with now := s.now.set k ⟨x0, true, z35⟩ } from by
       rw [HQ.out.2]
       unfold allocS
       rw [HLE.out, if_pos (by omega), ← HYX.out, ← HXX.out.1, HY2.out])
      have HS2 := A_ (show sq.rn = s.rn ∧ sq.rg = s.rg ∧ sq.bn = s.bn ∧ sq.bg = s.bg ∧ sq.most = s.most by rw [hsq]; exact ⟨rfl, rfl, rfl, rfl, rfl⟩)
      have hbA := below_alloc (RowKit.Below.refl _ wr) (.cells #[.int .i64 x0, .bool false, .int .i64 y.x.f2.f0, .int .i64 y.x.f2.f1, .int .i64 y.x.f2.f2, .string y.x.f2.f3, .slice y.a4 y.x.f2.f4.length y.c4, .slice y.a5 y.x.f2.f5.length y.c5] 69)
      have BY := A_ (blk_new wr (.cells #[.int .i64 x0, .bool false, .int .i64 y.x.f2.f0, .int .i64 y.x.f2.f1, .int .i64 y.x.f2.f2, .string y.x.f2.f3, .slice y.a4 y.x.f2.f4.length y.c4, .slice y.a5 y.x.f2.f5.length y.c5] 69))
      have KW := A_ (ref_with b ⟨gN, cN, rsN, gB, cB, rsB⟩ s k ⟨⟨x0, true, z35⟩, none, 0, none, 0⟩ (wr.alloc (.cells #[.int .i64 x0, .bool false, .int .i64 y.x.f2.f0, .int .i64 y.x.f2.f1, .int .i64 y.x.f2.f2, .string y.x.f2.f3, .slice y.a4 y.x.f2.f4.length y.c4, .slice y.a5 y.x.f2.f5.length y.c5] 69)).drew (HR.out.below hbA.drew) (fun k hk => HH0.out k (Nat.le_trans (Nat.le_trans HB.out.size hbA.drew.size) hk)) (by show rsN.length ≤ 90000; have := HNN.out.1; have := HL.out; omega) (by show k < rsN.length; have := HNN.out.1; omega) (FV.nil _ _ _ rfl rfl))
      simp only [RL.cells] at KW
      rw [← HNN.out.1, ← HNN.out.2.1, ← hsq] at KW
      have KW' := A_ (show Calls Try.prog 139 #[.agg #[.slice (some ⟨gN, 0, none⟩) nN cN, .int .i64 s.rn, .int .i64 s.rg, .slice (some ⟨gB, 0, none⟩) nB cB, .int .i64 s.bn, .int .i64 s.bg, .int .i64 s.most], .int .i64 (k : Int), .agg #[.int .i64 x0, .bool true, .int .i64 0, .int .i64 0, .int .i64 0, .string ⟨#[]⟩, .slice none 0 0, .slice none 0 0]] _ _ from KW.out)
      clear hsq hmx KW
      go_upto_region 6 with fail
      refine start_ (n := 13) (S := (fun w' => w'.cell? ⟨w.heap.size, 0, none⟩ = some (.slice (some ⟨gN, 0, none⟩) nN cN) ∧ w'.cell? ⟨w.heap.size, 1, none⟩ = some (.int .i64 s.rn) ∧ w'.cell? ⟨w.heap.size, 2, none⟩ = some (.int .i64 s.rg) ∧ w'.cell? ⟨w.heap.size, 3, none⟩ = some (.slice (some ⟨gB, 0, none⟩) nB cB) ∧ w'.cell? ⟨w.heap.size, 4, none⟩ = some (.int .i64 s.bn) ∧ w'.cell? ⟨w.heap.size, 5, none⟩ = some (.int .i64 s.bg) ∧ w'.cell? ⟨w.heap.size, 6, none⟩ = some (.int .i64 s.most) ∧ w'.cell? ⟨wr.heap.size, 0, none⟩ = some (.int .i64 x0))) (ds := [11, 12]) #[false, false, false, false, false, false, false, false, false, false, false, false, false] (by kernel_rfl) rfl rfl (by refine ⟨?_, ?_, ?_, ?_, ?_, ?_, ?_, ?_⟩ <;> go_simp) (fun hHeld => ?_)
      have HH := A_ hHeld
      clear hHeld
      refine ta_ 0 31 HH.out ?_
      refine pu_ 1 32 ?_
      refine pu_ 2 33 ?_
      refine ta_ 3 34 HH.out ?_
      refine pu_ 4 35 ?_
      refine pu_ 6 37 ?_
      refine pu_ 7 38 ?_
      refine ta_ 8 39 HH.out ?_
      refine pu_ 9 40 ?_
      refine on_ 5 (some 36) (fun K hK => ?_)
      refine cl_ Try.func139 #[.agg #[.slice (some ⟨gN, 0, none⟩) nN cN, .int .i64 s.rn, .int .i64 s.rg, .slice (some ⟨gB, 0, none⟩) nB cB, .int .i64 s.bn, .int .i64 s.bg, .int .i64 s.most], .int .i64 (k : Int), .agg #[.int .i64 x0, .bool true, .int .i64 0, .int .i64 0, .int .i64 0, .string ⟨#[]⟩, .slice none 0 0, .slice none 0 0]] ?_
      refine Calls.mono KW'.out ?_
      rintro e w9 ⟨R2, rfl, hR2, hb_⟩
      refine ⟨_, rfl, ?_⟩
      refine hK.out _ _ ⟨up_ hb_.cell HH.out.1, up_ hb_.cell HH.out.2.1, up_ hb_.cell HH.out.2.2.1, up_ hb_.cell HH.out.2.2.2.1, up_ hb_.cell HH.out.2.2.2.2.1, up_ hb_.cell HH.out.2.2.2.2.2.1, up_ hb_.cell HH.out.2.2.2.2.2.2.1, up_ hb_.cell HH.out.2.2.2.2.2.2.2⟩ (fun hH2 => ?_)
      replace HH := A_ hH2
      have hb9 := hbA.drew.trans (hb_.mono hbA.drew.size)
      have HB9 := A_ (HB.out.trans (hb9.mono HB.out.size))
      have BZ9 := A_ (blk_below BZ.out hb9)
      have BN9 := A_ (blk_below BN.out hb9)
      have HR2 := A_ hR2
      have hlzr := blk_lt BZ.out
      have hlw9 : w.heap.size < w9.heap.size := Nat.lt_of_lt_of_le hlt0 hb9.size
      have hlr9 : wr.heap.size < w9.heap.size := Nat.lt_of_lt_of_le (by simp) hb_.size
      obtain ⟨m1, hm1⟩ : ∃ m1, m1 = R2.rsN.length := ⟨_, rfl⟩
      obtain ⟨m2, hm2⟩ : ∃ m2, m2 = R2.rsB.length := ⟨_, rfl⟩
      have HM := A_ (And.intro hm1 hm2)
      rw [← hm1, ← hm2]
      clear hK K hH2 hb_ hb9 hR2 hm1 hm2 KW' BX BY HB BZ BN HR hbA hlt0 hgNr s0 s1 s2 s3 s4 s5 s6 s7 u0 u1 u2 u3 u4 u5 u6
      refine nm_ (some 36) ?_
      obtain ⟨t0, t1, t2, t3, t4, t5, t6⟩ := box7 BZ9.out
      obtain ⟨d0, d1⟩ := box2 BN9.out
      obtain ⟨fq0, fq1, fq2, fq3, fq4, fq5, fq6⟩ := frz7 BZ9.out
      have fnn := blk_frozen BN9.out
      have fn0 := fnn 0
      have fn1 := fnn 1
      have hzl := blk_lt BZ9.out
      have hnl := blk_lt BN9.out
      have hbn : (w9.setCells (w.heap.size + 1) 0 [.slice (some ⟨R2.gN, 0, none⟩) m1 R2.cN, .int .i64 s.rn, .int .i64 s.rg, .slice (some ⟨R2.gB, 0, none⟩) m2 R2.cB, .int .i64 s.bn, .int .i64 s.bg, .int .i64 s.most]).heap[w.heap.size + 1 + 1]? = _ := (cells_other (show w.heap.size + 1 + 1 ≠ w.heap.size + 1 by omega) hnl _ 0).trans BN9.out
      have HBF := A_ (show RowKit.Below w.heap.size w ((w9.setCells (w.heap.size + 1) 0 [.slice (some ⟨R2.gN, 0, none⟩) m1 R2.cN, .int .i64 s.rn, .int .i64 s.rg, .slice (some ⟨R2.gB, 0, none⟩) m2 R2.cB, .int .i64 s.bn, .int .i64 s.bg, .int .i64 s.most]).setCells (w.heap.size + 1 + 1) 0 [.int .i64 (k : Int), .int .i64 x0]) from HB9.out.trans ((below_setcells (b := w.heap.size) (g := w.heap.size + 1) (by omega) 0 _).trans (below_setcells (b := w.heap.size) (g := w.heap.size + 1 + 1) (by omega) 0 _)))
      have HRF := A_ ((HR2.out.box BZ9.out (by decide) (by decide) 0 [.slice (some ⟨R2.gN, 0, none⟩) m1 R2.cN, .int .i64 s.rn, .int .i64 s.rg, .slice (some ⟨R2.gB, 0, none⟩) m2 R2.cB, .int .i64 s.bn, .int .i64 s.bg, .int .i64 s.most]).box hbn (by decide) (by decide) 0 [.int .i64 (k : Int), .int .i64 x0])
      have e6 := set_same7 (.slice (some ⟨R2.gN, 0, none⟩) m1 R2.cN) (.int .i64 s.rn) (.int .i64 s.rg) (.slice (some ⟨R2.gB, 0, none⟩) m2 R2.cB) (.int .i64 s.bn) (.int .i64 s.bg) (.int .i64 s.most) BZ9.out
      have g0 := heap_setCell_same _ (w.heap.size + 1 + 1) 0 _ 28 (.int .i64 (k : Int)) hbn
      have g1' := heap_setCell_same _ (w.heap.size + 1 + 1) 1 _ 28 (.int .i64 x0) g0
      have EN := A_ g1'
      have EZ := A_ (show (((((((((w9.setCell ⟨w.heap.size + 1, 0, none⟩ (.slice (some ⟨R2.gN, 0, none⟩) m1 R2.cN)).setCell ⟨w.heap.size + 1, 1, none⟩ (.int .i64 s.rn)).setCell ⟨w.heap.size + 1, 2, none⟩ (.int .i64 s.rg)).setCell ⟨w.heap.size + 1, 3, none⟩ (.slice (some ⟨R2.gB, 0, none⟩) m2 R2.cB)).setCell ⟨w.heap.size + 1, 4, none⟩ (.int .i64 s.bn)).setCell ⟨w.heap.size + 1, 5, none⟩ (.int .i64 s.bg)).setCell ⟨w.heap.size + 1, 6, none⟩ (.int .i64 s.most)).setCell ⟨w.heap.size + 1 + 1, 0, none⟩ (.int .i64 (k : Int))).setCell ⟨w.heap.size + 1 + 1, 1, none⟩ (.int .i64 x0)).heap[w.heap.size + 1]? = _ from (RowKit.Below.heap_setCell _ ⟨w.heap.size + 1 + 1, 1, none⟩ _ (w.heap.size + 1) (by show w.heap.size + 1 ≠ w.heap.size + 1 + 1; omega)).trans ((RowKit.Below.heap_setCell _ ⟨w.heap.size + 1 + 1, 0, none⟩ _ (w.heap.size + 1) (by show w.heap.size + 1 ≠ w.heap.size + 1 + 1; omega)).trans e6))
      clear fnn hbn e6 g0 g1'
      refine on_ 10 (none) (fun K hK => ?_)
      refine skip_ (w1 := ?_) (by rfl) rfl ?_ ?_
      rotate_left
      · go_simp
        rfl
      have hfar := fun {j : Nat} {u : Value} {q : Nat} (h : w9.cell? ⟨q, j, none⟩ = some u) (hb : q ≠ w.heap.size + 1) => far_ (g := w.heap.size + 1) (o := 0) (vs := [.slice (some ⟨R2.gN, 0, none⟩) m1 R2.cN, .int .i64 s.rn, .int .i64 s.rg, .slice (some ⟨R2.gB, 0, none⟩) m2 R2.cB, .int .i64 s.bn, .int .i64 s.bg, .int .i64 s.most]) h hb
      refine hK.out _ _ ⟨hfar HH.out.1 (by omega), hfar HH.out.2.1 (by omega), hfar HH.out.2.2.1 (by omega), hfar HH.out.2.2.2.1 (by omega), hfar HH.out.2.2.2.2.1 (by omega), hfar HH.out.2.2.2.2.2.1 (by omega), hfar HH.out.2.2.2.2.2.2.1 (by omega), hfar HH.out.2.2.2.2.2.2.2 (by omega)⟩ (fun hH2 => ?_)
      clear hfar
      clear hK K hH2 HH
      refine chain_ [11, 12] _ _ _ _ (⟨_, _, rfl, rfl, ⟨_, _, rfl, rfl, rfl⟩⟩) (by kernel_rfl) (by decide) ?_
      go_wp2
      refine ret_named ((w9.setCells (w.heap.size + 1) 0 [.slice (some ⟨R2.gN, 0, none⟩) m1 R2.cN, .int .i64 s.rn, .int .i64 s.rg, .slice (some ⟨R2.gB, 0, none⟩) m2 R2.cB, .int .i64 s.bn, .int .i64 s.bg, .int .i64 s.most]).setCells (w.heap.size + 1 + 1) 0 [.int .i64 (k : Int), .int .i64 x0]) rfl (fun Wf hWf => ?_)
      obtain ⟨r0, r1, r2, r3, r4, r5, r6⟩ := box7 (show Wf.heap[w.heap.size + 1]? = some (.cells #[.slice (some ⟨R2.gN, 0, none⟩) m1 R2.cN, .int .i64 s.rn, .int .i64 s.rg, .slice (some ⟨R2.gB, 0, none⟩) m2 R2.cB, .int .i64 s.bn, .int .i64 s.bg, .int .i64 s.most] 51 (0, 0)) from by rw [hWf]; exact EZ.out)
      obtain ⟨p0, p1⟩ := box2 (show Wf.heap[w.heap.size + 1 + 1]? = some (.cells #[.int .i64 (k : Int), .int .i64 x0] 28 (0, 0)) from by rw [hWf]; exact EN.out)
      refine bodyPost_ret (v := .tuple #[.agg #[.slice (some ⟨R2.gN, 0, none⟩) m1 R2.cN, .int .i64 s.rn, .int .i64 s.rg, .slice (some ⟨R2.gB, 0, none⟩) m2 R2.cB, .int .i64 s.bn, .int .i64 s.bg, .int .i64 s.most], .agg #[.int .i64 (k : Int), .int .i64 x0], .int .i64 0]) (by simp [results, Try.results91, go_sem, r0, r1, r2, r3, r4, r5, r6, p0, p1]) rfl ?_
      have HC : RowKit.Below w.heap.size w Wf := by rw [hWf]; exact HBF.out
      have HA : RefIs b R2 sq Wf := by rw [hWf]; exact HRF.out
      refine ⟨R2, ?_, by rw [HSP.out, ← HSQ.out]; exact HA, HC⟩
      rw [HSP.out, ← HSQ.out, HRR.out.1, HRR.out.2.1, HRR.out.2.2, HM.out.1, HM.out.2, HS2.out.1, HS2.out.2.1, HS2.out.2.2.1, HS2.out.2.2.2.1, HS2.out.2.2.2.2]
  · obtain rfl : nN = k := by omega
    have HLE := A_ (show leastN s.now = 0 from least_none (fun j hj => HNO.out j (by have := HNN.out.2.2; omega)))
    by_cases hm : s.most < (nN : Int)
    · have hmd : decide (s.most < (nN : Int)) = true := decide_eq_true hm
      have HRR := A_ (show q1 = 0 ∧ q2 = 0 ∧ q3 = 14 from by
       have h2 := HQ.out.1
       unfold allocR at h2
       rw [HLE.out, if_neg (by simp), if_pos (by rw [HNN.out.2.2]; exact hm)] at h2
       simpa using h2)
      have HSP := A_ (show sp = s from by
       rw [HQ.out.2]
       unfold allocS
       rw [HLE.out, if_neg (by simp), if_pos (by rw [HNN.out.2.2]; exact hm)])
      obtain ⟨t0, t1, t2, t3, t4, t5, t6⟩ := box7 BZ.out
      obtain ⟨d0, d1⟩ := box2 BN.out
      obtain ⟨fq0, fq1, fq2, fq3, fq4, fq5, fq6⟩ := frz7 BZ.out
      have fnn := blk_frozen BN.out
      have fn0 := fnn 0
      have fn1 := fnn 1
      have hzl := blk_lt BZ.out
      have hnl := blk_lt BN.out
      have hbn : (wr.setCells (w.heap.size + 1) 0 [.slice (some ⟨gN, 0, none⟩) nN cN, .int .i64 s.rn, .int .i64 s.rg, .slice (some ⟨gB, 0, none⟩) nB cB, .int .i64 s.bn, .int .i64 s.bg, .int .i64 s.most]).heap[w.heap.size + 1 + 1]? = _ := (cells_other (show w.heap.size + 1 + 1 ≠ w.heap.size + 1 by omega) hnl _ 0).trans BN.out
      have HBF := A_ (show RowKit.Below w.heap.size w ((wr.setCells (w.heap.size + 1) 0 [.slice (some ⟨gN, 0, none⟩) nN cN, .int .i64 s.rn, .int .i64 s.rg, .slice (some ⟨gB, 0, none⟩) nB cB, .int .i64 s.bn, .int .i64 s.bg, .int .i64 s.most]).setCells (w.heap.size + 1 + 1) 0 [.int .i64 0, .int .i64 0]) from HB.out.trans ((below_setcells (b := w.heap.size) (g := w.heap.size + 1) (by omega) 0 _).trans (below_setcells (b := w.heap.size) (g := w.heap.size + 1 + 1) (by omega) 0 _)))
      have HRF := A_ ((HR.out.box BZ.out (by decide) (by decide) 0 [.slice (some ⟨gN, 0, none⟩) nN cN, .int .i64 s.rn, .int .i64 s.rg, .slice (some ⟨gB, 0, none⟩) nB cB, .int .i64 s.bn, .int .i64 s.bg, .int .i64 s.most]).box hbn (by decide) (by decide) 0 [.int .i64 0, .int .i64 0])
      have e6 := set_same7 (.slice (some ⟨gN, 0, none⟩) nN cN) (.int .i64 s.rn) (.int .i64 s.rg) (.slice (some ⟨gB, 0, none⟩) nB cB) (.int .i64 s.bn) (.int .i64 s.bg) (.int .i64 s.most) BZ.out
      have g0 := heap_setCell_same _ (w.heap.size + 1 + 1) 0 _ 28 (.int .i64 0) hbn
      have g1' := heap_setCell_same _ (w.heap.size + 1 + 1) 1 _ 28 (.int .i64 0) g0
      have EN := A_ g1'
      have EZ := A_ (show (((((((((wr.setCell ⟨w.heap.size + 1, 0, none⟩ (.slice (some ⟨gN, 0, none⟩) nN cN)).setCell ⟨w.heap.size + 1, 1, none⟩ (.int .i64 s.rn)).setCell ⟨w.heap.size + 1, 2, none⟩ (.int .i64 s.rg)).setCell ⟨w.heap.size + 1, 3, none⟩ (.slice (some ⟨gB, 0, none⟩) nB cB)).setCell ⟨w.heap.size + 1, 4, none⟩ (.int .i64 s.bn)).setCell ⟨w.heap.size + 1, 5, none⟩ (.int .i64 s.bg)).setCell ⟨w.heap.size + 1, 6, none⟩ (.int .i64 s.most)).setCell ⟨w.heap.size + 1 + 1, 0, none⟩ (.int .i64 0)).setCell ⟨w.heap.size + 1 + 1, 1, none⟩ (.int .i64 0)).heap[w.heap.size + 1]? = _ from (RowKit.Below.heap_setCell _ ⟨w.heap.size + 1 + 1, 1, none⟩ _ (w.heap.size + 1) (by show w.heap.size + 1 ≠ w.heap.size + 1 + 1; omega)).trans ((RowKit.Below.heap_setCell _ ⟨w.heap.size + 1 + 1, 0, none⟩ _ (w.heap.size + 1) (by show w.heap.size + 1 ≠ w.heap.size + 1 + 1; omega)).trans e6))
      clear fnn hbn e6 g0 g1'
      go_wp2
      refine ret_named ((wr.setCells (w.heap.size + 1) 0 [.slice (some ⟨gN, 0, none⟩) nN cN, .int .i64 s.rn, .int .i64 s.rg, .slice (some ⟨gB, 0, none⟩) nB cB, .int .i64 s.bn, .int .i64 s.bg, .int .i64 s.most]).setCells (w.heap.size + 1 + 1) 0 [.int .i64 0, .int .i64 0]) rfl (fun Wf hWf => ?_)
      obtain ⟨r0, r1, r2, r3, r4, r5, r6⟩ := box7 (show Wf.heap[w.heap.size + 1]? = some (.cells #[.slice (some ⟨gN, 0, none⟩) nN cN, .int .i64 s.rn, .int .i64 s.rg, .slice (some ⟨gB, 0, none⟩) nB cB, .int .i64 s.bn, .int .i64 s.bg, .int .i64 s.most] 51 (0, 0)) from by rw [hWf]; exact EZ.out)
      obtain ⟨p0, p1⟩ := box2 (show Wf.heap[w.heap.size + 1 + 1]? = some (.cells #[.int .i64 0, .int .i64 0] 28 (0, 0)) from by rw [hWf]; exact EN.out)
      refine bodyPost_ret (v := .tuple #[.agg #[.slice (some ⟨gN, 0, none⟩) nN cN, .int .i64 s.rn, .int .i64 s.rg, .slice (some ⟨gB, 0, none⟩) nB cB, .int .i64 s.bn, .int .i64 s.bg, .int .i64 s.most], .agg #[.int .i64 0, .int .i64 0], .int .i64 14]) (by simp [results, Try.results91, go_sem, r0, r1, r2, r3, r4, r5, r6, p0, p1]) rfl ?_
      have HC : RowKit.Below w.heap.size w Wf := by rw [hWf]; exact HBF.out
      have HA : RefIs b ⟨gN, cN, rsN, gB, cB, rsB⟩ s Wf := by rw [hWf]; exact HRF.out
      refine ⟨⟨gN, cN, rsN, gB, cB, rsB⟩, ?_, by rw [HSP.out]; exact HA, HC⟩
      rw [HSP.out, HRR.out.1, HRR.out.2.1, HRR.out.2.2, HNN.out.1, HNN.out.2.1]
    · have hmd : decide (s.most < (nN : Int)) = false := decide_eq_false hm
      have HRR := A_ (show q1 = (nN : Int) ∧ q2 = 0 ∧ q3 = 0 from by
       have h2 := HQ.out.1
       unfold allocR at h2
       rw [HLE.out, if_neg (by simp), if_neg (by rw [HNN.out.2.2]; exact hm), HNN.out.2.2] at h2
       simpa using h2)
      have HSP := A_ (show sp = { s with now := s.now ++ [⟨0, true, z35⟩] } from by
       rw [HQ.out.2]
       unfold allocS
       rw [HLE.out, if_neg (by simp), if_neg (by rw [HNN.out.2.2]; exact hm)])
      have BZr := BZ
      have BNr := BN
      have hgNr : gN < wr.heap.size := Nat.lt_of_lt_of_le HG.out HB.out.size
      have HOW := A_ (World.ownsRow_lit (base := wr.heap.size) (e := 69) (size := 8) wr #[] 0 (by simp) (by simp [maxLen]) (by simp))
      have HCL := A_ (show ∀ j u, (flatS rsN)[j]? = some u → (wr.alloc (.cells #[] 69)).cell? ((⟨gN, 0, none⟩ : Addr).add j) = some u from fun j u hj => by
       have h1 := own_cells HR.out.1.1 j u hj
       exact ((below_alloc (RowKit.Below.refl _ wr) (.cells #[] 69)).cell (World.block_lt_of_cell? wr _ h1)).trans h1)
      have HFL := A_ (show (flatS rsN).length = nN * 8 by rw [HNN.out.1]; exact flatS_len rsN)
      have HF1 := A_ (flatS_one rsN)
      have HSZ := A_ (show wr.heap.size ≤ (wr.alloc (.cells #[] 69)).heap.size by simp)
      have hbW := below_alloc (RowKit.Below.refl _ wr) (.cells #[] 69)
      have HBW := A_ (below_alloc HB.out (.cells #[] 69))
      have BXW := A_ (blk_alloc BX.out (.cells #[] 69))
      have BZW := A_ (blk_alloc BZ.out (.cells #[] 69))
      have BNW := A_ (blk_alloc BN.out (.cells #[] 69))
      have HRW := A_ (HR.out.below hbW)
      clear hbW
      go_wp2_with (first | ((with_reducible refine gate_dst (N := 55) rfl ?_); refine wpList_append_own (wr.alloc (.cells #[] 69)) rfl (.tmp 51) (.tmp 54) 46 rfl wr.heap.size 69 i0 (.agg #[(.int .i64 0), (.bool false), (.int .i64 0), (.int .i64 0), (.int .i64 0), (.string ⟨#[]⟩), (.slice none 0 0), (.slice none 0 0)]) 8 104 Try.underlying46 HI.out.1 HI.out.2.1 HI.out.2.2.1 HI.out.2.2.2 rfl (by decide) (.slice (some ⟨wr.heap.size, 0, none⟩) 0 0) 0 [] rfl HOW.out ⟨gN, 0, none⟩ nN cN (flatS rsN) rfl HFL.out HCL.out HF1.out (by have := HL.out; simp only [maxLen]; omega) (by have := HL.out; omega) HSZ.out ?_))
      intro v' w5 hown hgrow hnil
      obtain ⟨g1, c1, hv, ho⟩ : ∃ g1 c1, v' = .slice (some ⟨g1, 0, none⟩) nN c1 ∧ w5.ownsRow wr.heap.size 69 8 (.slice (some ⟨g1, 0, none⟩) nN c1) nN (flatS rsN) := by
       obtain ⟨m, rfl⟩ : ∃ m, nN = m + 1 := ⟨nN - 1, by have := H00.out; omega⟩
       have hown' : w5.ownsRow wr.heap.size 69 8 v' (m + 1) (flatS rsN) := by simpa using hown
       obtain ⟨g1, c1, rfl⟩ := ownsRow_succ hown'
       exact ⟨g1, c1, rfl, hown'⟩
      subst hv
      have hob : ∀ r, (Value.slice (some ⟨wr.heap.size, 0, none⟩) 0 0).ownBlock = some r → wr.heap.size ≤ r := fun r hr => own_base HOW.out r hr
      have HB5 := A_ (HBW.out.grown hgrow HBW.out.size (fun r hr => by have := hob r hr; have := hlt0; omega))
      have BX5 := A_ ((hgrow.block _ (blk_lt BXW.out) (fun e => by have := hob _ e.symm; omega)).trans BXW.out)
      have BZ5 := A_ ((hgrow.block _ (blk_lt BZW.out) (fun e => by have := hob _ e.symm; have := blk_lt BZ.out; omega)).trans BZW.out)
      have BN5 := A_ ((hgrow.block _ (blk_lt BNW.out) (fun e => by have := hob _ e.symm; have := blk_lt BN.out; omega)).trans BNW.out)
      have HO5 := A_ ho
      have HS5 := A_ hgrow.size
      clear hown ho hgrow hnil hob HOW HCL HFL HF1 HSZ HBW BXW BZW BNW HRW HB BX BZ BN u0 u1 u2 u3 u4 u5 u6
      obtain ⟨u0, u1, u2, u3, u4, u5, u6⟩ := box7 BX5.out
      have hlt5 : w.heap.size < w5.heap.size := blk_lt BX5.out
      have HOA := A_ (show (w5.alloc (.cells #[.int .i64 0, .bool true, .int .i64 0, .int .i64 0, .int .i64 0, .string ⟨#[]⟩, .slice none 0 0, .slice none 0 0] 69)).ownsRow wr.heap.size 69 8 (.slice (some ⟨g1, 0, none⟩) nN c1) nN (flatS rsN) from World.ownsRow.alloc HO5.out _)
      have HSA := A_ (show wr.heap.size ≤ (w5.alloc (.cells #[.int .i64 0, .bool true, .int .i64 0, .int .i64 0, .int .i64 0, .string ⟨#[]⟩, .slice none 0 0, .slice none 0 0] 69)).heap.size by rw [World.size_alloc]; have := HS5.out; simp at this; omega)
      have HBA := A_ (below_alloc HB5.out (.cells #[.int .i64 0, .bool true, .int .i64 0, .int .i64 0, .int .i64 0, .string ⟨#[]⟩, .slice none 0 0, .slice none 0 0] 69))
      have BXA := A_ (blk_alloc BX5.out (.cells #[.int .i64 0, .bool true, .int .i64 0, .int .i64 0, .int .i64 0, .string ⟨#[]⟩, .slice none 0 0, .slice none 0 0] 69))
      have BZA := A_ (blk_alloc BZ5.out (.cells #[.int .i64 0, .bool true, .int .i64 0, .int .i64 0, .int .i64 0, .string ⟨#[]⟩, .slice none 0 0, .slice none 0 0] 69))
      have BNA := A_ (blk_alloc BN5.out (.cells #[.int .i64 0, .bool true, .int .i64 0, .int .i64 0, .int .i64 0, .string ⟨#[]⟩, .slice none 0 0, .slice none 0 0] 69))
      go_wp2_with (first | ((with_reducible refine gate_dst (N := 59) rfl ?_); refine wpList_append_own (w5.alloc (.cells #[.int .i64 0, .bool true, .int .i64 0, .int .i64 0, .int .i64 0, .string ⟨#[]⟩, .slice none 0 0, .slice none 0 0] 69)) rfl (.tmp 56) (.tmp 58) 46 rfl wr.heap.size 69 i0 (.agg #[(.int .i64 0), (.bool false), (.int .i64 0), (.int .i64 0), (.int .i64 0), (.string ⟨#[]⟩), (.slice none 0 0), (.slice none 0 0)]) 8 104 Try.underlying46 HI.out.1 HI.out.2.1 HI.out.2.2.1 HI.out.2.2.2 rfl (by decide) (.slice (some ⟨g1, 0, none⟩) nN c1) nN (flatS rsN) rfl HOA.out ⟨w5.heap.size, 0, none⟩ 1 1 [.int .i64 0, .bool true, .int .i64 0, .int .i64 0, .int .i64 0, .string ⟨#[]⟩, .slice none 0 0, .slice none 0 0] rfl rfl (cells_new _ _ _) (by simp [Value.oneCell']) (by have := HL.out; simp only [maxLen]; omega) (by have := HL.out; omega) HSA.out ?_))
      intro v' w8 hown hgrow _
      obtain ⟨g2, c2, rfl⟩ := ownsRow_succ hown
      have hob : ∀ r, (Value.slice (some ⟨g1, 0, none⟩) nN c1).ownBlock = some r → wr.heap.size ≤ r := fun r hr => own_base HOA.out r hr
      have hlZ := blk_lt BZr.out
      have hlN := blk_lt BNr.out
      have HB8 := A_ (HBA.out.grown hgrow HBA.out.size (fun r hr => by have := hob r hr; omega))
      have BX8 := A_ ((hgrow.block _ (blk_lt BXA.out) (fun e => by have := hob _ e.symm; omega)).trans BXA.out)
      have BZ8 := A_ ((hgrow.block _ (blk_lt BZA.out) (fun e => by have := hob _ e.symm; omega)).trans BZA.out)
      have BN8 := A_ ((hgrow.block _ (blk_lt BNA.out) (fun e => by have := hob _ e.symm; omega)).trans BNA.out)
      have HR8 := A_ (H.out.below HB8.out)
      have HG2 := A_ (own_base hown g2 rfl)
      have HO8 := A_ (show OwnT 0 g2 c2 (rsN ++ [⟨⟨0, true, z35⟩, none, 0, none, 0⟩]) w8 from ⟨by rw [List.length_append, flatS_app, ← HNN.out.1]; exact own_weaken (by simpa [flatS, flat8, encS, z35] using hown) (Nat.zero_le _), fun z hz => by
       rcases List.mem_append.1 hz with hz | hz
       · exact HR8.out.1.2 z hz
       · obtain rfl := List.mem_singleton.1 hz
         exact FV.nil _ _ _ rfl rfl⟩)
      clear hown hgrow hob HOA HSA HBA BXA BZA BNA HB5 BX5 BZ5 BN5 HO5 HS5 hlt5 u0 u1 u2 u3 u4 u5 u6
      obtain ⟨u0, u1, u2, u3, u4, u5, u6⟩ := box7 BX8.out
      have hlt8 : w.heap.size < w8.heap.size := blk_lt BX8.out
      have fxx := blk_frozen BX8.out
      have fx0 := fxx 0
      have hbx := heap_setCell_same _ w.heap.size 0 _ 51 (.slice (some ⟨g2, 0, none⟩) (nN + 1) c2) BX8.out
      have HBq := A_ (HB8.out.setCell (p := ⟨w.heap.size, 0, none⟩) (Nat.le_refl _) (.slice (some ⟨g2, 0, none⟩) (nN + 1) c2))
      have BXq := A_ hbx
      have BZq := A_ ((RowKit.Below.heap_setCell w8 ⟨w.heap.size, 0, none⟩ (.slice (some ⟨g2, 0, none⟩) (nN + 1) c2) (w.heap.size + 1) (by show w.heap.size + 1 ≠ w.heap.size; omega)).trans BZ8.out)
      have BNq := A_ ((RowKit.Below.heap_setCell w8 ⟨w.heap.size, 0, none⟩ (.slice (some ⟨g2, 0, none⟩) (nN + 1) c2) (w.heap.size + 1 + 1) (by show w.heap.size + 1 + 1 ≠ w.heap.size; omega)).trans BN8.out)
      have HRq := A_ (show RefIs b ⟨g2, c2, rsN ++ [⟨⟨0, true, z35⟩, none, 0, none, 0⟩], gB, cB, rsB⟩ { s with now := s.now ++ [⟨0, true, z35⟩] } (w8.setCell ⟨w.heap.size, 0, none⟩ (.slice (some ⟨g2, 0, none⟩) (nN + 1) c2)) from ⟨OwnT.box HO8.out BX8.out (by decide) (by decide) 0 [.slice (some ⟨g2, 0, none⟩) (nN + 1) c2], by rw [List.map_append, HR8.out.2.1]; rfl, OwnT.box HR8.out.2.2.1 BX8.out (by decide) (by decide) 0 [.slice (some ⟨g2, 0, none⟩) (nN + 1) c2], HR8.out.2.2.2.1, HH0.out g2 (Nat.le_trans (Nat.le_of_lt hlt0) HG2.out), HR8.out.2.2.2.2.2⟩)
      clear hbx
      go_upto_region 12 with fail
      clear fx0 u0 u1 u2 u3 u4 u5 u6 HB8 BX8 BZ8 BN8 HO8 HR8 hlt8 hlZ hlN
      generalize w8.setCell ⟨w.heap.size, 0, none⟩ (.slice (some ⟨g2, 0, none⟩) (nN + 1) c2) = wq at *
      obtain ⟨u0, u1, u2, u3, u4, u5, u6⟩ := box7 BXq.out
      have hltq : w.heap.size < wq.heap.size := blk_lt BXq.out
      obtain ⟨t0, t1, t2, t3, t4, t5, t6⟩ := box7 BZq.out
      obtain ⟨d0, d1⟩ := box2 BNq.out
      obtain ⟨fq0, fq1, fq2, fq3, fq4, fq5, fq6⟩ := frz7 BZq.out
      have fnn := blk_frozen BNq.out
      have fn0 := fnn 0
      have fn1 := fnn 1
      have hzl := blk_lt BZq.out
      have hnl := blk_lt BNq.out
      have hbn : (wq.setCells (w.heap.size + 1) 0 [.slice (some ⟨g2, 0, none⟩) (nN + 1) c2, .int .i64 s.rn, .int .i64 s.rg, .slice (some ⟨gB, 0, none⟩) nB cB, .int .i64 s.bn, .int .i64 s.bg, .int .i64 s.most]).heap[w.heap.size + 1 + 1]? = _ := (cells_other (show w.heap.size + 1 + 1 ≠ w.heap.size + 1 by omega) hnl _ 0).trans BNq.out
      have HBF := A_ (show RowKit.Below w.heap.size w ((wq.setCells (w.heap.size + 1) 0 [.slice (some ⟨g2, 0, none⟩) (nN + 1) c2, .int .i64 s.rn, .int .i64 s.rg, .slice (some ⟨gB, 0, none⟩) nB cB, .int .i64 s.bn, .int .i64 s.bg, .int .i64 s.most]).setCells (w.heap.size + 1 + 1) 0 [.int .i64 (nN : Int), .int .i64 0]) from HBq.out.trans ((below_setcells (b := w.heap.size) (g := w.heap.size + 1) (by omega) 0 _).trans (below_setcells (b := w.heap.size) (g := w.heap.size + 1 + 1) (by omega) 0 _)))
      have HRF := A_ ((HRq.out.box BZq.out (by decide) (by decide) 0 [.slice (some ⟨g2, 0, none⟩) (nN + 1) c2, .int .i64 s.rn, .int .i64 s.rg, .slice (some ⟨gB, 0, none⟩) nB cB, .int .i64 s.bn, .int .i64 s.bg, .int .i64 s.most]).box hbn (by decide) (by decide) 0 [.int .i64 (nN : Int), .int .i64 0])
      have e6 := set_same7 (.slice (some ⟨g2, 0, none⟩) (nN + 1) c2) (.int .i64 s.rn) (.int .i64 s.rg) (.slice (some ⟨gB, 0, none⟩) nB cB) (.int .i64 s.bn) (.int .i64 s.bg) (.int .i64 s.most) BZq.out
      have g0 := heap_setCell_same _ (w.heap.size + 1 + 1) 0 _ 28 (.int .i64 (nN : Int)) hbn
      have g1' := heap_setCell_same _ (w.heap.size + 1 + 1) 1 _ 28 (.int .i64 0) g0
      have EN := A_ g1'
      have EZ := A_ (show (((((((((wq.setCell ⟨w.heap.size + 1, 0, none⟩ (.slice (some ⟨g2, 0, none⟩) (nN + 1) c2)).setCell ⟨w.heap.size + 1, 1, none⟩ (.int .i64 s.rn)).setCell ⟨w.heap.size + 1, 2, none⟩ (.int .i64 s.rg)).setCell ⟨w.heap.size + 1, 3, none⟩ (.slice (some ⟨gB, 0, none⟩) nB cB)).setCell ⟨w.heap.size + 1, 4, none⟩ (.int .i64 s.bn)).setCell ⟨w.heap.size + 1, 5, none⟩ (.int .i64 s.bg)).setCell ⟨w.heap.size + 1, 6, none⟩ (.int .i64 s.most)).setCell ⟨w.heap.size + 1 + 1, 0, none⟩ (.int .i64 (nN : Int))).setCell ⟨w.heap.size + 1 + 1, 1, none⟩ (.int .i64 0)).heap[w.heap.size + 1]? = _ from (RowKit.Below.heap_setCell _ ⟨w.heap.size + 1 + 1, 1, none⟩ _ (w.heap.size + 1) (by show w.heap.size + 1 ≠ w.heap.size + 1 + 1; omega)).trans ((RowKit.Below.heap_setCell _ ⟨w.heap.size + 1 + 1, 0, none⟩ _ (w.heap.size + 1) (by show w.heap.size + 1 ≠ w.heap.size + 1 + 1; omega)).trans e6))
      clear fnn hbn e6 g0 g1'
      go_wp2
      refine ret_named ((wq.setCells (w.heap.size + 1) 0 [.slice (some ⟨g2, 0, none⟩) (nN + 1) c2, .int .i64 s.rn, .int .i64 s.rg, .slice (some ⟨gB, 0, none⟩) nB cB, .int .i64 s.bn, .int .i64 s.bg, .int .i64 s.most]).setCells (w.heap.size + 1 + 1) 0 [.int .i64 (nN : Int), .int .i64 0]) rfl (fun Wf hWf => ?_)
      obtain ⟨r0, r1, r2, r3, r4, r5, r6⟩ := box7 (show Wf.heap[w.heap.size + 1]? = some (.cells #[.slice (some ⟨g2, 0, none⟩) (nN + 1) c2, .int .i64 s.rn, .int .i64 s.rg, .slice (some ⟨gB, 0, none⟩) nB cB, .int .i64 s.bn, .int .i64 s.bg, .int .i64 s.most] 51 (0, 0)) from by rw [hWf]; exact EZ.out)
      obtain ⟨p0, p1⟩ := box2 (show Wf.heap[w.heap.size + 1 + 1]? = some (.cells #[.int .i64 (nN : Int), .int .i64 0] 28 (0, 0)) from by rw [hWf]; exact EN.out)
      refine bodyPost_ret (v := .tuple #[.agg #[.slice (some ⟨g2, 0, none⟩) (nN + 1) c2, .int .i64 s.rn, .int .i64 s.rg, .slice (some ⟨gB, 0, none⟩) nB cB, .int .i64 s.bn, .int .i64 s.bg, .int .i64 s.most], .agg #[.int .i64 (nN : Int), .int .i64 0], .int .i64 0]) (by simp [results, Try.results91, go_sem, r0, r1, r2, r3, r4, r5, r6, p0, p1]) rfl ?_
      have HC : RowKit.Below w.heap.size w Wf := by rw [hWf]; exact HBF.out
      have HA : RefIs b ⟨g2, c2, rsN ++ [⟨⟨0, true, z35⟩, none, 0, none, 0⟩], gB, cB, rsB⟩ { s with now := s.now ++ [⟨0, true, z35⟩] } Wf := by rw [hWf]; exact HRF.out
      refine ⟨⟨g2, c2, rsN ++ [⟨⟨0, true, z35⟩, none, 0, none, 0⟩], gB, cB, rsB⟩, ?_, by rw [HSP.out]; exact HA, HC⟩
      rw [HSP.out, HRR.out.1, HRR.out.2.1, HRR.out.2.2, List.length_append, ← HNN.out.1, ← HNN.out.2.1]
      rfl
theorem Mv.frees {b0 : Nat} {X Y : Nat → Prop} {W W' : World} (h : Mv b0 Y W W') (hX : ∀ k, X k → Y k) : Mv b0 X W W' := ⟨h.1, h.2.1, fun k hk => h.2.2 k (hX k hk)⟩
theorem Mv.box {b0 z : Nat} {X : Nat → Prop} {W W' : World} (h : Mv b0 X W W') (h0 : b0 ≤ W.heap.size) (hz : W.heap.size ≤ z) (hX : ∀ k, X k → k < W.heap.size) (o : Nat) (vs : List Value) : Mv b0 X W (W'.setCells z o vs) :=
 ⟨h.1.trans (below_setcells (Nat.le_trans h0 hz) o vs), fun k cs q h1 h2 hk => (cells_other (by have := blk_lt hk; omega) (Nat.lt_of_lt_of_le (blk_lt hk) h.1.size) vs o).trans (h.2.1 k cs q h1 h2 hk), fun k hk => (cells_other (by have := hX k hk; omega) (Nat.lt_of_lt_of_le (hX k hk) h.1.size) vs o).trans (h.2.2 k hk)⟩
theorem Wk.box {b0 wb z : Nat} {X : Nat → Prop} {s : WS} {W : World} (h : Wk b0 wb X s W) (hz : X z) (o : Nat) (vs : List Value) : Wk b0 wb X s (W.setCells z o vs) :=
 (h.grown (grown_cells W z o vs) (fun r hr => by cases hr; exact hz)).frees (fun k hk => .inl hk)
theorem RefIs.into {X : Nat → Prop} {m : Nat} {R : RL} {s : WS} {W : World} (h : RefIs (fun k => X k ∨ m ≤ k) R s W) : RefIs (fun k => X k ∨ (m ≤ k ∧ k < W.heap.size)) R s W :=
 ⟨h.1, h.2.1, h.2.2.1, h.2.2.2.1, h.2.2.2.2.1.imp_right (fun e => ⟨e, h.1.lt.2⟩), h.2.2.2.2.2.imp_right (fun e => ⟨e, h.2.2.1.lt.2⟩)⟩
theorem RefIs.mv {X : Nat → Prop} {b0 : Nat} {R : RL} {s : WS} {W W' : World} (h : RefIs X R s W) (hm : Mv b0 X W W') : RefIs X R s W' :=
 ⟨h.1.mv hm h.2.2.2.2.1, h.2.1, h.2.2.1.mv hm h.2.2.2.2.2, h.2.2.2⟩
theorem pre3 {X : Nat → Prop} {s : WS} {R : RL} {W : World} (c1 c2 c3 : Array Value) (t1 t2 t3 : TypeId) (hR : RefIs X R s W) : RowKit.Below W.heap.size W (((W.alloc (.cells c1 t1)).alloc (.cells c2 t2)).alloc (.cells c3 t3)) ∧ (((W.alloc (.cells c1 t1)).alloc (.cells c2 t2)).alloc (.cells c3 t3)).heap[W.heap.size]? = some (.cells c1 t1 (0, 0)) ∧ (((W.alloc (.cells c1 t1)).alloc (.cells c2 t2)).alloc (.cells c3 t3)).heap[W.heap.size + 1]? = some (.cells c2 t2 (0, 0)) ∧ (((W.alloc (.cells c1 t1)).alloc (.cells c2 t2)).alloc (.cells c3 t3)).heap[W.heap.size + 1 + 1]? = some (.cells c3 t3 (0, 0)) ∧
 RefIs (fun k => X k ∨ W.heap.size ≤ k) R s (((W.alloc (.cells c1 t1)).alloc (.cells c2 t2)).alloc (.cells c3 t3)) ∧ ∀ k, (((W.alloc (.cells c1 t1)).alloc (.cells c2 t2)).alloc (.cells c3 t3)).heap.size ≤ k → (fun k => X k ∨ W.heap.size ≤ k) k := by
 have hb3 := below_alloc (below_alloc (below_alloc (RowKit.Below.refl W.heap.size W) (.cells c1 t1)) (.cells c2 t2)) (.cells c3 t3)
 have BO := blk_alloc (blk_new (W.alloc (.cells c1 t1)) (.cells c2 t2)) (.cells c3 t3)
 have BZ := blk_new ((W.alloc (.cells c1 t1)).alloc (.cells c2 t2)) (.cells c3 t3)
 simp only [World.size_alloc] at BO BZ
 exact ⟨hb3, blk_alloc (blk_alloc (blk_new W (.cells c1 t1)) (.cells c2 t2)) (.cells c3 t3), BO, BZ, RefIs.below (⟨hR.1, hR.2.1, hR.2.2.1, hR.2.2.2.1, .inl hR.2.2.2.2.1, .inl hR.2.2.2.2.2⟩ : RefIs (fun k => X k ∨ W.heap.size ≤ k) R s W) hb3, fun k hk => .inr (Nat.le_trans hb3.size hk)⟩
def ActPost (b wb : Nat) (X : Nat → Prop) (s' : WS) (W : World) (e : Ending) (w' : World) : Prop :=
 ∃ (R' : RL) (X' : Nat → Prop), e = .returned (.tuple #[.agg (R'.cells s'), .bool true]) ∧ Wk b wb X' s' w' ∧ RefIs X' R' s' w' ∧ (∀ k, X k → X' k) ∧ Mv b X W w'
set_option maxHeartbeats 8000000 in
set_option maxRecDepth 100000 in
theorem act_2 {b wb : Nat} {X : Nat → Prop} {s : WS} {R : RL} {W : World} (x0 x1 x2 : Int) (xv : S35) (P4 : Option Addr) (p4 : Nat) (P5 : Option Addr) (p5 : Nat) (hm : x0.tmod 7 = 2) (h : Wk b wb X s W) (hR : RefIs X R s W) (h0 : b ≤ W.heap.size) (ho : OkS s) (hp : PlW s) (hl : s.now.length ≤ 70000) (hlb : s.base.length ≤ 70000) (hv : HasV xv P4 p4 P5 p5 W) (hf : fewV xv) (hsv : szV xv) :
 Calls Try.prog 28 #[.pointer (some ⟨wb, 0, none⟩), .agg (R.cells s), .agg #[.int .u8 x0, .int .i64 x1, .int .i64 x2, .int .i64 xv.f0, .int .i64 xv.f1, .int .i64 xv.f2, .string xv.f3, .slice P4 xv.f4.length p4, .slice P5 xv.f5.length p5]] W (ActPost b wb X (delW s x1 x2) W) := by
 have hu28 := Try.underlying28
 have hu35 := Try.underlying35
 have hu37 := Try.underlying37
 have hu49 := Try.underlying49
 have hu51 := Try.underlying51
 have hlN : s.now.length = R.rsN.length := by rw [← hR.2.1, List.length_map]
 have hlB : s.base.length = R.rsB.length := by rw [← hR.2.2.2.1, List.length_map]
 obtain ⟨gN, cN, rsN, gB, cB, rsB⟩ := R
 simp only [RL.cells] at hlN hlB ⊢
 obtain ⟨nN, hnN⟩ : ∃ nN, nN = rsN.length := ⟨_, rfl⟩
 obtain ⟨nB, hnB⟩ : ∃ nB, nB = rsB.length := ⟨_, rfl⟩
 rw [← hnN, ← hnB]
 have HNN := A_ (And.intro hnN (And.intro hnB (And.intro hlN hlB)))
 have HH := A_ (And.intro h (And.intro hR (And.intro ho (And.intro hp (And.intro hl hlb)))))
 have H0 := A_ h0
 obtain ⟨hb3, bx, bo, bz, hru, hup⟩ := pre3 #[.slice (some ⟨gN, 0, none⟩) nN cN, .int .i64 s.rn, .int .i64 s.rg, .slice (some ⟨gB, 0, none⟩) nB cB, .int .i64 s.bn, .int .i64 s.bg, .int .i64 s.most] #[.int .u8 x0, .int .i64 x1, .int .i64 x2, .int .i64 xv.f0, .int .i64 xv.f1, .int .i64 xv.f2, .string xv.f3, .slice P4 xv.f4.length p4, .slice P5 xv.f5.length p5] #[.slice none 0 0, .int .i64 0, .int .i64 0, .slice none 0 0, .int .i64 0, .int .i64 0, .int .i64 0] 51 37 51 hR
 have HB3 := A_ hb3
 have BX := A_ bx
 have BO := A_ bo
 have BZ := A_ bz
 have HRU := A_ hru
 have HUP := A_ hup
 have HV := A_ hv
 have HF := A_ (And.intro hf hsv)
 clear hnN hnB hlN hlB h hR h0 ho hp hl hlb hv hf hsv hb3 bx bo bz hru hup
 obtain ⟨er, her⟩ : ∃ er, er = findE s x1 x2 := ⟨_, rfl⟩
 obtain ⟨s2, hs2⟩ : ∃ s2, s2 = delW s x1 x2 := ⟨_, rfl⟩
 have KR := ref_delete (fun k => X k ∨ W.heap.size ≤ k) ⟨gN, cN, rsN, gB, cB, rsB⟩ s x1 x2 (((W.alloc (.cells #[.slice (some ⟨gN, 0, none⟩) nN cN, .int .i64 s.rn, .int .i64 s.rg, .slice (some ⟨gB, 0, none⟩) nB cB, .int .i64 s.bn, .int .i64 s.bg, .int .i64 s.most] 51)).alloc (.cells #[.int .u8 x0, .int .i64 x1, .int .i64 x2, .int .i64 xv.f0, .int .i64 xv.f1, .int .i64 xv.f2, .string xv.f3, .slice P4 xv.f4.length p4, .slice P5 xv.f5.length p5] 37)).alloc (.cells #[.slice none 0 0, .int .i64 0, .int .i64 0, .slice none 0 0, .int .i64 0, .int .i64 0, .int .i64 0] 51)) HRU.out HUP.out (by show rsN.length ≤ 90000; have := HNN.out.2.2.1; have := HH.out.2.2.2.2.1; omega) (fun x hx => (HH.out.2.2.1.1 x hx).2)
 have KW := A_ (fun (X4 : Nat → Prop) (W' : World) (hk : Wk b wb X4 s W') (h0' : b ≤ W'.heap.size) => L_delete (n := x1) (g := x2) hk h0' HH.out.2.2.1)
 simp only [RL.cells] at KR
 rw [← HNN.out.1, ← HNN.out.2.1, ← her, ← hs2] at KR
 rw [← her, ← hs2] at KW
 rw [← hs2]
 have KR' := A_ KR
 clear her hs2 KR
 obtain ⟨u0, u1, u2, u3, u4, u5, u6⟩ := box7 BX.out
 obtain ⟨v0, v1, v2, v3, v4, v5, v6, v7, v8⟩ := box9 BO.out
 go_enter Try.func28, Try.ntmps28
 go_upto_block 0 with fail
 generalize x0.tmod 7 = m at *
 subst hm
 go_wp2_with fail
 refine Calls.mono KR'.out ?_
 rintro e w4 ⟨R2, rfl, hR2, hb⟩
 obtain ⟨m1, hm1⟩ : ∃ m1, m1 = R2.rsN.length := ⟨_, rfl⟩
 obtain ⟨m2, hm2⟩ : ∃ m2, m2 = R2.rsB.length := ⟨_, rfl⟩
 have HM2 := A_ (And.intro hm1 hm2)
 simp only [RL.cells]
 rw [← hm1, ← hm2]
 have hb4 := below_step HB3.out hb
 have hbd := (below_alloc (RowKit.Below.refl w4.heap.size w4) (.cells #[.slice (some ⟨R2.gN, 0, none⟩) m1 R2.cN, .int .i64 s2.rn, .int .i64 s2.rg, .slice (some ⟨R2.gB, 0, none⟩) m2 R2.cB, .int .i64 s2.bn, .int .i64 s2.bg, .int .i64 s2.most] 51)).drew
 have HBD := A_ (below_step hb4 hbd)
 have BXd := A_ (blk_drew (blk_new w4 (.cells #[.slice (some ⟨R2.gN, 0, none⟩) m1 R2.cN, .int .i64 s2.rn, .int .i64 s2.rg, .slice (some ⟨R2.gB, 0, none⟩) m2 R2.cB, .int .i64 s2.bn, .int .i64 s2.bg, .int .i64 s2.most] 51)))
 have BOd := A_ (blk_below (blk_below BO.out hb) hbd)
 have BZd := A_ (blk_below (blk_below BZ.out hb) hbd)
 have HRD := A_ (hR2.below hbd)
 have HL4 := A_ (blk_lt (blk_below BZ.out hb))
 have BO4 := A_ (blk_below BO.out hb)
 have hl4 : W.heap.size + 1 < w4.heap.size := by have := HL4.out; omega
 clear hb hb4 hbd hR2 hm1 hm2 u0 u1 u2 u3 u4 u5 u6 v0 v1 v2 v3 v4 v5 v6 v7 v8 KR' BX
 obtain ⟨v0, v1, v2, v3, v4, v5, v6, v7, v8⟩ := box9 BO4.out
 go_upto_region 11 with fail
 obtain ⟨u0, u1, u2, u3, u4, u5, u6⟩ := box7 (blk_new w4 (.cells #[.slice (some ⟨R2.gN, 0, none⟩) m1 R2.cN, .int .i64 s2.rn, .int .i64 s2.rg, .slice (some ⟨R2.gB, 0, none⟩) m2 R2.cB, .int .i64 s2.bn, .int .i64 s2.bg, .int .i64 s2.most] 51))
 obtain ⟨X4, hX4, hKd, hRd, hXn⟩ : ∃ X4 : Nat → Prop, (∀ k, X k → X4 k) ∧ Wk b wb X4 s (w4.alloc (.cells #[.slice (some ⟨R2.gN, 0, none⟩) m1 R2.cN, .int .i64 s2.rn, .int .i64 s2.rg, .slice (some ⟨R2.gB, 0, none⟩) m2 R2.cB, .int .i64 s2.bn, .int .i64 s2.bg, .int .i64 s2.most] 51)).drew ∧ RefIs X4 R2 s2 (w4.alloc (.cells #[.slice (some ⟨R2.gN, 0, none⟩) m1 R2.cN, .int .i64 s2.rn, .int .i64 s2.rg, .slice (some ⟨R2.gB, 0, none⟩) m2 R2.cB, .int .i64 s2.bn, .int .i64 s2.bg, .int .i64 s2.most] 51)).drew ∧ (∀ k, W.heap.size ≤ k → k < (w4.alloc (.cells #[.slice (some ⟨R2.gN, 0, none⟩) m1 R2.cN, .int .i64 s2.rn, .int .i64 s2.rg, .slice (some ⟨R2.gB, 0, none⟩) m2 R2.cB, .int .i64 s2.bn, .int .i64 s2.bg, .int .i64 s2.most] 51)).drew.heap.size → X4 k) := ⟨_, fun k hk => .inl hk, HH.out.1.fresh HBD.out, RefIs.into HRD.out, fun k h1 h2 => .inr ⟨h1, h2⟩⟩
 have HX4 := A_ hX4
 have HKd := A_ hKd
 have HRd := A_ hRd
 have HXN := A_ hXn
 have HMD := A_ (Mv.of_below H0.out (fun k hk => HH.out.1.lt hk) HBD.out)
 clear hX4 hKd hRd hXn
 refine start_ (n := 9) (S := (fun w' => w'.cell? ⟨w4.heap.size, 0, none⟩ = some (.slice (some ⟨R2.gN, 0, none⟩) m1 R2.cN) ∧ w'.cell? ⟨w4.heap.size, 1, none⟩ = some (.int .i64 s2.rn) ∧ w'.cell? ⟨w4.heap.size, 2, none⟩ = some (.int .i64 s2.rg) ∧ w'.cell? ⟨w4.heap.size, 3, none⟩ = some (.slice (some ⟨R2.gB, 0, none⟩) m2 R2.cB) ∧ w'.cell? ⟨w4.heap.size, 4, none⟩ = some (.int .i64 s2.bn) ∧ w'.cell? ⟨w4.heap.size, 5, none⟩ = some (.int .i64 s2.bg) ∧ w'.cell? ⟨w4.heap.size, 6, none⟩ = some (.int .i64 s2.most) ∧ w'.cell? ⟨W.heap.size + 1, 1, none⟩ = some (.int .i64 x1) ∧ w'.cell? ⟨W.heap.size + 1, 2, none⟩ = some (.int .i64 x2))) (ds := [8]) #[false, false, false, false, false, false, false, false, false] (by kernel_rfl) rfl rfl (by refine ⟨?_, ?_, ?_, ?_, ?_, ?_, ?_, ?_, ?_⟩ <;> go_simp) (fun hHeld => ?_)
 have HS := A_ hHeld
 clear hHeld
 refine ta_ 0 77 HS.out ?_
 refine pu_ 1 78 ?_
 refine pu_ 2 79 ?_
 refine ta_ 3 80 HS.out ?_
 refine pu_ 5 82 ?_
 refine on_ 4 (some 81) (fun K hK => ?_)
 refine cl_ Try.func23 #[.pointer (some ⟨wb, 0, none⟩), .agg #[.int .i64 x1, .int .i64 x2]] ?_
 refine Calls.mono (KW.out X4 _ HKd.out (Nat.le_trans H0.out HBD.out.size)) ?_
 rintro e w6 ⟨rfl, hk6, hm6⟩
 refine ⟨_, rfl, ?_⟩
 have BXx := A_ (hm6.blk BXd.out)
 have BOx := A_ (hm6.blk BOd.out)
 have BZx := A_ (hm6.blk BZd.out)
 have HKx := A_ hk6
 have HRx := A_ (HRd.out.mv hm6)
 have HMx := A_ (HMD.out.trans (hm6.frees HX4.out))
 have HZX := A_ (HXN.out (W.heap.size + 1 + 1) (by omega) (blk_lt BZd.out))
 clear u0 u1 u2 u3 u4 u5 u6 v0 v1 v2 v3 v4 v5 v6 v7 v8
 obtain ⟨u0, u1, u2, u3, u4, u5, u6⟩ := box7 BXx.out
 obtain ⟨v0, v1, v2, v3, v4, v5, v6, v7, v8⟩ := box9 BOx.out
 refine hK.out _ _ ⟨u0, u1, u2, u3, u4, u5, u6, v1, v2⟩ (fun hH2 => ?_)
 replace HS := A_ hH2
 have hlx := blk_lt BXx.out
 have hlo := blk_lt BOx.out
 have hl4 : W.heap.size + 1 + 1 < w4.heap.size := HL4.out
 clear hK K hH2 hk6 hm6 KW u0 u1 u2 u3 u4 u5 u6 v0 v1 v2 v3 v4 v5 v6 v7 v8 BXd BOd BZd HKd HRd
 refine nm_ (some 81) ?_
 refine pu_ 6 83 ?_ (hy := Or.inl ⟨by rfl, by intro w'; go_simp; (try simp only [beq_self_eq_true]); with_reducible rfl⟩)
 obtain ⟨t0, t1, t2, t3, t4, t5, t6⟩ := box7 BZx.out
 obtain ⟨fq0, fq1, fq2, fq3, fq4, fq5, fq6⟩ := frz7 BZx.out
 have hzl := blk_lt BZx.out
 have HKF := A_ (HKx.out.box HZX.out 0 [.slice (some ⟨R2.gN, 0, none⟩) m1 R2.cN, .int .i64 s2.rn, .int .i64 s2.rg, .slice (some ⟨R2.gB, 0, none⟩) m2 R2.cB, .int .i64 s2.bn, .int .i64 s2.bg, .int .i64 s2.most])
 have HRF := A_ (HRx.out.box BZx.out (by decide) (by decide) 0 [.slice (some ⟨R2.gN, 0, none⟩) m1 R2.cN, .int .i64 s2.rn, .int .i64 s2.rg, .slice (some ⟨R2.gB, 0, none⟩) m2 R2.cB, .int .i64 s2.bn, .int .i64 s2.bg, .int .i64 s2.most])
 have HMF := A_ (HMx.out.box H0.out (show W.heap.size ≤ W.heap.size + 1 + 1 by omega) (fun k hk => HH.out.1.lt hk) 0 [.slice (some ⟨R2.gN, 0, none⟩) m1 R2.cN, .int .i64 s2.rn, .int .i64 s2.rg, .slice (some ⟨R2.gB, 0, none⟩) m2 R2.cB, .int .i64 s2.bn, .int .i64 s2.bg, .int .i64 s2.most])
 have e6 := set_same7 (.slice (some ⟨R2.gN, 0, none⟩) m1 R2.cN) (.int .i64 s2.rn) (.int .i64 s2.rg) (.slice (some ⟨R2.gB, 0, none⟩) m2 R2.cB) (.int .i64 s2.bn) (.int .i64 s2.bg) (.int .i64 s2.most) BZx.out
 have E6 := A_ e6
 clear e6
 refine on_ 7 (none) (fun K hK => ?_)
 refine skip_ (w1 := ?_) (by rfl) rfl ?_ ?_
 rotate_left
 · go_simp
   rfl
 have hfar := fun {j : Nat} {u : Value} {q : Nat} (h : w6.cell? ⟨q, j, none⟩ = some u) (hb : q ≠ W.heap.size + 1 + 1) => far_ (g := W.heap.size + 1 + 1) (o := 0) (vs := [.slice (some ⟨R2.gN, 0, none⟩) m1 R2.cN, .int .i64 s2.rn, .int .i64 s2.rg, .slice (some ⟨R2.gB, 0, none⟩) m2 R2.cB, .int .i64 s2.bn, .int .i64 s2.bg, .int .i64 s2.most]) h hb
 refine hK.out _ _ ⟨hfar HS.out.1 (by omega), hfar HS.out.2.1 (by omega), hfar HS.out.2.2.1 (by omega), hfar HS.out.2.2.2.1 (by omega), hfar HS.out.2.2.2.2.1 (by omega), hfar HS.out.2.2.2.2.2.1 (by omega), hfar HS.out.2.2.2.2.2.2.1 (by omega), hfar HS.out.2.2.2.2.2.2.2.1 (by omega), hfar HS.out.2.2.2.2.2.2.2.2 (by omega)⟩ (fun hH2 => ?_)
 clear hK K hH2 hfar HS
 refine chain_ [8] _ _ _ _ (⟨_, _, rfl, rfl, rfl⟩) (by kernel_rfl) (by decide) ?_
 go_wp2
 refine ret_named (w6.setCells (W.heap.size + 1 + 1) 0 [.slice (some ⟨R2.gN, 0, none⟩) m1 R2.cN, .int .i64 s2.rn, .int .i64 s2.rg, .slice (some ⟨R2.gB, 0, none⟩) m2 R2.cB, .int .i64 s2.bn, .int .i64 s2.bg, .int .i64 s2.most]) rfl (fun Wf hWf => ?_)
 obtain ⟨r0, r1, r2, r3, r4, r5, r6⟩ := box7 (show Wf.heap[W.heap.size + 1 + 1]? = some (.cells #[.slice (some ⟨R2.gN, 0, none⟩) m1 R2.cN, .int .i64 s2.rn, .int .i64 s2.rg, .slice (some ⟨R2.gB, 0, none⟩) m2 R2.cB, .int .i64 s2.bn, .int .i64 s2.bg, .int .i64 s2.most] 51 (0, 0)) from by rw [hWf]; exact E6.out)
 refine bodyPost_ret (v := .tuple #[.agg #[.slice (some ⟨R2.gN, 0, none⟩) m1 R2.cN, .int .i64 s2.rn, .int .i64 s2.rg, .slice (some ⟨R2.gB, 0, none⟩) m2 R2.cB, .int .i64 s2.bn, .int .i64 s2.bg, .int .i64 s2.most], .bool true]) (by simp [results, Try.results28, go_sem, r0, r1, r2, r3, r4, r5, r6]) rfl ?_
 subst hWf
 exact ⟨R2, X4, by simp only [RL.cells, ← HM2.out.1, ← HM2.out.2], HKF.out, HRF.out, HX4.out, HMF.out⟩
set_option maxHeartbeats 8000000 in
set_option maxRecDepth 100000 in
theorem act_1 {b wb : Nat} {X : Nat → Prop} {s : WS} {R : RL} {W : World} (x0 x1 x2 : Int) (xv : S35) (P4 : Option Addr) (p4 : Nat) (P5 : Option Addr) (p5 : Nat) (hm : x0.tmod 7 = 1) (h : Wk b wb X s W) (hR : RefIs X R s W) (h0 : b ≤ W.heap.size) (ho : OkS s) (hp : PlW s) (hl : s.now.length ≤ 70000) (hlb : s.base.length ≤ 70000) (hv : HasV xv P4 p4 P5 p5 W) (hf : fewV xv) (hsv : szV xv) :
 Calls Try.prog 28 #[.pointer (some ⟨wb, 0, none⟩), .agg (R.cells s), .agg #[.int .u8 x0, .int .i64 x1, .int .i64 x2, .int .i64 xv.f0, .int .i64 xv.f1, .int .i64 xv.f2, .string xv.f3, .slice P4 xv.f4.length p4, .slice P5 xv.f5.length p5]] W (ActPost b wb X (putW s x1 x2 xv) W) := by
 have hu28 := Try.underlying28
 have hu35 := Try.underlying35
 have hu37 := Try.underlying37
 have hu49 := Try.underlying49
 have hu51 := Try.underlying51
 have hlN : s.now.length = R.rsN.length := by rw [← hR.2.1, List.length_map]
 have hlB : s.base.length = R.rsB.length := by rw [← hR.2.2.2.1, List.length_map]
 obtain ⟨gN, cN, rsN, gB, cB, rsB⟩ := R
 simp only [RL.cells] at hlN hlB ⊢
 obtain ⟨nN, hnN⟩ : ∃ nN, nN = rsN.length := ⟨_, rfl⟩
 obtain ⟨nB, hnB⟩ : ∃ nB, nB = rsB.length := ⟨_, rfl⟩
 rw [← hnN, ← hnB]
 have HNN := A_ (And.intro hnN (And.intro hnB (And.intro hlN hlB)))
 have HH := A_ (And.intro h (And.intro hR (And.intro ho (And.intro hp (And.intro hl hlb)))))
 have H0 := A_ h0
 obtain ⟨hb3, bx, bo, bz, hru, hup⟩ := pre3 #[.slice (some ⟨gN, 0, none⟩) nN cN, .int .i64 s.rn, .int .i64 s.rg, .slice (some ⟨gB, 0, none⟩) nB cB, .int .i64 s.bn, .int .i64 s.bg, .int .i64 s.most] #[.int .u8 x0, .int .i64 x1, .int .i64 x2, .int .i64 xv.f0, .int .i64 xv.f1, .int .i64 xv.f2, .string xv.f3, .slice P4 xv.f4.length p4, .slice P5 xv.f5.length p5] #[.slice none 0 0, .int .i64 0, .int .i64 0, .slice none 0 0, .int .i64 0, .int .i64 0, .int .i64 0] 51 37 51 hR
 have HB3 := A_ hb3
 have BX := A_ bx
 have BO := A_ bo
 have BZ := A_ bz
 have HRU := A_ hru
 have HUP := A_ hup
 have HV := A_ hv
 have HF := A_ (And.intro hf hsv)
 clear hnN hnB hlN hlB h hR h0 ho hp hl hlb hv hf hsv hb3 bx bo bz hru hup
 obtain ⟨er, her⟩ : ∃ er, er = putE s x1 x2 xv := ⟨_, rfl⟩
 obtain ⟨s2, hs2⟩ : ∃ s2, s2 = putW s x1 x2 xv := ⟨_, rfl⟩
 have KR := ref_put (fun k => X k ∨ W.heap.size ≤ k) ⟨gN, cN, rsN, gB, cB, rsB⟩ s x1 x2 xv P4 p4 P5 p5 (((W.alloc (.cells #[.slice (some ⟨gN, 0, none⟩) nN cN, .int .i64 s.rn, .int .i64 s.rg, .slice (some ⟨gB, 0, none⟩) nB cB, .int .i64 s.bn, .int .i64 s.bg, .int .i64 s.most] 51)).alloc (.cells #[.int .u8 x0, .int .i64 x1, .int .i64 x2, .int .i64 xv.f0, .int .i64 xv.f1, .int .i64 xv.f2, .string xv.f3, .slice P4 xv.f4.length p4, .slice P5 xv.f5.length p5] 37)).alloc (.cells #[.slice none 0 0, .int .i64 0, .int .i64 0, .slice none 0 0, .int .i64 0, .int .i64 0, .int .i64 0] 51)) HRU.out HUP.out (by show rsN.length ≤ 90000; have := HNN.out.2.2.1; have := HH.out.2.2.2.2.1; omega) (HV.out.below HB3.out) HF.out.1 HF.out.2
 have KW := A_ (fun (X4 : Nat → Prop) (W' : World) (hk : Wk b wb X4 s W') (h0' : b ≤ W'.heap.size) (hv : HasV xv P4 p4 P5 p5 W') => L_put (n := x1) (g := x2) hk h0' hv HF.out.1)
 simp only [RL.cells] at KR
 rw [← HNN.out.1, ← HNN.out.2.1, ← her, ← hs2] at KR
 rw [← her, ← hs2] at KW
 rw [← hs2]
 have KR' := A_ KR
 clear her hs2 KR
 obtain ⟨u0, u1, u2, u3, u4, u5, u6⟩ := box7 BX.out
 obtain ⟨v0, v1, v2, v3, v4, v5, v6, v7, v8⟩ := box9 BO.out
 go_enter Try.func28, Try.ntmps28
 go_upto_block 0 with fail
 generalize x0.tmod 7 = m at *
 subst hm
 go_wp2_with fail
 refine Calls.mono KR'.out ?_
 rintro e w4 ⟨R2, rfl, hR2, hb⟩
 obtain ⟨m1, hm1⟩ : ∃ m1, m1 = R2.rsN.length := ⟨_, rfl⟩
 obtain ⟨m2, hm2⟩ : ∃ m2, m2 = R2.rsB.length := ⟨_, rfl⟩
 have HM2 := A_ (And.intro hm1 hm2)
 simp only [RL.cells]
 rw [← hm1, ← hm2]
 have hb4 := below_step HB3.out hb
 have hbd := (below_alloc (RowKit.Below.refl w4.heap.size w4) (.cells #[.slice (some ⟨R2.gN, 0, none⟩) m1 R2.cN, .int .i64 s2.rn, .int .i64 s2.rg, .slice (some ⟨R2.gB, 0, none⟩) m2 R2.cB, .int .i64 s2.bn, .int .i64 s2.bg, .int .i64 s2.most] 51)).drew
 have HBD := A_ (below_step hb4 hbd)
 have BXd := A_ (blk_drew (blk_new w4 (.cells #[.slice (some ⟨R2.gN, 0, none⟩) m1 R2.cN, .int .i64 s2.rn, .int .i64 s2.rg, .slice (some ⟨R2.gB, 0, none⟩) m2 R2.cB, .int .i64 s2.bn, .int .i64 s2.bg, .int .i64 s2.most] 51)))
 have BOd := A_ (blk_below (blk_below BO.out hb) hbd)
 have BZd := A_ (blk_below (blk_below BZ.out hb) hbd)
 have HRD := A_ (hR2.below hbd)
 have HL4 := A_ (blk_lt (blk_below BZ.out hb))
 have BO4 := A_ (blk_below BO.out hb)
 have hl4 : W.heap.size + 1 < w4.heap.size := by have := HL4.out; omega
 clear hb hb4 hbd hR2 hm1 hm2 u0 u1 u2 u3 u4 u5 u6 v0 v1 v2 v3 v4 v5 v6 v7 v8 KR' BX
 obtain ⟨v0, v1, v2, v3, v4, v5, v6, v7, v8⟩ := box9 BO4.out
 go_upto_region 8 with fail
 obtain ⟨u0, u1, u2, u3, u4, u5, u6⟩ := box7 (blk_new w4 (.cells #[.slice (some ⟨R2.gN, 0, none⟩) m1 R2.cN, .int .i64 s2.rn, .int .i64 s2.rg, .slice (some ⟨R2.gB, 0, none⟩) m2 R2.cB, .int .i64 s2.bn, .int .i64 s2.bg, .int .i64 s2.most] 51))
 obtain ⟨X4, hX4, hKd, hRd, hXn⟩ : ∃ X4 : Nat → Prop, (∀ k, X k → X4 k) ∧ Wk b wb X4 s (w4.alloc (.cells #[.slice (some ⟨R2.gN, 0, none⟩) m1 R2.cN, .int .i64 s2.rn, .int .i64 s2.rg, .slice (some ⟨R2.gB, 0, none⟩) m2 R2.cB, .int .i64 s2.bn, .int .i64 s2.bg, .int .i64 s2.most] 51)).drew ∧ RefIs X4 R2 s2 (w4.alloc (.cells #[.slice (some ⟨R2.gN, 0, none⟩) m1 R2.cN, .int .i64 s2.rn, .int .i64 s2.rg, .slice (some ⟨R2.gB, 0, none⟩) m2 R2.cB, .int .i64 s2.bn, .int .i64 s2.bg, .int .i64 s2.most] 51)).drew ∧ (∀ k, W.heap.size ≤ k → k < (w4.alloc (.cells #[.slice (some ⟨R2.gN, 0, none⟩) m1 R2.cN, .int .i64 s2.rn, .int .i64 s2.rg, .slice (some ⟨R2.gB, 0, none⟩) m2 R2.cB, .int .i64 s2.bn, .int .i64 s2.bg, .int .i64 s2.most] 51)).drew.heap.size → X4 k) := ⟨_, fun k hk => .inl hk, HH.out.1.fresh HBD.out, RefIs.into HRD.out, fun k h1 h2 => .inr ⟨h1, h2⟩⟩
 have HX4 := A_ hX4
 have HKd := A_ hKd
 have HRd := A_ hRd
 have HXN := A_ hXn
 have HMD := A_ (Mv.of_below H0.out (fun k hk => HH.out.1.lt hk) HBD.out)
 clear hX4 hKd hRd hXn
 refine start_ (n := 11) (S := (fun w' => w'.cell? ⟨w4.heap.size, 0, none⟩ = some (.slice (some ⟨R2.gN, 0, none⟩) m1 R2.cN) ∧ w'.cell? ⟨w4.heap.size, 1, none⟩ = some (.int .i64 s2.rn) ∧ w'.cell? ⟨w4.heap.size, 2, none⟩ = some (.int .i64 s2.rg) ∧ w'.cell? ⟨w4.heap.size, 3, none⟩ = some (.slice (some ⟨R2.gB, 0, none⟩) m2 R2.cB) ∧ w'.cell? ⟨w4.heap.size, 4, none⟩ = some (.int .i64 s2.bn) ∧ w'.cell? ⟨w4.heap.size, 5, none⟩ = some (.int .i64 s2.bg) ∧ w'.cell? ⟨w4.heap.size, 6, none⟩ = some (.int .i64 s2.most) ∧ w'.cell? ⟨W.heap.size + 1, 1, none⟩ = some (.int .i64 x1) ∧ w'.cell? ⟨W.heap.size + 1, 2, none⟩ = some (.int .i64 x2) ∧ w'.cell? ⟨W.heap.size + 1, 3, none⟩ = some (.int .i64 xv.f0) ∧ w'.cell? ⟨W.heap.size + 1, 4, none⟩ = some (.int .i64 xv.f1) ∧ w'.cell? ⟨W.heap.size + 1, 5, none⟩ = some (.int .i64 xv.f2) ∧ w'.cell? ⟨W.heap.size + 1, 6, none⟩ = some (.string xv.f3) ∧ w'.cell? ⟨W.heap.size + 1, 7, none⟩ = some (.slice P4 xv.f4.length p4) ∧ w'.cell? ⟨W.heap.size + 1, 8, none⟩ = some (.slice P5 xv.f5.length p5))) (ds := [10]) #[false, false, false, false, false, false, false, false, false, false, false] (by kernel_rfl) rfl rfl (by refine ⟨?_, ?_, ?_, ?_, ?_, ?_, ?_, ?_, ?_, ?_, ?_, ?_, ?_, ?_, ?_⟩ <;> go_simp) (fun hHeld => ?_)
 have HS := A_ hHeld
 clear hHeld
 refine ta_ 0 59 HS.out ?_
 refine pu_ 1 60 ?_
 refine pu_ 2 61 ?_
 refine ta_ 3 62 HS.out ?_
 refine pu_ 4 63 ?_
 refine ta_ 5 64 HS.out ?_
 refine pu_ 7 66 ?_
 refine on_ 6 (some 65) (fun K hK => ?_)
 refine cl_ Try.func24 #[.pointer (some ⟨wb, 0, none⟩), .agg #[.int .i64 x1, .int .i64 x2], .agg #[.int .i64 xv.f0, .int .i64 xv.f1, .int .i64 xv.f2, .string xv.f3, .slice P4 xv.f4.length p4, .slice P5 xv.f5.length p5]] ?_
 refine Calls.mono (KW.out X4 _ HKd.out (Nat.le_trans H0.out HBD.out.size) (HV.out.below HBD.out)) ?_
 rintro e w6 ⟨rfl, hk6, hm6⟩
 refine ⟨_, rfl, ?_⟩
 have BXx := A_ (hm6.blk BXd.out)
 have BOx := A_ (hm6.blk BOd.out)
 have BZx := A_ (hm6.blk BZd.out)
 have HKx := A_ hk6
 have HRx := A_ (HRd.out.mv hm6)
 have HMx := A_ (HMD.out.trans (hm6.frees HX4.out))
 have HZX := A_ (HXN.out (W.heap.size + 1 + 1) (by omega) (blk_lt BZd.out))
 clear u0 u1 u2 u3 u4 u5 u6 v0 v1 v2 v3 v4 v5 v6 v7 v8
 obtain ⟨u0, u1, u2, u3, u4, u5, u6⟩ := box7 BXx.out
 obtain ⟨v0, v1, v2, v3, v4, v5, v6, v7, v8⟩ := box9 BOx.out
 refine hK.out _ _ ⟨u0, u1, u2, u3, u4, u5, u6, v1, v2, v3, v4, v5, v6, v7, v8⟩ (fun hH2 => ?_)
 replace HS := A_ hH2
 have hlx := blk_lt BXx.out
 have hlo := blk_lt BOx.out
 have hl4 : W.heap.size + 1 + 1 < w4.heap.size := HL4.out
 clear hK K hH2 hk6 hm6 KW u0 u1 u2 u3 u4 u5 u6 v0 v1 v2 v3 v4 v5 v6 v7 v8 BXd BOd BZd HKd HRd
 refine nm_ (some 65) ?_
 refine pu_ 8 67 ?_ (hy := Or.inl ⟨by rfl, by intro w'; go_simp; (try simp only [beq_self_eq_true]); with_reducible rfl⟩)
 obtain ⟨t0, t1, t2, t3, t4, t5, t6⟩ := box7 BZx.out
 obtain ⟨fq0, fq1, fq2, fq3, fq4, fq5, fq6⟩ := frz7 BZx.out
 have hzl := blk_lt BZx.out
 have HKF := A_ (HKx.out.box HZX.out 0 [.slice (some ⟨R2.gN, 0, none⟩) m1 R2.cN, .int .i64 s2.rn, .int .i64 s2.rg, .slice (some ⟨R2.gB, 0, none⟩) m2 R2.cB, .int .i64 s2.bn, .int .i64 s2.bg, .int .i64 s2.most])
 have HRF := A_ (HRx.out.box BZx.out (by decide) (by decide) 0 [.slice (some ⟨R2.gN, 0, none⟩) m1 R2.cN, .int .i64 s2.rn, .int .i64 s2.rg, .slice (some ⟨R2.gB, 0, none⟩) m2 R2.cB, .int .i64 s2.bn, .int .i64 s2.bg, .int .i64 s2.most])
 have HMF := A_ (HMx.out.box H0.out (show W.heap.size ≤ W.heap.size + 1 + 1 by omega) (fun k hk => HH.out.1.lt hk) 0 [.slice (some ⟨R2.gN, 0, none⟩) m1 R2.cN, .int .i64 s2.rn, .int .i64 s2.rg, .slice (some ⟨R2.gB, 0, none⟩) m2 R2.cB, .int .i64 s2.bn, .int .i64 s2.bg, .int .i64 s2.most])
 have e6 := set_same7 (.slice (some ⟨R2.gN, 0, none⟩) m1 R2.cN) (.int .i64 s2.rn) (.int .i64 s2.rg) (.slice (some ⟨R2.gB, 0, none⟩) m2 R2.cB) (.int .i64 s2.bn) (.int .i64 s2.bg) (.int .i64 s2.most) BZx.out
 have E6 := A_ e6
 clear e6
 refine on_ 9 (none) (fun K hK => ?_)
 refine skip_ (w1 := ?_) (by rfl) rfl ?_ ?_
 rotate_left
 · go_simp
   rfl
 have hfar := fun {j : Nat} {u : Value} {q : Nat} (h : w6.cell? ⟨q, j, none⟩ = some u) (hb : q ≠ W.heap.size + 1 + 1) => far_ (g := W.heap.size + 1 + 1) (o := 0) (vs := [.slice (some ⟨R2.gN, 0, none⟩) m1 R2.cN, .int .i64 s2.rn, .int .i64 s2.rg, .slice (some ⟨R2.gB, 0, none⟩) m2 R2.cB, .int .i64 s2.bn, .int .i64 s2.bg, .int .i64 s2.most]) h hb
 refine hK.out _ _ ⟨hfar HS.out.1 (by omega), hfar HS.out.2.1 (by omega), hfar HS.out.2.2.1 (by omega), hfar HS.out.2.2.2.1 (by omega), hfar HS.out.2.2.2.2.1 (by omega), hfar HS.out.2.2.2.2.2.1 (by omega), hfar HS.out.2.2.2.2.2.2.1 (by omega), hfar HS.out.2.2.2.2.2.2.2.1 (by omega), hfar HS.out.2.2.2.2.2.2.2.2.1 (by omega), hfar HS.out.2.2.2.2.2.2.2.2.2.1 (by omega), hfar HS.out.2.2.2.2.2.2.2.2.2.2.1 (by omega), hfar HS.out.2.2.2.2.2.2.2.2.2.2.2.1 (by omega), hfar HS.out.2.2.2.2.2.2.2.2.2.2.2.2.1 (by omega), hfar HS.out.2.2.2.2.2.2.2.2.2.2.2.2.2.1 (by omega), hfar HS.out.2.2.2.2.2.2.2.2.2.2.2.2.2.2 (by omega)⟩ (fun hH2 => ?_)
 clear hK K hH2 hfar HS
 refine chain_ [10] _ _ _ _ (⟨_, _, rfl, rfl, rfl⟩) (by kernel_rfl) (by decide) ?_
 go_wp2
 refine ret_named (w6.setCells (W.heap.size + 1 + 1) 0 [.slice (some ⟨R2.gN, 0, none⟩) m1 R2.cN, .int .i64 s2.rn, .int .i64 s2.rg, .slice (some ⟨R2.gB, 0, none⟩) m2 R2.cB, .int .i64 s2.bn, .int .i64 s2.bg, .int .i64 s2.most]) rfl (fun Wf hWf => ?_)
 obtain ⟨r0, r1, r2, r3, r4, r5, r6⟩ := box7 (show Wf.heap[W.heap.size + 1 + 1]? = some (.cells #[.slice (some ⟨R2.gN, 0, none⟩) m1 R2.cN, .int .i64 s2.rn, .int .i64 s2.rg, .slice (some ⟨R2.gB, 0, none⟩) m2 R2.cB, .int .i64 s2.bn, .int .i64 s2.bg, .int .i64 s2.most] 51 (0, 0)) from by rw [hWf]; exact E6.out)
 refine bodyPost_ret (v := .tuple #[.agg #[.slice (some ⟨R2.gN, 0, none⟩) m1 R2.cN, .int .i64 s2.rn, .int .i64 s2.rg, .slice (some ⟨R2.gB, 0, none⟩) m2 R2.cB, .int .i64 s2.bn, .int .i64 s2.bg, .int .i64 s2.most], .bool true]) (by simp [results, Try.results28, go_sem, r0, r1, r2, r3, r4, r5, r6]) rfl ?_
 subst hWf
 exact ⟨R2, X4, by simp only [RL.cells, ← HM2.out.1, ← HM2.out.2], HKF.out, HRF.out, HX4.out, HMF.out⟩
set_option maxHeartbeats 8000000 in
set_option maxRecDepth 100000 in
theorem act_4 {b wb : Nat} {X : Nat → Prop} {s : WS} {R : RL} {W : World} (x0 x1 x2 : Int) (xv : S35) (P4 : Option Addr) (p4 : Nat) (P5 : Option Addr) (p5 : Nat) (hm : x0.tmod 7 = 4) (h : Wk b wb X s W) (hR : RefIs X R s W) (h0 : b ≤ W.heap.size) (ho : OkS s) (hp : PlW s) (hl : s.now.length ≤ 70000) (hlb : s.base.length ≤ 70000) (hv : HasV xv P4 p4 P5 p5 W) (hf : fewV xv) (hsv : szV xv) :
 Calls Try.prog 28 #[.pointer (some ⟨wb, 0, none⟩), .agg (R.cells s), .agg #[.int .u8 x0, .int .i64 x1, .int .i64 x2, .int .i64 xv.f0, .int .i64 xv.f1, .int .i64 xv.f2, .string xv.f3, .slice P4 xv.f4.length p4, .slice P5 xv.f5.length p5]] W (ActPost b wb X (rootW s x1 x2) W) := by
 have hu28 := Try.underlying28
 have hu35 := Try.underlying35
 have hu37 := Try.underlying37
 have hu49 := Try.underlying49
 have hu51 := Try.underlying51
 have hlN : s.now.length = R.rsN.length := by rw [← hR.2.1, List.length_map]
 have hlB : s.base.length = R.rsB.length := by rw [← hR.2.2.2.1, List.length_map]
 obtain ⟨gN, cN, rsN, gB, cB, rsB⟩ := R
 simp only [RL.cells] at hlN hlB ⊢
 obtain ⟨nN, hnN⟩ : ∃ nN, nN = rsN.length := ⟨_, rfl⟩
 obtain ⟨nB, hnB⟩ : ∃ nB, nB = rsB.length := ⟨_, rfl⟩
 rw [← hnN, ← hnB]
 have HNN := A_ (And.intro hnN (And.intro hnB (And.intro hlN hlB)))
 have HH := A_ (And.intro h (And.intro hR (And.intro ho (And.intro hp (And.intro hl hlb)))))
 have H0 := A_ h0
 obtain ⟨hb3, bx, bo, bz, hru, hup⟩ := pre3 #[.slice (some ⟨gN, 0, none⟩) nN cN, .int .i64 s.rn, .int .i64 s.rg, .slice (some ⟨gB, 0, none⟩) nB cB, .int .i64 s.bn, .int .i64 s.bg, .int .i64 s.most] #[.int .u8 x0, .int .i64 x1, .int .i64 x2, .int .i64 xv.f0, .int .i64 xv.f1, .int .i64 xv.f2, .string xv.f3, .slice P4 xv.f4.length p4, .slice P5 xv.f5.length p5] #[.slice none 0 0, .int .i64 0, .int .i64 0, .slice none 0 0, .int .i64 0, .int .i64 0, .int .i64 0] 51 37 51 hR
 have HB3 := A_ hb3
 have BX := A_ bx
 have BO := A_ bo
 have BZ := A_ bz
 have HRU := A_ hru
 have HUP := A_ hup
 have HV := A_ hv
 have HF := A_ (And.intro hf hsv)
 clear hnN hnB hlN hlB h hR h0 ho hp hl hlb hv hf hsv hb3 bx bo bz hru hup
 obtain ⟨er, her⟩ : ∃ er, er = rootE s x1 x2 := ⟨_, rfl⟩
 obtain ⟨s2, hs2⟩ : ∃ s2, s2 = rootW s x1 x2 := ⟨_, rfl⟩
 have KR := ref_setroot (fun k => X k ∨ W.heap.size ≤ k) ⟨gN, cN, rsN, gB, cB, rsB⟩ s x1 x2 (((W.alloc (.cells #[.slice (some ⟨gN, 0, none⟩) nN cN, .int .i64 s.rn, .int .i64 s.rg, .slice (some ⟨gB, 0, none⟩) nB cB, .int .i64 s.bn, .int .i64 s.bg, .int .i64 s.most] 51)).alloc (.cells #[.int .u8 x0, .int .i64 x1, .int .i64 x2, .int .i64 xv.f0, .int .i64 xv.f1, .int .i64 xv.f2, .string xv.f3, .slice P4 xv.f4.length p4, .slice P5 xv.f5.length p5] 37)).alloc (.cells #[.slice none 0 0, .int .i64 0, .int .i64 0, .slice none 0 0, .int .i64 0, .int .i64 0, .int .i64 0] 51)) HRU.out (by show rsN.length ≤ 90000; have := HNN.out.2.2.1; have := HH.out.2.2.2.2.1; omega)
 have KW := A_ (fun (X4 : Nat → Prop) (W' : World) (hk : Wk b wb X4 s W') (h0' : b ≤ W'.heap.size) => L_setroot (n := x1) (g := x2) hk h0')
 simp only [RL.cells] at KR
 rw [← HNN.out.1, ← HNN.out.2.1, ← her, ← hs2] at KR
 rw [← her, ← hs2] at KW
 rw [← hs2]
 have KR' := A_ KR
 clear her hs2 KR
 obtain ⟨u0, u1, u2, u3, u4, u5, u6⟩ := box7 BX.out
 obtain ⟨v0, v1, v2, v3, v4, v5, v6, v7, v8⟩ := box9 BO.out
 go_enter Try.func28, Try.ntmps28
 go_upto_block 0 with fail
 generalize x0.tmod 7 = m at *
 subst hm
 go_wp2_with fail
 refine Calls.mono KR'.out ?_
 rintro e w4 ⟨R2, rfl, hR2, hb⟩
 obtain ⟨m1, hm1⟩ : ∃ m1, m1 = R2.rsN.length := ⟨_, rfl⟩
 obtain ⟨m2, hm2⟩ : ∃ m2, m2 = R2.rsB.length := ⟨_, rfl⟩
 have HM2 := A_ (And.intro hm1 hm2)
 simp only [RL.cells]
 rw [← hm1, ← hm2]
 have hb4 := below_step HB3.out hb
 have hbd := (below_alloc (RowKit.Below.refl w4.heap.size w4) (.cells #[.slice (some ⟨R2.gN, 0, none⟩) m1 R2.cN, .int .i64 s2.rn, .int .i64 s2.rg, .slice (some ⟨R2.gB, 0, none⟩) m2 R2.cB, .int .i64 s2.bn, .int .i64 s2.bg, .int .i64 s2.most] 51)).drew
 have HBD := A_ (below_step hb4 hbd)
 have BXd := A_ (blk_drew (blk_new w4 (.cells #[.slice (some ⟨R2.gN, 0, none⟩) m1 R2.cN, .int .i64 s2.rn, .int .i64 s2.rg, .slice (some ⟨R2.gB, 0, none⟩) m2 R2.cB, .int .i64 s2.bn, .int .i64 s2.bg, .int .i64 s2.most] 51)))
 have BOd := A_ (blk_below (blk_below BO.out hb) hbd)
 have BZd := A_ (blk_below (blk_below BZ.out hb) hbd)
 have HRD := A_ (hR2.below hbd)
 have HL4 := A_ (blk_lt (blk_below BZ.out hb))
 have BO4 := A_ (blk_below BO.out hb)
 have hl4 : W.heap.size + 1 < w4.heap.size := by have := HL4.out; omega
 clear hb hb4 hbd hR2 hm1 hm2 u0 u1 u2 u3 u4 u5 u6 v0 v1 v2 v3 v4 v5 v6 v7 v8 KR' BX
 obtain ⟨v0, v1, v2, v3, v4, v5, v6, v7, v8⟩ := box9 BO4.out
 go_upto_region 18 with fail
 obtain ⟨u0, u1, u2, u3, u4, u5, u6⟩ := box7 (blk_new w4 (.cells #[.slice (some ⟨R2.gN, 0, none⟩) m1 R2.cN, .int .i64 s2.rn, .int .i64 s2.rg, .slice (some ⟨R2.gB, 0, none⟩) m2 R2.cB, .int .i64 s2.bn, .int .i64 s2.bg, .int .i64 s2.most] 51))
 obtain ⟨X4, hX4, hKd, hRd, hXn⟩ : ∃ X4 : Nat → Prop, (∀ k, X k → X4 k) ∧ Wk b wb X4 s (w4.alloc (.cells #[.slice (some ⟨R2.gN, 0, none⟩) m1 R2.cN, .int .i64 s2.rn, .int .i64 s2.rg, .slice (some ⟨R2.gB, 0, none⟩) m2 R2.cB, .int .i64 s2.bn, .int .i64 s2.bg, .int .i64 s2.most] 51)).drew ∧ RefIs X4 R2 s2 (w4.alloc (.cells #[.slice (some ⟨R2.gN, 0, none⟩) m1 R2.cN, .int .i64 s2.rn, .int .i64 s2.rg, .slice (some ⟨R2.gB, 0, none⟩) m2 R2.cB, .int .i64 s2.bn, .int .i64 s2.bg, .int .i64 s2.most] 51)).drew ∧ (∀ k, W.heap.size ≤ k → k < (w4.alloc (.cells #[.slice (some ⟨R2.gN, 0, none⟩) m1 R2.cN, .int .i64 s2.rn, .int .i64 s2.rg, .slice (some ⟨R2.gB, 0, none⟩) m2 R2.cB, .int .i64 s2.bn, .int .i64 s2.bg, .int .i64 s2.most] 51)).drew.heap.size → X4 k) := ⟨_, fun k hk => .inl hk, HH.out.1.fresh HBD.out, RefIs.into HRD.out, fun k h1 h2 => .inr ⟨h1, h2⟩⟩
 have HX4 := A_ hX4
 have HKd := A_ hKd
 have HRd := A_ hRd
 have HXN := A_ hXn
 have HMD := A_ (Mv.of_below H0.out (fun k hk => HH.out.1.lt hk) HBD.out)
 clear hX4 hKd hRd hXn
 refine start_ (n := 9) (S := (fun w' => w'.cell? ⟨w4.heap.size, 0, none⟩ = some (.slice (some ⟨R2.gN, 0, none⟩) m1 R2.cN) ∧ w'.cell? ⟨w4.heap.size, 1, none⟩ = some (.int .i64 s2.rn) ∧ w'.cell? ⟨w4.heap.size, 2, none⟩ = some (.int .i64 s2.rg) ∧ w'.cell? ⟨w4.heap.size, 3, none⟩ = some (.slice (some ⟨R2.gB, 0, none⟩) m2 R2.cB) ∧ w'.cell? ⟨w4.heap.size, 4, none⟩ = some (.int .i64 s2.bn) ∧ w'.cell? ⟨w4.heap.size, 5, none⟩ = some (.int .i64 s2.bg) ∧ w'.cell? ⟨w4.heap.size, 6, none⟩ = some (.int .i64 s2.most) ∧ w'.cell? ⟨W.heap.size + 1, 1, none⟩ = some (.int .i64 x1) ∧ w'.cell? ⟨W.heap.size + 1, 2, none⟩ = some (.int .i64 x2))) (ds := [8]) #[false, false, false, false, false, false, false, false, false] (by kernel_rfl) rfl rfl (by refine ⟨?_, ?_, ?_, ?_, ?_, ?_, ?_, ?_, ?_⟩ <;> go_simp) (fun hHeld => ?_)
 have HS := A_ hHeld
 clear hHeld
 refine ta_ 0 118 HS.out ?_
 refine pu_ 1 119 ?_
 refine pu_ 2 120 ?_
 refine ta_ 3 121 HS.out ?_
 refine pu_ 5 123 ?_
 refine on_ 4 (some 122) (fun K hK => ?_)
 refine cl_ Try.func96 #[.pointer (some ⟨wb, 0, none⟩), .agg #[.int .i64 x1, .int .i64 x2]] ?_
 refine Calls.mono (KW.out X4 _ HKd.out (Nat.le_trans H0.out HBD.out.size)) ?_
 rintro e w6 ⟨rfl, hk6, hm6⟩
 refine ⟨_, rfl, ?_⟩
 have BXx := A_ (hm6.blk BXd.out)
 have BOx := A_ (hm6.blk BOd.out)
 have BZx := A_ (hm6.blk BZd.out)
 have HKx := A_ hk6
 have HRx := A_ (HRd.out.mv hm6)
 have HMx := A_ (HMD.out.trans (hm6.frees HX4.out))
 have HZX := A_ (HXN.out (W.heap.size + 1 + 1) (by omega) (blk_lt BZd.out))
 clear u0 u1 u2 u3 u4 u5 u6 v0 v1 v2 v3 v4 v5 v6 v7 v8
 obtain ⟨u0, u1, u2, u3, u4, u5, u6⟩ := box7 BXx.out
 obtain ⟨v0, v1, v2, v3, v4, v5, v6, v7, v8⟩ := box9 BOx.out
 refine hK.out _ _ ⟨u0, u1, u2, u3, u4, u5, u6, v1, v2⟩ (fun hH2 => ?_)
 replace HS := A_ hH2
 have hlx := blk_lt BXx.out
 have hlo := blk_lt BOx.out
 have hl4 : W.heap.size + 1 + 1 < w4.heap.size := HL4.out
 clear hK K hH2 hk6 hm6 KW u0 u1 u2 u3 u4 u5 u6 v0 v1 v2 v3 v4 v5 v6 v7 v8 BXd BOd BZd HKd HRd
 refine nm_ (some 122) ?_
 refine pu_ 6 124 ?_ (hy := Or.inl ⟨by rfl, by intro w'; go_simp; (try simp only [beq_self_eq_true]); with_reducible rfl⟩)
 obtain ⟨t0, t1, t2, t3, t4, t5, t6⟩ := box7 BZx.out
 obtain ⟨fq0, fq1, fq2, fq3, fq4, fq5, fq6⟩ := frz7 BZx.out
 have hzl := blk_lt BZx.out
 have HKF := A_ (HKx.out.box HZX.out 0 [.slice (some ⟨R2.gN, 0, none⟩) m1 R2.cN, .int .i64 s2.rn, .int .i64 s2.rg, .slice (some ⟨R2.gB, 0, none⟩) m2 R2.cB, .int .i64 s2.bn, .int .i64 s2.bg, .int .i64 s2.most])
 have HRF := A_ (HRx.out.box BZx.out (by decide) (by decide) 0 [.slice (some ⟨R2.gN, 0, none⟩) m1 R2.cN, .int .i64 s2.rn, .int .i64 s2.rg, .slice (some ⟨R2.gB, 0, none⟩) m2 R2.cB, .int .i64 s2.bn, .int .i64 s2.bg, .int .i64 s2.most])
 have HMF := A_ (HMx.out.box H0.out (show W.heap.size ≤ W.heap.size + 1 + 1 by omega) (fun k hk => HH.out.1.lt hk) 0 [.slice (some ⟨R2.gN, 0, none⟩) m1 R2.cN, .int .i64 s2.rn, .int .i64 s2.rg, .slice (some ⟨R2.gB, 0, none⟩) m2 R2.cB, .int .i64 s2.bn, .int .i64 s2.bg, .int .i64 s2.most])
 have e6 := set_same7 (.slice (some ⟨R2.gN, 0, none⟩) m1 R2.cN) (.int .i64 s2.rn) (.int .i64 s2.rg) (.slice (some ⟨R2.gB, 0, none⟩) m2 R2.cB) (.int .i64 s2.bn) (.int .i64 s2.bg) (.int .i64 s2.most) BZx.out
 have E6 := A_ e6
 clear e6
 refine on_ 7 (none) (fun K hK => ?_)
 refine skip_ (w1 := ?_) (by rfl) rfl ?_ ?_
 rotate_left
 · go_simp
   rfl
 have hfar := fun {j : Nat} {u : Value} {q : Nat} (h : w6.cell? ⟨q, j, none⟩ = some u) (hb : q ≠ W.heap.size + 1 + 1) => far_ (g := W.heap.size + 1 + 1) (o := 0) (vs := [.slice (some ⟨R2.gN, 0, none⟩) m1 R2.cN, .int .i64 s2.rn, .int .i64 s2.rg, .slice (some ⟨R2.gB, 0, none⟩) m2 R2.cB, .int .i64 s2.bn, .int .i64 s2.bg, .int .i64 s2.most]) h hb
 refine hK.out _ _ ⟨hfar HS.out.1 (by omega), hfar HS.out.2.1 (by omega), hfar HS.out.2.2.1 (by omega), hfar HS.out.2.2.2.1 (by omega), hfar HS.out.2.2.2.2.1 (by omega), hfar HS.out.2.2.2.2.2.1 (by omega), hfar HS.out.2.2.2.2.2.2.1 (by omega), hfar HS.out.2.2.2.2.2.2.2.1 (by omega), hfar HS.out.2.2.2.2.2.2.2.2 (by omega)⟩ (fun hH2 => ?_)
 clear hK K hH2 hfar HS
 refine chain_ [8] _ _ _ _ (⟨_, _, rfl, rfl, rfl⟩) (by kernel_rfl) (by decide) ?_
 go_wp2
 refine ret_named (w6.setCells (W.heap.size + 1 + 1) 0 [.slice (some ⟨R2.gN, 0, none⟩) m1 R2.cN, .int .i64 s2.rn, .int .i64 s2.rg, .slice (some ⟨R2.gB, 0, none⟩) m2 R2.cB, .int .i64 s2.bn, .int .i64 s2.bg, .int .i64 s2.most]) rfl (fun Wf hWf => ?_)
 obtain ⟨r0, r1, r2, r3, r4, r5, r6⟩ := box7 (show Wf.heap[W.heap.size + 1 + 1]? = some (.cells #[.slice (some ⟨R2.gN, 0, none⟩) m1 R2.cN, .int .i64 s2.rn, .int .i64 s2.rg, .slice (some ⟨R2.gB, 0, none⟩) m2 R2.cB, .int .i64 s2.bn, .int .i64 s2.bg, .int .i64 s2.most] 51 (0, 0)) from by rw [hWf]; exact E6.out)
 refine bodyPost_ret (v := .tuple #[.agg #[.slice (some ⟨R2.gN, 0, none⟩) m1 R2.cN, .int .i64 s2.rn, .int .i64 s2.rg, .slice (some ⟨R2.gB, 0, none⟩) m2 R2.cB, .int .i64 s2.bn, .int .i64 s2.bg, .int .i64 s2.most], .bool true]) (by simp [results, Try.results28, go_sem, r0, r1, r2, r3, r4, r5, r6]) rfl ?_
 subst hWf
 exact ⟨R2, X4, by simp only [RL.cells, ← HM2.out.1, ← HM2.out.2], HKF.out, HRF.out, HX4.out, HMF.out⟩
set_option maxHeartbeats 8000000 in
set_option maxRecDepth 100000 in
theorem act_5 {b wb : Nat} {X : Nat → Prop} {s : WS} {R : RL} {W : World} (x0 x1 x2 : Int) (xv : S35) (P4 : Option Addr) (p4 : Nat) (P5 : Option Addr) (p5 : Nat) (hm : x0.tmod 7 = 5) (h : Wk b wb X s W) (hR : RefIs X R s W) (h0 : b ≤ W.heap.size) (ho : OkS s) (hp : PlW s) (hl : s.now.length ≤ 70000) (hlb : s.base.length ≤ 70000) (hv : HasV xv P4 p4 P5 p5 W) (hf : fewV xv) (hsv : szV xv) :
 Calls Try.prog 28 #[.pointer (some ⟨wb, 0, none⟩), .agg (R.cells s), .agg #[.int .u8 x0, .int .i64 x1, .int .i64 x2, .int .i64 xv.f0, .int .i64 xv.f1, .int .i64 xv.f2, .string xv.f3, .slice P4 xv.f4.length p4, .slice P5 xv.f5.length p5]] W (ActPost b wb X (settleW s) W) := by
 have hu28 := Try.underlying28
 have hu35 := Try.underlying35
 have hu37 := Try.underlying37
 have hu49 := Try.underlying49
 have hu51 := Try.underlying51
 have hlN : s.now.length = R.rsN.length := by rw [← hR.2.1, List.length_map]
 have hlB : s.base.length = R.rsB.length := by rw [← hR.2.2.2.1, List.length_map]
 obtain ⟨gN, cN, rsN, gB, cB, rsB⟩ := R
 simp only [RL.cells] at hlN hlB ⊢
 obtain ⟨nN, hnN⟩ : ∃ nN, nN = rsN.length := ⟨_, rfl⟩
 obtain ⟨nB, hnB⟩ : ∃ nB, nB = rsB.length := ⟨_, rfl⟩
 rw [← hnN, ← hnB]
 have HNN := A_ (And.intro hnN (And.intro hnB (And.intro hlN hlB)))
 have HH := A_ (And.intro h (And.intro hR (And.intro ho (And.intro hp (And.intro hl hlb)))))
 have H0 := A_ h0
 obtain ⟨hb3, bx, bo, bz, hru, hup⟩ := pre3 #[.slice (some ⟨gN, 0, none⟩) nN cN, .int .i64 s.rn, .int .i64 s.rg, .slice (some ⟨gB, 0, none⟩) nB cB, .int .i64 s.bn, .int .i64 s.bg, .int .i64 s.most] #[.int .u8 x0, .int .i64 x1, .int .i64 x2, .int .i64 xv.f0, .int .i64 xv.f1, .int .i64 xv.f2, .string xv.f3, .slice P4 xv.f4.length p4, .slice P5 xv.f5.length p5] #[.slice none 0 0, .int .i64 0, .int .i64 0, .slice none 0 0, .int .i64 0, .int .i64 0, .int .i64 0] 51 37 51 hR
 have HB3 := A_ hb3
 have BX := A_ bx
 have BO := A_ bo
 have BZ := A_ bz
 have HRU := A_ hru
 have HUP := A_ hup
 have HV := A_ hv
 have HF := A_ (And.intro hf hsv)
 clear hnN hnB hlN hlB h hR h0 ho hp hl hlb hv hf hsv hb3 bx bo bz hru hup
 have HRX := (HH.out.2.1)
 obtain ⟨u0, u1, u2, u3, u4, u5, u6⟩ := box7 BX.out
 obtain ⟨v0, v1, v2, v3, v4, v5, v6, v7, v8⟩ := box9 BO.out
 go_enter Try.func28, Try.ntmps28
 go_upto_block 0 with fail
 generalize x0.tmod 7 = m at *
 subst hm
 go_upto_region 20 with fail
 clear u0 u1 u2 u3 u4 u5 u6 v0 v1 v2 v3 v4 v5 v6 v7 v8 BO
 generalize hW5 : (((W.alloc (.cells #[.slice (some ⟨gN, 0, none⟩) nN cN, .int .i64 s.rn, .int .i64 s.rg, .slice (some ⟨gB, 0, none⟩) nB cB, .int .i64 s.bn, .int .i64 s.bg, .int .i64 s.most] 51)).alloc (.cells #[.int .u8 x0, .int .i64 x1, .int .i64 x2, .int .i64 xv.f0, .int .i64 xv.f1, .int .i64 xv.f2, .string xv.f3, .slice P4 xv.f4.length p4, .slice P5 xv.f5.length p5] 37)).alloc (.cells #[.slice none 0 0, .int .i64 0, .int .i64 0, .slice none 0 0, .int .i64 0, .int .i64 0, .int .i64 0] 51)) = W5 at *
 clear hW5
 obtain ⟨u0, u1, u2, u3, u4, u5, u6⟩ := box7 BX.out
 have hlx := blk_lt BX.out
 have fxx := blk_frozen BX.out
 have fx3 := fxx 3
 have fx4 := fxx 4
 have fx5 := fxx 5
 have BX5 := BX
 have b0 := heap_setCell_same _ W.heap.size 3 _ 51 (.slice (some ⟨gN, 0, none⟩) nN cN) BX5.out
 have b1 := heap_setCell_same _ W.heap.size 4 _ 51 (.int .i64 s.rn) b0
 have b2 := heap_setCell_same _ W.heap.size 5 _ 51 (.int .i64 s.rg) b1
 have BXd := A_ (show (((W5.setCell ⟨W.heap.size, 3, none⟩ (.slice (some ⟨gN, 0, none⟩) nN cN)).setCell ⟨W.heap.size, 4, none⟩ (.int .i64 s.rn)).setCell ⟨W.heap.size, 5, none⟩ (.int .i64 s.rg)).drew.heap[W.heap.size]? = _ from b2)
 have hbd : RowKit.Below W.heap.size W (W5.setCells W.heap.size 3 [.slice (some ⟨gN, 0, none⟩) nN cN, .int .i64 s.rn, .int .i64 s.rg]).drew := (HB3.out.trans (below_setcells (Nat.le_refl _) _ _)).drew
 have HBD := A_ hbd
 have BZd := A_ (show (((W5.setCell ⟨W.heap.size, 3, none⟩ (.slice (some ⟨gN, 0, none⟩) nN cN)).setCell ⟨W.heap.size, 4, none⟩ (.int .i64 s.rn)).setCell ⟨W.heap.size, 5, none⟩ (.int .i64 s.rg)).drew.heap[W.heap.size + 1 + 1]? = _ from (cells_other (W := W5) (g := W.heap.size) (b := W.heap.size + 1 + 1) (by omega) (blk_lt BZ.out) [.slice (some ⟨gN, 0, none⟩) nN cN, .int .i64 s.rn, .int .i64 s.rg] 3).trans BZ.out)
 have HRd0 := A_ (show RefIs (fun k => X k ∨ W.heap.size ≤ k) ⟨gN, cN, rsN, gN, cN, rsN⟩ (settleW s) (W5.setCells W.heap.size 3 [.slice (some ⟨gN, 0, none⟩) nN cN, .int .i64 s.rn, .int .i64 s.rg]).drew from ⟨HRX.1.below hbd, HRX.2.1, HRX.1.below hbd, HRX.2.1, .inl HRX.2.2.2.2.1, .inl HRX.2.2.2.2.1⟩)
 clear b0 b1 b2 hbd BX BX5
 go_upto_region 21 with fail
 clear u0 u1 u2 u3 u4 u5 u6 fx3 fx4 fx5
 have hnn : (W5.setCells W.heap.size 3 [.slice (some ⟨gN, 0, none⟩) nN cN, .int .i64 s.rn, .int .i64 s.rg]) = (((W5.setCell ⟨W.heap.size, 3, none⟩ (.slice (some ⟨gN, 0, none⟩) nN cN)).setCell ⟨W.heap.size, 4, none⟩ (.int .i64 s.rn)).setCell ⟨W.heap.size, 5, none⟩ (.int .i64 s.rg)) := rfl
 rw [hnn] at HBD HRd0
 obtain ⟨wq, hwq⟩ : ∃ wq, (((W5.setCell ⟨W.heap.size, 3, none⟩ (.slice (some ⟨gN, 0, none⟩) nN cN)).setCell ⟨W.heap.size, 4, none⟩ (.int .i64 s.rn)).setCell ⟨W.heap.size, 5, none⟩ (.int .i64 s.rg)) = wq := ⟨_, rfl⟩
 rw [hwq] at BXd BZd HBD HRd0 ⊢
 clear hnn hwq hlx
 obtain ⟨X4, hX4, hKd, hRd, hXn⟩ : ∃ X4 : Nat → Prop, (∀ k, X k → X4 k) ∧ Wk b wb X4 s wq.drew ∧ RefIs X4 ⟨gN, cN, rsN, gN, cN, rsN⟩ (settleW s) wq.drew ∧ (∀ k, W.heap.size ≤ k → k < wq.drew.heap.size → X4 k) := ⟨_, fun k hk => .inl hk, HH.out.1.fresh HBD.out, RefIs.into HRd0.out, fun k h1 h2 => .inr ⟨h1, h2⟩⟩
 have HX4 := A_ hX4
 have HKd := A_ hKd
 have HRd := A_ hRd
 have HXN := A_ hXn
 have HMD := A_ (Mv.of_below H0.out (fun k hk => HH.out.1.lt hk) HBD.out)
 clear hX4 hKd hRd hXn
 obtain ⟨u0, u1, u2, u3, u4, u5, u6⟩ := box7 (c0 := .slice (some ⟨gN, 0, none⟩) nN cN) (c1 := .int .i64 s.rn) (c2 := .int .i64 s.rg) (c3 := .slice (some ⟨gN, 0, none⟩) nN cN) (c4 := .int .i64 s.rn) (c5 := .int .i64 s.rg) (c6 := .int .i64 s.most) (show wq.heap[W.heap.size]? = _ from BXd.out)
 refine start_ (n := 6) (S := (fun w' => w'.cell? ⟨W.heap.size, 0, none⟩ = some (.slice (some ⟨gN, 0, none⟩) nN cN) ∧ w'.cell? ⟨W.heap.size, 1, none⟩ = some (.int .i64 s.rn) ∧ w'.cell? ⟨W.heap.size, 2, none⟩ = some (.int .i64 s.rg) ∧ w'.cell? ⟨W.heap.size, 3, none⟩ = some (.slice (some ⟨gN, 0, none⟩) nN cN) ∧ w'.cell? ⟨W.heap.size, 4, none⟩ = some (.int .i64 s.rn) ∧ w'.cell? ⟨W.heap.size, 5, none⟩ = some (.int .i64 s.rg) ∧ w'.cell? ⟨W.heap.size, 6, none⟩ = some (.int .i64 s.most))) (ds := [5]) #[false, false, false, false, false, false] (by kernel_rfl) rfl rfl (by refine ⟨?_, ?_, ?_, ?_, ?_, ?_, ?_⟩ <;> go_simp) (fun hHeld => ?_)
 have HS := A_ hHeld
 clear hHeld
 refine ta_ 0 130 HS.out ?_
 refine pu_ 1 131 ?_
 refine on_ 2 (some 132) (fun K hK => ?_)
 refine cl_ Try.func25 #[.pointer (some ⟨wb, 0, none⟩)] ?_
 refine Calls.mono (L_settle HKd.out (Nat.le_trans H0.out HBD.out.size) HH.out.2.2.1 (by have := HH.out.2.2.2.2.1; omega)) ?_
 rintro e w6 ⟨rfl, hk6, hm6⟩
 refine ⟨_, rfl, ?_⟩
 have BXx := A_ (hm6.blk BXd.out)
 have BZx := A_ (hm6.blk BZd.out)
 have HKx := A_ hk6
 have HRx := A_ (HRd.out.mv hm6)
 have HMx := A_ (HMD.out.trans (hm6.frees HX4.out))
 have HZX := A_ (HXN.out (W.heap.size + 1 + 1) (by omega) (blk_lt BZd.out))
 clear u0 u1 u2 u3 u4 u5 u6
 obtain ⟨u0, u1, u2, u3, u4, u5, u6⟩ := box7 (c0 := .slice (some ⟨gN, 0, none⟩) nN cN) (c1 := .int .i64 s.rn) (c2 := .int .i64 s.rg) (c3 := .slice (some ⟨gN, 0, none⟩) nN cN) (c4 := .int .i64 s.rn) (c5 := .int .i64 s.rg) (c6 := .int .i64 s.most) BXx.out
 refine hK.out _ _ ⟨u0, u1, u2, u3, u4, u5, u6⟩ (fun hH2 => ?_)
 replace HS := A_ hH2
 have hlx := blk_lt BXx.out
 clear hK K hH2 hk6 hm6 u0 u1 u2 u3 u4 u5 u6 BXd BZd HKd HRd HRd0
 refine nm_ (some 132) ?_
 refine pu_ 3 133 ?_ (hy := Or.inl ⟨by rfl, by intro w'; go_simp; (try simp only [beq_self_eq_true]); with_reducible rfl⟩)
 obtain ⟨t0, t1, t2, t3, t4, t5, t6⟩ := box7 BZx.out
 obtain ⟨fq0, fq1, fq2, fq3, fq4, fq5, fq6⟩ := frz7 BZx.out
 have hzl := blk_lt BZx.out
 have HKF := A_ (HKx.out.box HZX.out 0 [.slice (some ⟨gN, 0, none⟩) nN cN, .int .i64 s.rn, .int .i64 s.rg, .slice (some ⟨gN, 0, none⟩) nN cN, .int .i64 s.rn, .int .i64 s.rg, .int .i64 s.most])
 have HRF := A_ (HRx.out.box BZx.out (by decide) (by decide) 0 [.slice (some ⟨gN, 0, none⟩) nN cN, .int .i64 s.rn, .int .i64 s.rg, .slice (some ⟨gN, 0, none⟩) nN cN, .int .i64 s.rn, .int .i64 s.rg, .int .i64 s.most])
 have HMF := A_ (HMx.out.box H0.out (show W.heap.size ≤ W.heap.size + 1 + 1 by omega) (fun k hk => HH.out.1.lt hk) 0 [.slice (some ⟨gN, 0, none⟩) nN cN, .int .i64 s.rn, .int .i64 s.rg, .slice (some ⟨gN, 0, none⟩) nN cN, .int .i64 s.rn, .int .i64 s.rg, .int .i64 s.most])
 have e6 := set_same7 (.slice (some ⟨gN, 0, none⟩) nN cN) (.int .i64 s.rn) (.int .i64 s.rg) (.slice (some ⟨gN, 0, none⟩) nN cN) (.int .i64 s.rn) (.int .i64 s.rg) (.int .i64 s.most) BZx.out
 have E6 := A_ e6
 clear e6
 refine on_ 4 (none) (fun K hK => ?_)
 refine skip_ (w1 := ?_) (by rfl) rfl ?_ ?_
 rotate_left
 · go_simp
   rfl
 have hfar := fun {j : Nat} {u : Value} {q : Nat} (h : w6.cell? ⟨q, j, none⟩ = some u) (hb : q ≠ W.heap.size + 1 + 1) => far_ (g := W.heap.size + 1 + 1) (o := 0) (vs := [.slice (some ⟨gN, 0, none⟩) nN cN, .int .i64 s.rn, .int .i64 s.rg, .slice (some ⟨gN, 0, none⟩) nN cN, .int .i64 s.rn, .int .i64 s.rg, .int .i64 s.most]) h hb
 refine hK.out _ _ ⟨hfar HS.out.1 (by omega), hfar HS.out.2.1 (by omega), hfar HS.out.2.2.1 (by omega), hfar HS.out.2.2.2.1 (by omega), hfar HS.out.2.2.2.2.1 (by omega), hfar HS.out.2.2.2.2.2.1 (by omega), hfar HS.out.2.2.2.2.2.2 (by omega)⟩ (fun hH2 => ?_)
 clear hK K hH2 hfar HS
 refine chain_ [5] _ _ _ _ (⟨_, _, rfl, rfl, rfl⟩) (by kernel_rfl) (by decide) ?_
 go_wp2
 refine ret_named (w6.setCells (W.heap.size + 1 + 1) 0 [.slice (some ⟨gN, 0, none⟩) nN cN, .int .i64 s.rn, .int .i64 s.rg, .slice (some ⟨gN, 0, none⟩) nN cN, .int .i64 s.rn, .int .i64 s.rg, .int .i64 s.most]) rfl (fun Wf hWf => ?_)
 obtain ⟨r0, r1, r2, r3, r4, r5, r6⟩ := box7 (show Wf.heap[W.heap.size + 1 + 1]? = some (.cells #[.slice (some ⟨gN, 0, none⟩) nN cN, .int .i64 s.rn, .int .i64 s.rg, .slice (some ⟨gN, 0, none⟩) nN cN, .int .i64 s.rn, .int .i64 s.rg, .int .i64 s.most] 51 (0, 0)) from by rw [hWf]; exact E6.out)
 refine bodyPost_ret (v := .tuple #[.agg #[.slice (some ⟨gN, 0, none⟩) nN cN, .int .i64 s.rn, .int .i64 s.rg, .slice (some ⟨gN, 0, none⟩) nN cN, .int .i64 s.rn, .int .i64 s.rg, .int .i64 s.most], .bool true]) (by simp [results, Try.results28, go_sem, r0, r1, r2, r3, r4, r5, r6]) rfl ?_
 subst hWf
 exact ⟨⟨gN, cN, rsN, gN, cN, rsN⟩, X4, by simp only [RL.cells, ← HNN.out.1, ← HNN.out.2.1, settleW, resetW], HKF.out, HRF.out, HX4.out, HMF.out⟩
set_option maxHeartbeats 8000000 in
set_option maxRecDepth 100000 in
theorem act_6 {b wb : Nat} {X : Nat → Prop} {s : WS} {R : RL} {W : World} (x0 x1 x2 : Int) (xv : S35) (P4 : Option Addr) (p4 : Nat) (P5 : Option Addr) (p5 : Nat) (hm : x0.tmod 7 ≠ 0 ∧ x0.tmod 7 ≠ 1 ∧ x0.tmod 7 ≠ 2 ∧ x0.tmod 7 ≠ 3 ∧ x0.tmod 7 ≠ 4 ∧ x0.tmod 7 ≠ 5) (h : Wk b wb X s W) (hR : RefIs X R s W) (h0 : b ≤ W.heap.size) (ho : OkS s) (hp : PlW s) (hl : s.now.length ≤ 70000) (hlb : s.base.length ≤ 70000) (hv : HasV xv P4 p4 P5 p5 W) (hf : fewV xv) (hsv : szV xv) :
 Calls Try.prog 28 #[.pointer (some ⟨wb, 0, none⟩), .agg (R.cells s), .agg #[.int .u8 x0, .int .i64 x1, .int .i64 x2, .int .i64 xv.f0, .int .i64 xv.f1, .int .i64 xv.f2, .string xv.f3, .slice P4 xv.f4.length p4, .slice P5 xv.f5.length p5]] W (ActPost b wb X (resetW s) W) := by
 have hu28 := Try.underlying28
 have hu35 := Try.underlying35
 have hu37 := Try.underlying37
 have hu49 := Try.underlying49
 have hu51 := Try.underlying51
 have hlN : s.now.length = R.rsN.length := by rw [← hR.2.1, List.length_map]
 have hlB : s.base.length = R.rsB.length := by rw [← hR.2.2.2.1, List.length_map]
 obtain ⟨gN, cN, rsN, gB, cB, rsB⟩ := R
 simp only [RL.cells] at hlN hlB ⊢
 obtain ⟨nN, hnN⟩ : ∃ nN, nN = rsN.length := ⟨_, rfl⟩
 obtain ⟨nB, hnB⟩ : ∃ nB, nB = rsB.length := ⟨_, rfl⟩
 rw [← hnN, ← hnB]
 have HNN := A_ (And.intro hnN (And.intro hnB (And.intro hlN hlB)))
 have HH := A_ (And.intro h (And.intro hR (And.intro ho (And.intro hp (And.intro hl hlb)))))
 have H0 := A_ h0
 obtain ⟨hb3, bx, bo, bz, hru, hup⟩ := pre3 #[.slice (some ⟨gN, 0, none⟩) nN cN, .int .i64 s.rn, .int .i64 s.rg, .slice (some ⟨gB, 0, none⟩) nB cB, .int .i64 s.bn, .int .i64 s.bg, .int .i64 s.most] #[.int .u8 x0, .int .i64 x1, .int .i64 x2, .int .i64 xv.f0, .int .i64 xv.f1, .int .i64 xv.f2, .string xv.f3, .slice P4 xv.f4.length p4, .slice P5 xv.f5.length p5] #[.slice none 0 0, .int .i64 0, .int .i64 0, .slice none 0 0, .int .i64 0, .int .i64 0, .int .i64 0] 51 37 51 hR
 have HB3 := A_ hb3
 have BX := A_ bx
 have BO := A_ bo
 have BZ := A_ bz
 have HRU := A_ hru
 have HUP := A_ hup
 have HV := A_ hv
 have HF := A_ (And.intro hf hsv)
 clear hnN hnB hlN hlB h hR h0 ho hp hl hlb hv hf hsv hb3 bx bo bz hru hup
 have HRX := (HH.out.2.1)
 obtain ⟨u0, u1, u2, u3, u4, u5, u6⟩ := box7 BX.out
 obtain ⟨v0, v1, v2, v3, v4, v5, v6, v7, v8⟩ := box9 BO.out
 go_enter Try.func28, Try.ntmps28
 go_upto_block 0 with fail
 generalize x0.tmod 7 = m at *
 obtain ⟨g0, g1, g2, g3, g4, g5⟩ := hm
 have g0' : (m == 0) = false := by simpa using g0
 have g1' : (m == 1) = false := by simpa using g1
 have g2' : (m == 2) = false := by simpa using g2
 have g3' : (m == 3) = false := by simpa using g3
 have g4' : (m == 4) = false := by simpa using g4
 have g5' : (m == 5) = false := by simpa using g5
 clear g0 g1 g2 g3 g4 g5
 go_upto_region 22 with fail
 clear u0 u1 u2 u3 u4 u5 u6 v0 v1 v2 v3 v4 v5 v6 v7 v8 BO
 generalize hW5 : (((W.alloc (.cells #[.slice (some ⟨gN, 0, none⟩) nN cN, .int .i64 s.rn, .int .i64 s.rg, .slice (some ⟨gB, 0, none⟩) nB cB, .int .i64 s.bn, .int .i64 s.bg, .int .i64 s.most] 51)).alloc (.cells #[.int .u8 x0, .int .i64 x1, .int .i64 x2, .int .i64 xv.f0, .int .i64 xv.f1, .int .i64 xv.f2, .string xv.f3, .slice P4 xv.f4.length p4, .slice P5 xv.f5.length p5] 37)).alloc (.cells #[.slice none 0 0, .int .i64 0, .int .i64 0, .slice none 0 0, .int .i64 0, .int .i64 0, .int .i64 0] 51)) = W5 at *
 clear hW5
 obtain ⟨u0, u1, u2, u3, u4, u5, u6⟩ := box7 BX.out
 have hlx := blk_lt BX.out
 have fxx := blk_frozen BX.out
 have fx0 := fxx 0
 have fx1 := fxx 1
 have fx2 := fxx 2
 have BX5 := BX
 have b0 := heap_setCell_same _ W.heap.size 0 _ 51 (.slice (some ⟨gB, 0, none⟩) nB cB) BX5.out
 have b1 := heap_setCell_same _ W.heap.size 1 _ 51 (.int .i64 s.bn) b0
 have b2 := heap_setCell_same _ W.heap.size 2 _ 51 (.int .i64 s.bg) b1
 have BXd := A_ (show (((W5.setCell ⟨W.heap.size, 0, none⟩ (.slice (some ⟨gB, 0, none⟩) nB cB)).setCell ⟨W.heap.size, 1, none⟩ (.int .i64 s.bn)).setCell ⟨W.heap.size, 2, none⟩ (.int .i64 s.bg)).drew.heap[W.heap.size]? = _ from b2)
 have hbd : RowKit.Below W.heap.size W (W5.setCells W.heap.size 0 [.slice (some ⟨gB, 0, none⟩) nB cB, .int .i64 s.bn, .int .i64 s.bg]).drew := (HB3.out.trans (below_setcells (Nat.le_refl _) _ _)).drew
 have HBD := A_ hbd
 have BZd := A_ (show (((W5.setCell ⟨W.heap.size, 0, none⟩ (.slice (some ⟨gB, 0, none⟩) nB cB)).setCell ⟨W.heap.size, 1, none⟩ (.int .i64 s.bn)).setCell ⟨W.heap.size, 2, none⟩ (.int .i64 s.bg)).drew.heap[W.heap.size + 1 + 1]? = _ from (cells_other (W := W5) (g := W.heap.size) (b := W.heap.size + 1 + 1) (by omega) (blk_lt BZ.out) [.slice (some ⟨gB, 0, none⟩) nB cB, .int .i64 s.bn, .int .i64 s.bg] 0).trans BZ.out)
 have HRd0 := A_ (show RefIs (fun k => X k ∨ W.heap.size ≤ k) ⟨gB, cB, rsB, gB, cB, rsB⟩ (resetW s) (W5.setCells W.heap.size 0 [.slice (some ⟨gB, 0, none⟩) nB cB, .int .i64 s.bn, .int .i64 s.bg]).drew from ⟨HRX.2.2.1.below hbd, HRX.2.2.2.1, HRX.2.2.1.below hbd, HRX.2.2.2.1, .inl HRX.2.2.2.2.2, .inl HRX.2.2.2.2.2⟩)
 clear b0 b1 b2 hbd BX BX5
 go_upto_region 23 with fail
 clear u0 u1 u2 u3 u4 u5 u6 fx0 fx1 fx2
 have hnn : (W5.setCells W.heap.size 0 [.slice (some ⟨gB, 0, none⟩) nB cB, .int .i64 s.bn, .int .i64 s.bg]) = (((W5.setCell ⟨W.heap.size, 0, none⟩ (.slice (some ⟨gB, 0, none⟩) nB cB)).setCell ⟨W.heap.size, 1, none⟩ (.int .i64 s.bn)).setCell ⟨W.heap.size, 2, none⟩ (.int .i64 s.bg)) := rfl
 rw [hnn] at HBD HRd0
 obtain ⟨wq, hwq⟩ : ∃ wq, (((W5.setCell ⟨W.heap.size, 0, none⟩ (.slice (some ⟨gB, 0, none⟩) nB cB)).setCell ⟨W.heap.size, 1, none⟩ (.int .i64 s.bn)).setCell ⟨W.heap.size, 2, none⟩ (.int .i64 s.bg)) = wq := ⟨_, rfl⟩
 rw [hwq] at BXd BZd HBD HRd0 ⊢
 clear hnn hwq hlx
 obtain ⟨X4, hX4, hKd, hRd, hXn⟩ : ∃ X4 : Nat → Prop, (∀ k, X k → X4 k) ∧ Wk b wb X4 s wq.drew ∧ RefIs X4 ⟨gB, cB, rsB, gB, cB, rsB⟩ (resetW s) wq.drew ∧ (∀ k, W.heap.size ≤ k → k < wq.drew.heap.size → X4 k) := ⟨_, fun k hk => .inl hk, HH.out.1.fresh HBD.out, RefIs.into HRd0.out, fun k h1 h2 => .inr ⟨h1, h2⟩⟩
 have HX4 := A_ hX4
 have HKd := A_ hKd
 have HRd := A_ hRd
 have HXN := A_ hXn
 have HMD := A_ (Mv.of_below H0.out (fun k hk => HH.out.1.lt hk) HBD.out)
 clear hX4 hKd hRd hXn
 obtain ⟨u0, u1, u2, u3, u4, u5, u6⟩ := box7 (c0 := .slice (some ⟨gB, 0, none⟩) nB cB) (c1 := .int .i64 s.bn) (c2 := .int .i64 s.bg) (c3 := .slice (some ⟨gB, 0, none⟩) nB cB) (c4 := .int .i64 s.bn) (c5 := .int .i64 s.bg) (c6 := .int .i64 s.most) (show wq.heap[W.heap.size]? = _ from BXd.out)
 refine start_ (n := 6) (S := (fun w' => w'.cell? ⟨W.heap.size, 0, none⟩ = some (.slice (some ⟨gB, 0, none⟩) nB cB) ∧ w'.cell? ⟨W.heap.size, 1, none⟩ = some (.int .i64 s.bn) ∧ w'.cell? ⟨W.heap.size, 2, none⟩ = some (.int .i64 s.bg) ∧ w'.cell? ⟨W.heap.size, 3, none⟩ = some (.slice (some ⟨gB, 0, none⟩) nB cB) ∧ w'.cell? ⟨W.heap.size, 4, none⟩ = some (.int .i64 s.bn) ∧ w'.cell? ⟨W.heap.size, 5, none⟩ = some (.int .i64 s.bg) ∧ w'.cell? ⟨W.heap.size, 6, none⟩ = some (.int .i64 s.most))) (ds := [5]) #[false, false, false, false, false, false] (by kernel_rfl) rfl rfl (by refine ⟨?_, ?_, ?_, ?_, ?_, ?_, ?_⟩ <;> go_simp) (fun hHeld => ?_)
 have HS := A_ hHeld
 clear hHeld
 refine ta_ 0 137 HS.out ?_
 refine pu_ 1 138 ?_
 refine on_ 2 (some 139) (fun K hK => ?_)
 refine cl_ Try.func38 #[.pointer (some ⟨wb, 0, none⟩)] ?_
 refine Calls.mono (L_reset HKd.out (Nat.le_trans H0.out HBD.out.size) HH.out.2.2.1 (by have := HH.out.2.2.2.2.2; omega)) ?_
 rintro e w6 ⟨rfl, hk6, hm6⟩
 refine ⟨_, rfl, ?_⟩
 have BXx := A_ (hm6.blk BXd.out)
 have BZx := A_ (hm6.blk BZd.out)
 have HKx := A_ hk6
 have HRx := A_ (HRd.out.mv hm6)
 have HMx := A_ (HMD.out.trans (hm6.frees HX4.out))
 have HZX := A_ (HXN.out (W.heap.size + 1 + 1) (by omega) (blk_lt BZd.out))
 clear u0 u1 u2 u3 u4 u5 u6
 obtain ⟨u0, u1, u2, u3, u4, u5, u6⟩ := box7 (c0 := .slice (some ⟨gB, 0, none⟩) nB cB) (c1 := .int .i64 s.bn) (c2 := .int .i64 s.bg) (c3 := .slice (some ⟨gB, 0, none⟩) nB cB) (c4 := .int .i64 s.bn) (c5 := .int .i64 s.bg) (c6 := .int .i64 s.most) BXx.out
 refine hK.out _ _ ⟨u0, u1, u2, u3, u4, u5, u6⟩ (fun hH2 => ?_)
 replace HS := A_ hH2
 have hlx := blk_lt BXx.out
 clear hK K hH2 hk6 hm6 u0 u1 u2 u3 u4 u5 u6 BXd BZd HKd HRd HRd0
 refine nm_ (some 139) ?_
 refine pu_ 3 140 ?_ (hy := Or.inl ⟨by rfl, by intro w'; go_simp; (try simp only [beq_self_eq_true]); with_reducible rfl⟩)
 obtain ⟨t0, t1, t2, t3, t4, t5, t6⟩ := box7 BZx.out
 obtain ⟨fq0, fq1, fq2, fq3, fq4, fq5, fq6⟩ := frz7 BZx.out
 have hzl := blk_lt BZx.out
 have HKF := A_ (HKx.out.box HZX.out 0 [.slice (some ⟨gB, 0, none⟩) nB cB, .int .i64 s.bn, .int .i64 s.bg, .slice (some ⟨gB, 0, none⟩) nB cB, .int .i64 s.bn, .int .i64 s.bg, .int .i64 s.most])
 have HRF := A_ (HRx.out.box BZx.out (by decide) (by decide) 0 [.slice (some ⟨gB, 0, none⟩) nB cB, .int .i64 s.bn, .int .i64 s.bg, .slice (some ⟨gB, 0, none⟩) nB cB, .int .i64 s.bn, .int .i64 s.bg, .int .i64 s.most])
 have HMF := A_ (HMx.out.box H0.out (show W.heap.size ≤ W.heap.size + 1 + 1 by omega) (fun k hk => HH.out.1.lt hk) 0 [.slice (some ⟨gB, 0, none⟩) nB cB, .int .i64 s.bn, .int .i64 s.bg, .slice (some ⟨gB, 0, none⟩) nB cB, .int .i64 s.bn, .int .i64 s.bg, .int .i64 s.most])
 have e6 := set_same7 (.slice (some ⟨gB, 0, none⟩) nB cB) (.int .i64 s.bn) (.int .i64 s.bg) (.slice (some ⟨gB, 0, none⟩) nB cB) (.int .i64 s.bn) (.int .i64 s.bg) (.int .i64 s.most) BZx.out
 have E6 := A_ e6
 clear e6
 refine on_ 4 (none) (fun K hK => ?_)
 refine skip_ (w1 := ?_) (by rfl) rfl ?_ ?_
 rotate_left
 · go_simp
   rfl
 have hfar := fun {j : Nat} {u : Value} {q : Nat} (h : w6.cell? ⟨q, j, none⟩ = some u) (hb : q ≠ W.heap.size + 1 + 1) => far_ (g := W.heap.size + 1 + 1) (o := 0) (vs := [.slice (some ⟨gB, 0, none⟩) nB cB, .int .i64 s.bn, .int .i64 s.bg, .slice (some ⟨gB, 0, none⟩) nB cB, .int .i64 s.bn, .int .i64 s.bg, .int .i64 s.most]) h hb
 refine hK.out _ _ ⟨hfar HS.out.1 (by omega), hfar HS.out.2.1 (by omega), hfar HS.out.2.2.1 (by omega), hfar HS.out.2.2.2.1 (by omega), hfar HS.out.2.2.2.2.1 (by omega), hfar HS.out.2.2.2.2.2.1 (by omega), hfar HS.out.2.2.2.2.2.2 (by omega)⟩ (fun hH2 => ?_)
 clear hK K hH2 hfar HS
 refine chain_ [5] _ _ _ _ (⟨_, _, rfl, rfl, rfl⟩) (by kernel_rfl) (by decide) ?_
 go_wp2
 refine ret_named (w6.setCells (W.heap.size + 1 + 1) 0 [.slice (some ⟨gB, 0, none⟩) nB cB, .int .i64 s.bn, .int .i64 s.bg, .slice (some ⟨gB, 0, none⟩) nB cB, .int .i64 s.bn, .int .i64 s.bg, .int .i64 s.most]) rfl (fun Wf hWf => ?_)
 obtain ⟨r0, r1, r2, r3, r4, r5, r6⟩ := box7 (show Wf.heap[W.heap.size + 1 + 1]? = some (.cells #[.slice (some ⟨gB, 0, none⟩) nB cB, .int .i64 s.bn, .int .i64 s.bg, .slice (some ⟨gB, 0, none⟩) nB cB, .int .i64 s.bn, .int .i64 s.bg, .int .i64 s.most] 51 (0, 0)) from by rw [hWf]; exact E6.out)
 refine bodyPost_ret (v := .tuple #[.agg #[.slice (some ⟨gB, 0, none⟩) nB cB, .int .i64 s.bn, .int .i64 s.bg, .slice (some ⟨gB, 0, none⟩) nB cB, .int .i64 s.bn, .int .i64 s.bg, .int .i64 s.most], .bool true]) (by simp [results, Try.results28, go_sem, r0, r1, r2, r3, r4, r5, r6]) rfl ?_
 subst hWf
 exact ⟨⟨gB, cB, rsB, gB, cB, rsB⟩, X4, by simp only [RL.cells, ← HNN.out.1, ← HNN.out.2.1, settleW, resetW], HKF.out, HRF.out, HX4.out, HMF.out⟩
def actM (s : WS) (m x1 x2 : Int) (xv : S35) : WS := if m = 0 then allocS s else if m = 1 then putW s x1 x2 xv else if m = 2 then delW s x1 x2 else if m = 3 then s else if m = 4 then rootW s x1 x2 else if m = 5 then settleW s else resetW s
set_option maxHeartbeats 8000000 in
set_option maxRecDepth 100000 in
theorem act_0 {b wb : Nat} {X : Nat → Prop} {s : WS} {R : RL} {W : World} (x0 x1 x2 : Int) (xv : S35) (P4 : Option Addr) (p4 : Nat) (P5 : Option Addr) (p5 : Nat) (hm : x0.tmod 7 = 0) (h : Wk b wb X s W) (hR : RefIs X R s W) (h0 : b ≤ W.heap.size) (ho : OkS s) (hp : PlW s) (hl : s.now.length ≤ 70000) (hlb : s.base.length ≤ 70000) (hv : HasV xv P4 p4 P5 p5 W) (hf : fewV xv) (hsv : szV xv) :
 Calls Try.prog 28 #[.pointer (some ⟨wb, 0, none⟩), .agg (R.cells s), .agg #[.int .u8 x0, .int .i64 x1, .int .i64 x2, .int .i64 xv.f0, .int .i64 xv.f1, .int .i64 xv.f2, .string xv.f3, .slice P4 xv.f4.length p4, .slice P5 xv.f5.length p5]] W (ActPost b wb X (allocS s) W) := by
 have hu28 := Try.underlying28
 have hu35 := Try.underlying35
 have hu37 := Try.underlying37
 have hu49 := Try.underlying49
 have hu51 := Try.underlying51
 have hlN : s.now.length = R.rsN.length := by rw [← hR.2.1, List.length_map]
 have hlB : s.base.length = R.rsB.length := by rw [← hR.2.2.2.1, List.length_map]
 obtain ⟨gN, cN, rsN, gB, cB, rsB⟩ := R
 simp only [RL.cells] at hlN hlB ⊢
 obtain ⟨nN, hnN⟩ : ∃ nN, nN = rsN.length := ⟨_, rfl⟩
 obtain ⟨nB, hnB⟩ : ∃ nB, nB = rsB.length := ⟨_, rfl⟩
 rw [← hnN, ← hnB]
 have HNN := A_ (And.intro hnN (And.intro hnB (And.intro hlN hlB)))
 have HH := A_ (And.intro h (And.intro hR (And.intro ho (And.intro hp (And.intro hl hlb)))))
 have H0 := A_ h0
 obtain ⟨hb3, bx, bo, bz, hru, hup⟩ := pre3 #[.slice (some ⟨gN, 0, none⟩) nN cN, .int .i64 s.rn, .int .i64 s.rg, .slice (some ⟨gB, 0, none⟩) nB cB, .int .i64 s.bn, .int .i64 s.bg, .int .i64 s.most] #[.int .u8 x0, .int .i64 x1, .int .i64 x2, .int .i64 xv.f0, .int .i64 xv.f1, .int .i64 xv.f2, .string xv.f3, .slice P4 xv.f4.length p4, .slice P5 xv.f5.length p5] #[.slice none 0 0, .int .i64 0, .int .i64 0, .slice none 0 0, .int .i64 0, .int .i64 0, .int .i64 0] 51 37 51 hR
 have HB3 := A_ hb3
 have BX := A_ bx
 have BO := A_ bo
 have BZ := A_ bz
 have HRU := A_ hru
 have HUP := A_ hup
 have HV := A_ hv
 have HF := A_ (And.intro hf hsv)
 clear hnN hnB hlN hlB h hR h0 ho hp hl hlb hv hf hsv hb3 bx bo bz hru hup
 obtain ⟨⟨r1, r2, r3⟩, hr⟩ : ∃ r, r = allocR s := ⟨_, rfl⟩
 obtain ⟨s2, hs2⟩ : ∃ s2, s2 = allocS s := ⟨_, rfl⟩
 have KR := ref_alloc (fun k => X k ∨ W.heap.size ≤ k) ⟨gN, cN, rsN, gB, cB, rsB⟩ s (((W.alloc (.cells #[.slice (some ⟨gN, 0, none⟩) nN cN, .int .i64 s.rn, .int .i64 s.rg, .slice (some ⟨gB, 0, none⟩) nB cB, .int .i64 s.bn, .int .i64 s.bg, .int .i64 s.most] 51)).alloc (.cells #[.int .u8 x0, .int .i64 x1, .int .i64 x2, .int .i64 xv.f0, .int .i64 xv.f1, .int .i64 xv.f2, .string xv.f3, .slice P4 xv.f4.length p4, .slice P5 xv.f5.length p5] 37)).alloc (.cells #[.slice none 0 0, .int .i64 0, .int .i64 0, .slice none 0 0, .int .i64 0, .int .i64 0, .int .i64 0] 51)) HRU.out HH.out.2.2.2.1 HUP.out (by show 0 < rsN.length; have h1 := HNN.out.2.2.1; have h2 := HH.out.2.2.1.2.2.1; omega) (by show rsN.length ≤ 80000; have h1 := HNN.out.2.2.1; have h2 := HH.out.2.2.2.2.1; omega)
 have KW := A_ (fun (X4 : Nat → Prop) (W' : World) (hk : Wk b wb X4 s W') (h0' : b ≤ W'.heap.size) => L_alloc hk h0' (by have := HH.out.2.2.2.2.1; omega))
 simp only [RL.cells] at KR
 rw [← HNN.out.1, ← HNN.out.2.1, ← hr, ← hs2] at KR
 rw [← hr, ← hs2] at KW
 rw [← hs2]
 have KR' := A_ KR
 clear hr hs2 KR
 obtain ⟨u0, u1, u2, u3, u4, u5, u6⟩ := box7 BX.out
 obtain ⟨v0, v1, v2, v3, v4, v5, v6, v7, v8⟩ := box9 BO.out
 go_enter Try.func28, Try.ntmps28
 go_upto_block 0 with fail
 generalize x0.tmod 7 = m at *
 subst hm
 go_wp2_with fail
 refine Calls.mono KR'.out ?_
 rintro e w4 ⟨R2, rfl, hR2, hb⟩
 obtain ⟨m1, hm1⟩ : ∃ m1, m1 = R2.rsN.length := ⟨_, rfl⟩
 obtain ⟨m2, hm2⟩ : ∃ m2, m2 = R2.rsB.length := ⟨_, rfl⟩
 have HM2 := A_ (And.intro hm1 hm2)
 simp only [RL.cells]
 rw [← hm1, ← hm2]
 have hb4 := below_step HB3.out hb
 have hbd := below_alloc (below_alloc (RowKit.Below.refl w4.heap.size w4) (.cells #[.slice (some ⟨R2.gN, 0, none⟩) m1 R2.cN, .int .i64 s2.rn, .int .i64 s2.rg, .slice (some ⟨R2.gB, 0, none⟩) m2 R2.cB, .int .i64 s2.bn, .int .i64 s2.bg, .int .i64 s2.most] 51)) (.cells #[.int .i64 r1, .int .i64 r2] 28)
 have HBD := A_ (below_step hb4 hbd)
 have BXd := A_ (blk_alloc (blk_new w4 (.cells #[.slice (some ⟨R2.gN, 0, none⟩) m1 R2.cN, .int .i64 s2.rn, .int .i64 s2.rg, .slice (some ⟨R2.gB, 0, none⟩) m2 R2.cB, .int .i64 s2.bn, .int .i64 s2.bg, .int .i64 s2.most] 51)) (.cells #[.int .i64 r1, .int .i64 r2] 28))
 have BNd := A_ (blk_new (w4.alloc (.cells #[.slice (some ⟨R2.gN, 0, none⟩) m1 R2.cN, .int .i64 s2.rn, .int .i64 s2.rg, .slice (some ⟨R2.gB, 0, none⟩) m2 R2.cB, .int .i64 s2.bn, .int .i64 s2.bg, .int .i64 s2.most] 51)) (.cells #[.int .i64 r1, .int .i64 r2] 28))
 have BZd := A_ (blk_below (blk_below BZ.out hb) hbd)
 have HRD := A_ (hR2.below hbd)
 have HL4 := A_ (blk_lt (blk_below BZ.out hb))
 simp only [World.size_alloc] at BNd
 have hl4 : W.heap.size + 1 + 1 < w4.heap.size := HL4.out
 clear hb hb4 hbd hR2 hm1 hm2 u0 u1 u2 u3 u4 u5 u6 v0 v1 v2 v3 v4 v5 v6 v7 v8 KR' BX BO
 obtain ⟨X4, hX4, hKd, hRd, hXn⟩ : ∃ X4 : Nat → Prop, (∀ k, X k → X4 k) ∧ Wk b wb X4 s ((w4.alloc (.cells #[.slice (some ⟨R2.gN, 0, none⟩) m1 R2.cN, .int .i64 s2.rn, .int .i64 s2.rg, .slice (some ⟨R2.gB, 0, none⟩) m2 R2.cB, .int .i64 s2.bn, .int .i64 s2.bg, .int .i64 s2.most] 51)).alloc (.cells #[.int .i64 r1, .int .i64 r2] 28)) ∧ RefIs X4 R2 s2 ((w4.alloc (.cells #[.slice (some ⟨R2.gN, 0, none⟩) m1 R2.cN, .int .i64 s2.rn, .int .i64 s2.rg, .slice (some ⟨R2.gB, 0, none⟩) m2 R2.cB, .int .i64 s2.bn, .int .i64 s2.bg, .int .i64 s2.most] 51)).alloc (.cells #[.int .i64 r1, .int .i64 r2] 28)) ∧ (∀ k, W.heap.size ≤ k → k < ((w4.alloc (.cells #[.slice (some ⟨R2.gN, 0, none⟩) m1 R2.cN, .int .i64 s2.rn, .int .i64 s2.rg, .slice (some ⟨R2.gB, 0, none⟩) m2 R2.cB, .int .i64 s2.bn, .int .i64 s2.bg, .int .i64 s2.most] 51)).alloc (.cells #[.int .i64 r1, .int .i64 r2] 28)).heap.size → X4 k) := ⟨_, fun k hk => .inl hk, HH.out.1.fresh HBD.out, RefIs.into HRD.out, fun k h1 h2 => .inr ⟨h1, h2⟩⟩
 have HX4 := A_ hX4
 have HKd := A_ hKd
 have HRd := A_ hRd
 have HXN := A_ hXn
 have HMD := A_ (Mv.of_below H0.out (fun k hk => HH.out.1.lt hk) HBD.out)
 clear hX4 hKd hRd hXn
 go_wp2_with fail
 refine Calls.mono (KW.out X4 _ HKd.out (Nat.le_trans H0.out HBD.out.size)) ?_
 rintro e w6 ⟨rfl, hk6, hm6⟩
 have hb6 := (below_alloc (RowKit.Below.refl w6.heap.size w6) (.cells #[.int .i64 r1, .int .i64 r2] 28)).drew
 have BX6 := hm6.blk BXd.out
 have BN6 := hm6.blk BNd.out
 have BZ6 := hm6.blk BZd.out
 have BXx := A_ (blk_below BX6 hb6)
 have BNx := A_ (blk_below BN6 hb6)
 have BZx := A_ (blk_below BZ6 hb6)
 have HKx := A_ (hk6.below hb6)
 have HRx := A_ ((HRd.out.mv hm6).below hb6)
 have hm6' := HMD.out.trans (hm6.frees HX4.out)
 have HMx := A_ (hm6'.trans (Mv.of_below (Nat.le_trans H0.out hm6'.1.size) (fun k hk => Nat.lt_of_lt_of_le (HH.out.1.lt hk) hm6'.1.size) hb6))
 have HZX := A_ (HXN.out (W.heap.size + 1 + 1) (by omega) (blk_lt BZd.out))
 have HL6 := A_ (blk_lt BN6)
 have hl6 : w4.heap.size + 1 < w6.heap.size := HL6.out
 have hl6' : w4.heap.size < w6.heap.size := by omega
 have HA := A_ (And.intro BX6 BN6)
 clear BX6 BN6 BZ6 hb6 hk6 hm6 hm6' BXd BNd BZd HKd HRd KW
 obtain ⟨a0, a1, a2, a3, a4, a5, a6⟩ := box7 HA.out.1
 obtain ⟨n0, n1⟩ := box2 HA.out.2
 obtain ⟨k0, k1⟩ := box2 (blk_new w6 (.cells #[.int .i64 r1, .int .i64 r2] 28))
 go_upto_region 5 with fail
 refine start_ (n := 11) (S := (fun w' => w'.cell? ⟨w4.heap.size, 0, none⟩ = some (.slice (some ⟨R2.gN, 0, none⟩) m1 R2.cN) ∧ w'.cell? ⟨w4.heap.size, 1, none⟩ = some (.int .i64 s2.rn) ∧ w'.cell? ⟨w4.heap.size, 2, none⟩ = some (.int .i64 s2.rg) ∧ w'.cell? ⟨w4.heap.size, 3, none⟩ = some (.slice (some ⟨R2.gB, 0, none⟩) m2 R2.cB) ∧ w'.cell? ⟨w4.heap.size, 4, none⟩ = some (.int .i64 s2.bn) ∧ w'.cell? ⟨w4.heap.size, 5, none⟩ = some (.int .i64 s2.bg) ∧ w'.cell? ⟨w4.heap.size, 6, none⟩ = some (.int .i64 s2.most) ∧ w'.cell? ⟨w4.heap.size + 1, 0, none⟩ = some (.int .i64 r1) ∧ w'.cell? ⟨w4.heap.size + 1, 1, none⟩ = some (.int .i64 r2) ∧ w'.cell? ⟨w6.heap.size, 0, none⟩ = some (.int .i64 r1) ∧ w'.cell? ⟨w6.heap.size, 1, none⟩ = some (.int .i64 r2))) (ds := [10]) #[false, false, false, false, false, false, false, false, false, false, false] (by kernel_rfl) rfl rfl (by refine ⟨?_, ?_, ?_, ?_, ?_, ?_, ?_, ?_, ?_, ?_, ?_⟩ <;> go_simp) (fun hHeld => ?_)
 have HS := A_ hHeld
 clear hHeld
 refine ta_ 0 39 HS.out ?_
 refine ta_ 1 40 HS.out ?_
 refine ta_ 2 41 HS.out ?_
 refine pu_ 3 42 ?_ (hy := Or.inl ⟨by rfl, by intro w'; go_simp; (try simp only [beq_self_eq_true, Bool.and_self]); with_reducible rfl⟩)
 refine pu_ 4 43 ?_
 refine pu_ 5 44 ?_
 refine pu_ 6 45 ?_
 refine pu_ 7 46 ?_ (hy := Or.inl ⟨by rfl, by intro w'; go_simp; (try simp only [beq_self_eq_true, Bool.and_self]); with_reducible rfl⟩)
 refine pu_ 8 47 ?_
 clear a0 a1 a2 a3 a4 a5 a6 n0 n1 k0 k1
 generalize hwd : (w6.alloc (.cells #[.int .i64 r1, .int .i64 r2] 28)).drew = wd at *
 clear hwd
 obtain ⟨t0, t1, t2, t3, t4, t5, t6⟩ := box7 BZx.out
 obtain ⟨fq0, fq1, fq2, fq3, fq4, fq5, fq6⟩ := frz7 BZx.out
 have hzl := blk_lt BZx.out
 have HKF := A_ (HKx.out.box HZX.out 0 [.slice (some ⟨R2.gN, 0, none⟩) m1 R2.cN, .int .i64 s2.rn, .int .i64 s2.rg, .slice (some ⟨R2.gB, 0, none⟩) m2 R2.cB, .int .i64 s2.bn, .int .i64 s2.bg, .int .i64 s2.most])
 have HRF := A_ (HRx.out.box BZx.out (by decide) (by decide) 0 [.slice (some ⟨R2.gN, 0, none⟩) m1 R2.cN, .int .i64 s2.rn, .int .i64 s2.rg, .slice (some ⟨R2.gB, 0, none⟩) m2 R2.cB, .int .i64 s2.bn, .int .i64 s2.bg, .int .i64 s2.most])
 have HMF := A_ (HMx.out.box H0.out (show W.heap.size ≤ W.heap.size + 1 + 1 by omega) (fun k hk => HH.out.1.lt hk) 0 [.slice (some ⟨R2.gN, 0, none⟩) m1 R2.cN, .int .i64 s2.rn, .int .i64 s2.rg, .slice (some ⟨R2.gB, 0, none⟩) m2 R2.cB, .int .i64 s2.bn, .int .i64 s2.bg, .int .i64 s2.most])
 have e6 := set_same7 (.slice (some ⟨R2.gN, 0, none⟩) m1 R2.cN) (.int .i64 s2.rn) (.int .i64 s2.rg) (.slice (some ⟨R2.gB, 0, none⟩) m2 R2.cB) (.int .i64 s2.bn) (.int .i64 s2.bg) (.int .i64 s2.most) BZx.out
 have E6 := A_ e6
 clear e6
 refine on_ 9 (none) (fun K hK => ?_)
 refine skip_ (w1 := ?_) (by rfl) rfl ?_ ?_
 rotate_left
 · go_simp
   rfl
 have hfar := fun {j : Nat} {u : Value} {q : Nat} (h : wd.cell? ⟨q, j, none⟩ = some u) (hb : q ≠ W.heap.size + 1 + 1) => far_ (g := W.heap.size + 1 + 1) (o := 0) (vs := [.slice (some ⟨R2.gN, 0, none⟩) m1 R2.cN, .int .i64 s2.rn, .int .i64 s2.rg, .slice (some ⟨R2.gB, 0, none⟩) m2 R2.cB, .int .i64 s2.bn, .int .i64 s2.bg, .int .i64 s2.most]) h hb
 refine hK.out _ _ ⟨hfar HS.out.1 (by omega), hfar HS.out.2.1 (by omega), hfar HS.out.2.2.1 (by omega), hfar HS.out.2.2.2.1 (by omega), hfar HS.out.2.2.2.2.1 (by omega), hfar HS.out.2.2.2.2.2.1 (by omega), hfar HS.out.2.2.2.2.2.2.1 (by omega), hfar HS.out.2.2.2.2.2.2.2.1 (by omega), hfar HS.out.2.2.2.2.2.2.2.2.1 (by omega), hfar HS.out.2.2.2.2.2.2.2.2.2.1 (by omega), hfar HS.out.2.2.2.2.2.2.2.2.2.2 (by omega)⟩ (fun hH2 => ?_)
 clear hK K hH2 hfar HS
 refine chain_ [10] _ _ _ _ (⟨_, _, rfl, rfl, rfl⟩) (by kernel_rfl) (by decide) ?_
 go_wp2
 refine ret_named (wd.setCells (W.heap.size + 1 + 1) 0 [.slice (some ⟨R2.gN, 0, none⟩) m1 R2.cN, .int .i64 s2.rn, .int .i64 s2.rg, .slice (some ⟨R2.gB, 0, none⟩) m2 R2.cB, .int .i64 s2.bn, .int .i64 s2.bg, .int .i64 s2.most]) rfl (fun Wf hWf => ?_)
 obtain ⟨r0, r1, r2, r3, r4, r5, r6⟩ := box7 (show Wf.heap[W.heap.size + 1 + 1]? = some (.cells #[.slice (some ⟨R2.gN, 0, none⟩) m1 R2.cN, .int .i64 s2.rn, .int .i64 s2.rg, .slice (some ⟨R2.gB, 0, none⟩) m2 R2.cB, .int .i64 s2.bn, .int .i64 s2.bg, .int .i64 s2.most] 51 (0, 0)) from by rw [hWf]; exact E6.out)
 refine bodyPost_ret (v := .tuple #[.agg #[.slice (some ⟨R2.gN, 0, none⟩) m1 R2.cN, .int .i64 s2.rn, .int .i64 s2.rg, .slice (some ⟨R2.gB, 0, none⟩) m2 R2.cB, .int .i64 s2.bn, .int .i64 s2.bg, .int .i64 s2.most], .bool true]) (by simp [results, Try.results28, go_sem, r0, r1, r2, r3, r4, r5, r6]) rfl ?_
 subst hWf
 exact ⟨R2, X4, by simp only [RL.cells, ← HM2.out.1, ← HM2.out.2], HKF.out, HRF.out, HX4.out, HMF.out⟩
set_option maxHeartbeats 8000000 in
set_option maxRecDepth 100000 in
theorem act_3 {b wb : Nat} {X : Nat → Prop} {s : WS} {R : RL} {W : World} (x0 x1 x2 : Int) (xv : S35) (P4 : Option Addr) (p4 : Nat) (P5 : Option Addr) (p5 : Nat) (hm : x0.tmod 7 = 3) (h : Wk b wb X s W) (hR : RefIs X R s W) (h0 : b ≤ W.heap.size) (ho : OkS s) (hp : PlW s) (hl : s.now.length ≤ 70000) (hlb : s.base.length ≤ 70000) (hv : HasV xv P4 p4 P5 p5 W) (hf : fewV xv) (hsv : szV xv) :
 Calls Try.prog 28 #[.pointer (some ⟨wb, 0, none⟩), .agg (R.cells s), .agg #[.int .u8 x0, .int .i64 x1, .int .i64 x2, .int .i64 xv.f0, .int .i64 xv.f1, .int .i64 xv.f2, .string xv.f3, .slice P4 xv.f4.length p4, .slice P5 xv.f5.length p5]] W (ActPost b wb X (s) W) := by
 have hu28 := Try.underlying28
 have hu35 := Try.underlying35
 have hu37 := Try.underlying37
 have hu49 := Try.underlying49
 have hu51 := Try.underlying51
 have hlN : s.now.length = R.rsN.length := by rw [← hR.2.1, List.length_map]
 have hlB : s.base.length = R.rsB.length := by rw [← hR.2.2.2.1, List.length_map]
 obtain ⟨gN, cN, rsN, gB, cB, rsB⟩ := R
 simp only [RL.cells] at hlN hlB ⊢
 obtain ⟨nN, hnN⟩ : ∃ nN, nN = rsN.length := ⟨_, rfl⟩
 obtain ⟨nB, hnB⟩ : ∃ nB, nB = rsB.length := ⟨_, rfl⟩
 rw [← hnN, ← hnB]
 have HNN := A_ (And.intro hnN (And.intro hnB (And.intro hlN hlB)))
 have HH := A_ (And.intro h (And.intro hR (And.intro ho (And.intro hp (And.intro hl hlb)))))
 have H0 := A_ h0
 obtain ⟨hb3, bx, bo, bz, hru, hup⟩ := pre3 #[.slice (some ⟨gN, 0, none⟩) nN cN, .int .i64 s.rn, .int .i64 s.rg, .slice (some ⟨gB, 0, none⟩) nB cB, .int .i64 s.bn, .int .i64 s.bg, .int .i64 s.most] #[.int .u8 x0, .int .i64 x1, .int .i64 x2, .int .i64 xv.f0, .int .i64 xv.f1, .int .i64 xv.f2, .string xv.f3, .slice P4 xv.f4.length p4, .slice P5 xv.f5.length p5] #[.slice none 0 0, .int .i64 0, .int .i64 0, .slice none 0 0, .int .i64 0, .int .i64 0, .int .i64 0] 51 37 51 hR
 have HB3 := A_ hb3
 have BX := A_ bx
 have BO := A_ bo
 have BZ := A_ bz
 have HRU := A_ hru
 have HUP := A_ hup
 have HV := A_ hv
 have HF := A_ (And.intro hf hsv)
 clear hnN hnB hlN hlB h hR h0 ho hp hl hlb hv hf hsv hb3 bx bo bz hru hup
 obtain ⟨er, her⟩ : ∃ er, er = findE s x1 x2 := ⟨_, rfl⟩
 obtain ⟨v, hv⟩ : ∃ v, v = getR s x1 x2 := ⟨_, rfl⟩
 have KR := ref_get (fun k => X k ∨ W.heap.size ≤ k) ⟨gN, cN, rsN, gB, cB, rsB⟩ s x1 x2 (((W.alloc (.cells #[.slice (some ⟨gN, 0, none⟩) nN cN, .int .i64 s.rn, .int .i64 s.rg, .slice (some ⟨gB, 0, none⟩) nB cB, .int .i64 s.bn, .int .i64 s.bg, .int .i64 s.most] 51)).alloc (.cells #[.int .u8 x0, .int .i64 x1, .int .i64 x2, .int .i64 xv.f0, .int .i64 xv.f1, .int .i64 xv.f2, .string xv.f3, .slice P4 xv.f4.length p4, .slice P5 xv.f5.length p5] 37)).alloc (.cells #[.slice none 0 0, .int .i64 0, .int .i64 0, .slice none 0 0, .int .i64 0, .int .i64 0, .int .i64 0] 51)) HRU.out (by show rsN.length ≤ 90000; have := HNN.out.2.2.1; have := HH.out.2.2.2.2.1; omega)
 have KW := A_ (fun (W' : World) (hk : Wk b wb X s W') => L_get (n := x1) (g := x2) hk HH.out.2.2.1)
 simp only [RL.cells] at KR
 rw [← HNN.out.1, ← HNN.out.2.1, ← her, ← hv] at KR
 rw [plw_get HH.out.2.2.2.1, ← her, ← hv] at KW
 have KR' := A_ KR
 clear her hv KR
 obtain ⟨u0, u1, u2, u3, u4, u5, u6⟩ := box7 BX.out
 obtain ⟨v0, v1, v2, v3, v4, v5, v6, v7, v8⟩ := box9 BO.out
 go_enter Try.func28, Try.ntmps28
 go_upto_block 0 with fail
 generalize x0.tmod 7 = m at *
 subst hm
 go_wp2_with fail
 refine Calls.mono KR'.out ?_
 rintro e w4 ⟨a4, n4, a5, n5, rfl, hgv, hb⟩
 have hbA := below_alloc (RowKit.Below.refl w4.heap.size w4) (.cells #[.int .i64 v.f0, .int .i64 v.f1, .int .i64 v.f2, .string v.f3, .slice a4 v.f4.length n4, .slice a5 v.f5.length n5] 35)
 have HB4 := A_ (below_step (below_step HB3.out hb) hbA)
 have BXa := A_ (blk_below (blk_below BX.out hb) hbA)
 have BOa := A_ (blk_below (blk_below BO.out hb) hbA)
 have BZa := A_ (blk_below (blk_below BZ.out hb) hbA)
 have BVa := A_ (blk_new w4 (.cells #[.int .i64 v.f0, .int .i64 v.f1, .int .i64 v.f2, .string v.f3, .slice a4 v.f4.length n4, .slice a5 v.f5.length n5] 35))
 have HVa := A_ (hgv.below hbA)
 have HL4 := A_ (blk_lt (blk_below BZ.out hb))
 have BO4 := A_ (blk_below BO.out hb)
 have hl4 : W.heap.size + 1 < w4.heap.size := by have := HL4.out; omega
 clear hb hbA hgv u0 u1 u2 u3 u4 u5 u6 v0 v1 v2 v3 v4 v5 v6 v7 v8 KR' BX BO BZ
 obtain ⟨v0, v1, v2, v3, v4, v5, v6, v7, v8⟩ := box9 BO4.out
 go_wp2_with fail
 refine Calls.mono (KW.out _ (HH.out.1.below HB4.out)) ?_
 rintro e w5 ⟨b4, k4, b5, k5, rfl, hgu, hb⟩
 have hbB := (below_alloc (RowKit.Below.refl w5.heap.size w5) (.cells #[.int .i64 v.f0, .int .i64 v.f1, .int .i64 v.f2, .string v.f3, .slice b4 v.f4.length k4, .slice b5 v.f5.length k5] 35)).drew
 have HBd := A_ (below_step (below_step HB4.out hb) hbB)
 have BX5 := A_ (blk_below BXa.out hb)
 have BV5 := A_ (blk_below BVa.out hb)
 have BXd := A_ (blk_below BX5.out hbB)
 have BZd := A_ (blk_below (blk_below BZa.out hb) hbB)
 have KE := K_equal v b4 k4 b5 k5 v a4 n4 a5 n5 _ (hgu.below hbB) ((HVa.out.below hb).below hbB)
 rw [eqB_true rfl] at KE
 replace KE := A_ KE
 have hl5 : w4.heap.size < w5.heap.size := blk_lt BV5.out
 have hl0 : W.heap.size < w5.heap.size := blk_lt BX5.out
 clear hb hbB hgu v0 v1 v2 v3 v4 v5 v6 v7 v8 KW BXa BOa BZa BVa HVa BO4
 obtain ⟨u0, u1, u2, u3, u4, u5, u6⟩ := box7 BX5.out
 obtain ⟨c0, c1, c2, c3, c4, c5⟩ := box35 BV5.out
 obtain ⟨d0, d1, d2, d3, d4, d5⟩ := box35 (blk_new w5 (.cells #[.int .i64 v.f0, .int .i64 v.f1, .int .i64 v.f2, .string v.f3, .slice b4 v.f4.length k4, .slice b5 v.f5.length k5] 35))
 go_upto_region 15 with fail
 refine start_ (n := 11) (S := (fun w' => w'.cell? ⟨W.heap.size, 0, none⟩ = some (.slice (some ⟨gN, 0, none⟩) nN cN) ∧ w'.cell? ⟨W.heap.size, 1, none⟩ = some (.int .i64 s.rn) ∧ w'.cell? ⟨W.heap.size, 2, none⟩ = some (.int .i64 s.rg) ∧ w'.cell? ⟨W.heap.size, 3, none⟩ = some (.slice (some ⟨gB, 0, none⟩) nB cB) ∧ w'.cell? ⟨W.heap.size, 4, none⟩ = some (.int .i64 s.bn) ∧ w'.cell? ⟨W.heap.size, 5, none⟩ = some (.int .i64 s.bg) ∧ w'.cell? ⟨W.heap.size, 6, none⟩ = some (.int .i64 s.most) ∧ w'.cell? ⟨w5.heap.size, 0, none⟩ = some (.int .i64 v.f0) ∧ w'.cell? ⟨w5.heap.size, 1, none⟩ = some (.int .i64 v.f1) ∧ w'.cell? ⟨w5.heap.size, 2, none⟩ = some (.int .i64 v.f2) ∧ w'.cell? ⟨w5.heap.size, 3, none⟩ = some (.string v.f3) ∧ w'.cell? ⟨w5.heap.size, 4, none⟩ = some (.slice b4 v.f4.length k4) ∧ w'.cell? ⟨w5.heap.size, 5, none⟩ = some (.slice b5 v.f5.length k5) ∧ w'.cell? ⟨w4.heap.size, 0, none⟩ = some (.int .i64 v.f0) ∧ w'.cell? ⟨w4.heap.size, 1, none⟩ = some (.int .i64 v.f1) ∧ w'.cell? ⟨w4.heap.size, 2, none⟩ = some (.int .i64 v.f2) ∧ w'.cell? ⟨w4.heap.size, 3, none⟩ = some (.string v.f3) ∧ w'.cell? ⟨w4.heap.size, 4, none⟩ = some (.slice a4 v.f4.length n4) ∧ w'.cell? ⟨w4.heap.size, 5, none⟩ = some (.slice a5 v.f5.length n5))) (ds := [10]) #[false, false, false, false, false, false, false, false, false, false, false] (by kernel_rfl) rfl rfl (by refine ⟨?_, ?_, ?_, ?_, ?_, ?_, ?_, ?_, ?_, ?_, ?_, ?_, ?_, ?_, ?_, ?_, ?_, ?_, ?_⟩ <;> go_simp) (fun hHeld => ?_)
 have HS := A_ hHeld
 clear hHeld
 refine ta_ 0 100 HS.out ?_
 refine ta_ 1 101 HS.out ?_
 refine ta_ 2 102 HS.out ?_
 refine on_ 3 (some 103) (fun K hK => ?_)
 refine cl_ Try.func58 #[.agg #[.int .i64 v.f0, .int .i64 v.f1, .int .i64 v.f2, .string v.f3, .slice b4 v.f4.length k4, .slice b5 v.f5.length k5], .agg #[.int .i64 v.f0, .int .i64 v.f1, .int .i64 v.f2, .string v.f3, .slice a4 v.f4.length n4, .slice a5 v.f5.length n5]] ?_
 refine Calls.mono KE.out ?_
 rintro e w6 ⟨rfl, hb6⟩
 refine ⟨_, rfl, ?_⟩
 refine hK.out _ _ ⟨up_ hb6.cell HS.out.1, up_ hb6.cell HS.out.2.1, up_ hb6.cell HS.out.2.2.1, up_ hb6.cell HS.out.2.2.2.1, up_ hb6.cell HS.out.2.2.2.2.1, up_ hb6.cell HS.out.2.2.2.2.2.1, up_ hb6.cell HS.out.2.2.2.2.2.2.1, up_ hb6.cell HS.out.2.2.2.2.2.2.2.1, up_ hb6.cell HS.out.2.2.2.2.2.2.2.2.1, up_ hb6.cell HS.out.2.2.2.2.2.2.2.2.2.1, up_ hb6.cell HS.out.2.2.2.2.2.2.2.2.2.2.1, up_ hb6.cell HS.out.2.2.2.2.2.2.2.2.2.2.2.1, up_ hb6.cell HS.out.2.2.2.2.2.2.2.2.2.2.2.2.1, up_ hb6.cell HS.out.2.2.2.2.2.2.2.2.2.2.2.2.2.1, up_ hb6.cell HS.out.2.2.2.2.2.2.2.2.2.2.2.2.2.2.1, up_ hb6.cell HS.out.2.2.2.2.2.2.2.2.2.2.2.2.2.2.2.1, up_ hb6.cell HS.out.2.2.2.2.2.2.2.2.2.2.2.2.2.2.2.2.1, up_ hb6.cell HS.out.2.2.2.2.2.2.2.2.2.2.2.2.2.2.2.2.2.1, up_ hb6.cell HS.out.2.2.2.2.2.2.2.2.2.2.2.2.2.2.2.2.2.2⟩ (fun hH2 => ?_)
 replace HS := A_ hH2
 have HBD := A_ (below_step HBd.out hb6)
 have BZx := A_ (blk_below BZd.out hb6)
 have hlw := blk_lt (blk_below BXd.out hb6)
 have hl56 : w5.heap.size < w6.heap.size := Nat.lt_of_lt_of_le (by simp) hb6.size
 have hl46 : w4.heap.size < w6.heap.size := by omega
 have hl42 := HL4.out
 have HR0 := A_ ((show RefIs (fun k => X k ∨ W.heap.size ≤ k) ⟨gN, cN, rsN, gB, cB, rsB⟩ s W from ⟨HH.out.2.1.1, HH.out.2.1.2.1, HH.out.2.1.2.2.1, HH.out.2.1.2.2.2.1, .inl HH.out.2.1.2.2.2.2.1, .inl HH.out.2.1.2.2.2.2.2⟩).below HBD.out)
 clear hK K hH2 hb6 KE BXd BZd HBd c0 c1 c2 c3 c4 c5 d0 d1 d2 d3 d4 d5 u0 u1 u2 u3 u4 u5 u6
 obtain ⟨X4, hX4, hKd, hRd, hXn⟩ : ∃ X4 : Nat → Prop, (∀ k, X k → X4 k) ∧ Wk b wb X4 s w6 ∧ RefIs X4 ⟨gN, cN, rsN, gB, cB, rsB⟩ s w6 ∧ (∀ k, W.heap.size ≤ k → k < w6.heap.size → X4 k) := ⟨_, fun k hk => .inl hk, HH.out.1.fresh HBD.out, RefIs.into HR0.out, fun k h1 h2 => .inr ⟨h1, h2⟩⟩
 have HX4 := A_ hX4
 have HKd := A_ hKd
 have HRd := A_ hRd
 have HXN := A_ hXn
 have HMD := A_ (Mv.of_below H0.out (fun k hk => HH.out.1.lt hk) HBD.out)
 clear hX4 hKd hRd hXn
 have HKx := HKd
 have HRx := HRd
 have HMx := HMD
 have HZX := A_ (HXN.out (W.heap.size + 1 + 1) (by omega) (blk_lt BZx.out))
 refine nm_ (some 103) ?_
 refine pu_ 4 104 ?_
 refine pu_ 5 105 ?_
 refine pu_ 6 106 ?_
 refine pu_ 7 107 ?_ (hy := Or.inl ⟨by rfl, by intro w'; go_simp; (try simp only [beq_self_eq_true, Bool.and_self]); with_reducible rfl⟩)
 refine pu_ 8 108 ?_
 obtain ⟨t0, t1, t2, t3, t4, t5, t6⟩ := box7 BZx.out
 obtain ⟨fq0, fq1, fq2, fq3, fq4, fq5, fq6⟩ := frz7 BZx.out
 have hzl := blk_lt BZx.out
 have HKF := A_ (HKx.out.box HZX.out 0 [.slice (some ⟨gN, 0, none⟩) nN cN, .int .i64 s.rn, .int .i64 s.rg, .slice (some ⟨gB, 0, none⟩) nB cB, .int .i64 s.bn, .int .i64 s.bg, .int .i64 s.most])
 have HRF := A_ (HRx.out.box BZx.out (by decide) (by decide) 0 [.slice (some ⟨gN, 0, none⟩) nN cN, .int .i64 s.rn, .int .i64 s.rg, .slice (some ⟨gB, 0, none⟩) nB cB, .int .i64 s.bn, .int .i64 s.bg, .int .i64 s.most])
 have HMF := A_ (HMx.out.box H0.out (show W.heap.size ≤ W.heap.size + 1 + 1 by omega) (fun k hk => HH.out.1.lt hk) 0 [.slice (some ⟨gN, 0, none⟩) nN cN, .int .i64 s.rn, .int .i64 s.rg, .slice (some ⟨gB, 0, none⟩) nB cB, .int .i64 s.bn, .int .i64 s.bg, .int .i64 s.most])
 have e6 := set_same7 (.slice (some ⟨gN, 0, none⟩) nN cN) (.int .i64 s.rn) (.int .i64 s.rg) (.slice (some ⟨gB, 0, none⟩) nB cB) (.int .i64 s.bn) (.int .i64 s.bg) (.int .i64 s.most) BZx.out
 have E6 := A_ e6
 clear e6
 refine on_ 9 (none) (fun K hK => ?_)
 refine skip_ (w1 := ?_) (by rfl) rfl ?_ ?_
 rotate_left
 · go_simp
   rfl
 have hfar := fun {j : Nat} {u : Value} {q : Nat} (h : w6.cell? ⟨q, j, none⟩ = some u) (hb : q ≠ W.heap.size + 1 + 1) => far_ (g := W.heap.size + 1 + 1) (o := 0) (vs := [.slice (some ⟨gN, 0, none⟩) nN cN, .int .i64 s.rn, .int .i64 s.rg, .slice (some ⟨gB, 0, none⟩) nB cB, .int .i64 s.bn, .int .i64 s.bg, .int .i64 s.most]) h hb
 refine hK.out _ _ ⟨hfar HS.out.1 (by omega), hfar HS.out.2.1 (by omega), hfar HS.out.2.2.1 (by omega), hfar HS.out.2.2.2.1 (by omega), hfar HS.out.2.2.2.2.1 (by omega), hfar HS.out.2.2.2.2.2.1 (by omega), hfar HS.out.2.2.2.2.2.2.1 (by omega), hfar HS.out.2.2.2.2.2.2.2.1 (by omega), hfar HS.out.2.2.2.2.2.2.2.2.1 (by omega), hfar HS.out.2.2.2.2.2.2.2.2.2.1 (by omega), hfar HS.out.2.2.2.2.2.2.2.2.2.2.1 (by omega), hfar HS.out.2.2.2.2.2.2.2.2.2.2.2.1 (by omega), hfar HS.out.2.2.2.2.2.2.2.2.2.2.2.2.1 (by omega), hfar HS.out.2.2.2.2.2.2.2.2.2.2.2.2.2.1 (by omega), hfar HS.out.2.2.2.2.2.2.2.2.2.2.2.2.2.2.1 (by omega), hfar HS.out.2.2.2.2.2.2.2.2.2.2.2.2.2.2.2.1 (by omega), hfar HS.out.2.2.2.2.2.2.2.2.2.2.2.2.2.2.2.2.1 (by omega), hfar HS.out.2.2.2.2.2.2.2.2.2.2.2.2.2.2.2.2.2.1 (by omega), hfar HS.out.2.2.2.2.2.2.2.2.2.2.2.2.2.2.2.2.2.2 (by omega)⟩ (fun hH2 => ?_)
 clear hK K hH2 hfar HS
 refine chain_ [10] _ _ _ _ (⟨_, _, rfl, rfl, rfl⟩) (by kernel_rfl) (by decide) ?_
 go_wp2
 refine ret_named (w6.setCells (W.heap.size + 1 + 1) 0 [.slice (some ⟨gN, 0, none⟩) nN cN, .int .i64 s.rn, .int .i64 s.rg, .slice (some ⟨gB, 0, none⟩) nB cB, .int .i64 s.bn, .int .i64 s.bg, .int .i64 s.most]) rfl (fun Wf hWf => ?_)
 obtain ⟨r0, r1, r2, r3, r4, r5, r6⟩ := box7 (show Wf.heap[W.heap.size + 1 + 1]? = some (.cells #[.slice (some ⟨gN, 0, none⟩) nN cN, .int .i64 s.rn, .int .i64 s.rg, .slice (some ⟨gB, 0, none⟩) nB cB, .int .i64 s.bn, .int .i64 s.bg, .int .i64 s.most] 51 (0, 0)) from by rw [hWf]; exact E6.out)
 refine bodyPost_ret (v := .tuple #[.agg #[.slice (some ⟨gN, 0, none⟩) nN cN, .int .i64 s.rn, .int .i64 s.rg, .slice (some ⟨gB, 0, none⟩) nB cB, .int .i64 s.bn, .int .i64 s.bg, .int .i64 s.most], .bool true]) (by simp [results, Try.results28, go_sem, r0, r1, r2, r3, r4, r5, r6]) rfl ?_
 subst hWf
 exact ⟨⟨gN, cN, rsN, gB, cB, rsB⟩, X4, by simp only [RL.cells, ← HNN.out.1, ← HNN.out.2.1], HKF.out, HRF.out, HX4.out, HMF.out⟩
theorem act_all {b wb : Nat} {X : Nat → Prop} {s : WS} {R : RL} {W : World} (x0 x1 x2 : Int) (xv : S35) (P4 : Option Addr) (p4 : Nat) (P5 : Option Addr) (p5 : Nat) (h : Wk b wb X s W) (hR : RefIs X R s W) (h0 : b ≤ W.heap.size) (ho : OkS s) (hp : PlW s) (hl : s.now.length ≤ 70000) (hlb : s.base.length ≤ 70000) (hv : HasV xv P4 p4 P5 p5 W) (hf : fewV xv) (hsv : szV xv) :
 Calls Try.prog 28 #[.pointer (some ⟨wb, 0, none⟩), .agg (R.cells s), .agg #[.int .u8 x0, .int .i64 x1, .int .i64 x2, .int .i64 xv.f0, .int .i64 xv.f1, .int .i64 xv.f2, .string xv.f3, .slice P4 xv.f4.length p4, .slice P5 xv.f5.length p5]] W (ActPost b wb X (actM s (x0.tmod 7) x1 x2 xv) W) := by
 by_cases m0 : x0.tmod 7 = 0
 · have e : actM s (x0.tmod 7) x1 x2 xv = allocS s := by unfold actM; rw [if_pos m0]
   rw [e]
   exact act_0 x0 x1 x2 xv P4 p4 P5 p5 m0 h hR h0 ho hp hl hlb hv hf hsv
 by_cases m1 : x0.tmod 7 = 1
 · have e : actM s (x0.tmod 7) x1 x2 xv = putW s x1 x2 xv := by unfold actM; rw [if_neg m0, if_pos m1]
   rw [e]
   exact act_1 x0 x1 x2 xv P4 p4 P5 p5 m1 h hR h0 ho hp hl hlb hv hf hsv
 by_cases m2 : x0.tmod 7 = 2
 · have e : actM s (x0.tmod 7) x1 x2 xv = delW s x1 x2 := by unfold actM; rw [if_neg m0, if_neg m1, if_pos m2]
   rw [e]
   exact act_2 x0 x1 x2 xv P4 p4 P5 p5 m2 h hR h0 ho hp hl hlb hv hf hsv
 by_cases m3 : x0.tmod 7 = 3
 · have e : actM s (x0.tmod 7) x1 x2 xv = s := by unfold actM; rw [if_neg m0, if_neg m1, if_neg m2, if_pos m3]
   rw [e]
   exact act_3 x0 x1 x2 xv P4 p4 P5 p5 m3 h hR h0 ho hp hl hlb hv hf hsv
 by_cases m4 : x0.tmod 7 = 4
 · have e : actM s (x0.tmod 7) x1 x2 xv = rootW s x1 x2 := by unfold actM; rw [if_neg m0, if_neg m1, if_neg m2, if_neg m3, if_pos m4]
   rw [e]
   exact act_4 x0 x1 x2 xv P4 p4 P5 p5 m4 h hR h0 ho hp hl hlb hv hf hsv
 by_cases m5 : x0.tmod 7 = 5
 · have e : actM s (x0.tmod 7) x1 x2 xv = settleW s := by unfold actM; rw [if_neg m0, if_neg m1, if_neg m2, if_neg m3, if_neg m4, if_pos m5]
   rw [e]
   exact act_5 x0 x1 x2 xv P4 p4 P5 p5 m5 h hR h0 ho hp hl hlb hv hf hsv
 · have e : actM s (x0.tmod 7) x1 x2 xv = resetW s := by unfold actM; rw [if_neg m0, if_neg m1, if_neg m2, if_neg m3, if_neg m4, if_neg m5]
   rw [e]
   exact act_6 x0 x1 x2 xv P4 p4 P5 p5 ⟨m0, m1, m2, m3, m4, m5⟩ h hR h0 ho hp hl hlb hv hf hsv
theorem actM_ok {s : WS} (m x1 x2 : Int) (xv : S35) (ho : OkS s) (hf : fewV xv) : OkS (actM s m x1 x2 xv) := by
 unfold actM
 split; exact ok_alloc ho
 split; exact ok_put ho x1 x2 xv hf
 split; exact ok_del ho x1 x2
 split; exact ho
 split; exact ok_root ho x1 x2
 split; exact ok_settle ho
 exact ok_reset ho
theorem actM_pl {s : WS} (m x1 x2 : Int) (xv : S35) (hp : PlW s) : PlW (actM s m x1 x2 xv) := by
 unfold actM
 split; exact plw_alloc hp
 split; exact plw_put hp x1 x2 xv
 split; exact plw_del hp x1 x2
 split; exact hp
 split; exact plw_root hp x1 x2
 split; exact plw_settle hp
 exact plw_reset hp
theorem actM_len {s : WS} (m x1 x2 : Int) (xv : S35) (k : Nat) (h : s.now.length ≤ k ∧ s.base.length ≤ k) : (actM s m x1 x2 xv).now.length ≤ k + 1 ∧ (actM s m x1 x2 xv).base.length ≤ k + 1 := by
 unfold actM
 split
 · have := alloc_len s
   have hb : (allocS s).base = s.base := by unfold allocS; split; rfl; split <;> rfl
   rw [hb]; omega
 split
 · have hb : (putW s x1 x2 xv).base = s.base := by unfold putW; split <;> rfl
   rw [put_len, hb]; omega
 split
 · have hb : (delW s x1 x2).base = s.base := by unfold delW; split <;> rfl
   rw [del_len, hb]; omega
 split
 · omega
 split
 · have hb : (rootW s x1 x2).base = s.base := by unfold rootW; split <;> rfl
   rw [root_len, hb]; omega
 split
 · show s.now.length ≤ k + 1 ∧ s.now.length ≤ k + 1
   omega
 · show s.base.length ≤ k + 1 ∧ s.base.length ≤ k + 1
   omega
theorem few33s_l0 (d : List S37) (hd : d.length ≤ 60) : ∀ (r i : Nat), d.length - i = r → i ≤ d.length → ∃ b k0, (b = true → ∀ p ∈ d.drop i, (fewV p.f2 ∧ szV p.f2)) ∧ ∀ k, k0 ≤ k → binderylaw33_Few.l0 k d i = some b := by
 intro r
 induction r with
 | zero =>
   intro i hr hi
   refine ⟨true, 1, fun _ p hp => by rw [List.drop_eq_nil_of_le (by omega)] at hp; simp at hp, fun k hk => ?_⟩
   obtain ⟨k, rfl⟩ : ∃ j, k = j + 1 := ⟨k - 1, by omega⟩
   unfold binderylaw33_Few.l0
   rw [if_neg (by omega)]
 | succ r ihr =>
   intro i hr hi
   obtain ⟨b1, k1, g1, h1⟩ := few_all (d.getD i z37).f2 60 (by omega) (by omega)
   obtain ⟨b2, k2, g2, h2⟩ := ihr (i + 1) (by omega) (by omega)
   have e : rd_T37 d (i : Int) = d.getD i z37 := rfl
   have hw : wrap64 ((i : Int) + 1) = ((i + 1 : Nat) : Int) := by unfold wrap64; omega
   have hlt : i < d.length := by omega
   refine ⟨if b1 = true then b2 else false, max k1 k2 + 1, fun h p hp => ?_, fun k hk => ?_⟩
   · cases b1 with
     | false => simp at h
     | true =>
       have h' : b2 = true := by simpa using h
       rw [List.drop_eq_getElem_cons hlt] at hp
       rcases List.mem_cons.1 hp with rfl | hp
       · have := (g1 rfl).2
         rw [List.getD_eq_getElem?_getD, List.getElem?_eq_getElem hlt] at this
         exact this
       · exact g2 h' p hp
   · obtain ⟨k, rfl⟩ : ∃ j, k = j + 1 := ⟨k - 1, by omega⟩
     unfold binderylaw33_Few.l0
     rw [if_pos (by omega), if_pos (by omega), e, h1 k (by omega), Option.bind_some, hw, h2 k (by omega)]
     cases b1 <;> rfl
theorem few33s_all (d : List S37) : ∃ b k, (b = true → d.length ≤ 60 ∧ ∀ p ∈ d, (fewV p.f2 ∧ szV p.f2)) ∧ binderylaw33_Few.f k d = some b := by
 by_cases hd : (d.length : Int) > 60
 · exact ⟨false, 0, (fun h => by cases h), by rw [few33_f, if_pos hd]⟩
 · obtain ⟨b, k0, g, h⟩ := few33s_l0 d (by omega) d.length 0 (by omega) (by omega)
   exact ⟨b, k0, fun hb => ⟨by omega, by simpa using g hb⟩, by rw [few33_f, if_neg hd]; exact h k0 (Nat.le_refl _)⟩
def c67 (x : Nat × S69) : S67 := ⟨(x.1 : Int), x.2.f0, !x.2.f1, x.2.f2⟩
theorem crow_read {b : Nat} {v : Value} {xs : List (Nat × RS)} {W : World} (h : CRow b v xs W) : ∃ A c, v = .slice A xs.length c ∧ Kd.C k67 W A xs.length (xs.map fun x => c67 (strC x)) := by
 obtain ⟨A, c, hv, _⟩ := own_slice h.1
 subst hv
 cases hxs : xs.length with
 | zero => exact ⟨A, c, rfl, by rw [List.length_eq_zero_iff.1 hxs]; exact ⟨rfl, by decide, fun h => absurd h (by decide)⟩⟩
 | succ m =>
   have ho := h.1
   rw [hxs] at ho
   obtain ⟨g, c', hv⟩ := ownsRow_succ ho
   injection hv with hA _ hc
   subst hA
   subst hc
   refine ⟨_, _, rfl, ?_⟩
   have hmax := own_max ho
   refine ⟨by rw [List.length_map, hxs], hmax, fun _ => ⟨⟨g, 0, none⟩, rfl, fun j p hj => ?_⟩⟩
   have hjl : j < xs.length := by
    have := (List.getElem?_eq_some_iff.1 hj).1
    simpa using this
   rw [List.getElem?_map, List.getElem?_eq_getElem hjl] at hj
   injection hj with hj
   have hy := h.2 xs[j] (List.getElem_mem hjl)
   subst hj
   refine ⟨cellsC xs[j], rfl, k67_mk W (c67 (strC xs[j])) hy.has.1 hy.has.2.1 hy.has.2.2.1 hy.has.2.2.2, fun i u hi => ?_⟩
   have hi9 : i < 9 := (List.getElem?_eq_some_iff.1 hi).1
   have e : (⟨g, 0, none⟩ : Addr).add (j * 9 + i) = ⟨g, j * 9 + i, none⟩ := by unfold Addr.add; split <;> simp_all
   show W.cell? ((⟨g, 0, none⟩ : Addr).add (j * 9 + i)) = some u
   rw [e, ho.cellAt (j * 9 + i) (by omega), flatC_get _ _ _ hjl hi9, List.getD_eq_getElem?_getD, List.getElem?_eq_getElem hjl]
   exact hi
theorem act_cells {b wb : Nat} {X : Nat → Prop} {s : WS} {R : RL} {W : World} (nN nB : Nat) (hN : nN = R.rsN.length) (hB : nB = R.rsB.length) (x0 x1 x2 : Int) (xv : S35) (P4 : Option Addr) (p4 : Nat) (P5 : Option Addr) (p5 : Nat) (h : Wk b wb X s W) (hR : RefIs X R s W) (h0 : b ≤ W.heap.size) (ho : OkS s) (hp : PlW s) (hl : s.now.length ≤ 70000) (hlb : s.base.length ≤ 70000) (hv : HasV xv P4 p4 P5 p5 W) (hf : fewV xv) (hsv : szV xv) (s2 : WS) (hs2 : s2 = actM s (x0.tmod 7) x1 x2 xv) :
 Calls Try.prog 28 #[.pointer (some ⟨wb, 0, none⟩), .agg #[.slice (some ⟨R.gN, 0, none⟩) nN R.cN, .int .i64 s.rn, .int .i64 s.rg, .slice (some ⟨R.gB, 0, none⟩) nB R.cB, .int .i64 s.bn, .int .i64 s.bg, .int .i64 s.most], .agg #[.int .u8 x0, .int .i64 x1, .int .i64 x2, .int .i64 xv.f0, .int .i64 xv.f1, .int .i64 xv.f2, .string xv.f3, .slice P4 xv.f4.length p4, .slice P5 xv.f5.length p5]] W fun e w' => ∃ (R2 : RL) (X2 : Nat → Prop) (n1 n2 : Nat), e = .returned (.tuple #[.agg #[.slice (some ⟨R2.gN, 0, none⟩) n1 R2.cN, .int .i64 s2.rn, .int .i64 s2.rg, .slice (some ⟨R2.gB, 0, none⟩) n2 R2.cB, .int .i64 s2.bn, .int .i64 s2.bg, .int .i64 s2.most], .bool true]) ∧ n1 = R2.rsN.length ∧ n2 = R2.rsB.length ∧ Wk b wb X2 s2 w' ∧ RefIs X2 R2 s2 w' ∧ (∀ k, X k → X2 k) ∧ Mv b X W w' := by
 subst hN
 subst hB
 subst hs2
 refine (act_all x0 x1 x2 xv P4 p4 P5 p5 h hR h0 ho hp hl hlb hv hf hsv).mono ?_
 rintro e w' ⟨R2, X2, he, h1, h2, h3, h4⟩
 exact ⟨R2, X2, _, _, he, rfl, rfl, h1, h2, h3, h4⟩
def plT : Bool × List (List Nat × List Nat) := (true, [([], []), ([0], [0]), ([1], [1]), ([2], [2]), ([3, 2, 2], [2, 3]), ([2], [2]), ([5, 2], [2, 5]), ([6, 2], [2, 6]), ([4, 7, 4, 2], [2, 4, 7]), ([8, 2], [2, 8]), ([2, 9], [2, 9]), ([10, 8], [10]), ([11], [11]), ([12, 11, 11], [11, 12]), ([11], [11]), ([14, 11], [11, 14]), ([15, 11], [11, 15]), ([13, 16, 11], [11, 13, 16]), ([11, 17], [11, 17]), ([18, 13], [18]), ([19], [19]), ([20, 19, 19], [19, 20]), ([19], [19]), ([22, 21, 19], [19, 22]), ([21, 23, 23, 19], [19, 21, 23]), ([24, 19], [19, 24]), ([19, 25], [19, 25]), ([26, 24], [26]), ([27], [27]), ([28, 27, 27], [27, 28]), ([27], [27]), ([30, 29, 27], [27, 30]), ([29, 31, 27], [27, 29, 31]), ([27, 32], [27, 32])])
def plB : List Nat := [0, 1, 3, 7, 15, 7, 39, 103, 255, 511, 1023, 2047, 4095, 8191, 4095, 20479, 53247, 131071, 262143, 524287, 1048575, 2097151, 1048575, 8388607, 16777215, 33554431, 67108863, 134217727, 268435455, 536870911, 268435455, 2147483647, 4294967295, 8589934591]
theorem pltab : rtab .any (opsOf Try.f4 14) = plT := by kernel_rfl
theorem plbits : waitsOk plT.2 plB = true := by kernel_rfl
theorem len_rs (l : List RS) : l.length = (l.map fun y => y.x).length := by simp
theorem map_cs (l : List (Nat × RS)) : (l.map fun x => c67 (strC x)) = (l.map strC).map c67 := by simp
theorem len_cs (l : List (Nat × RS)) : l.length = (l.map strC).length := by simp
set_option maxHeartbeats 40000000 in
set_option maxRecDepth 100000 in
theorem plays_calls (b0 : List S69) (l : List S37) (A0 : Option Addr) (c0 : Nat) (A1 : Option Addr) (c1 : Nat) (rn rg most : Int) (w : World) (hc0 : b0.length ≤ c0) (hr0 : Kd.C k69 w A0 b0.length b0) (hc1 : l.length ≤ c1) (hr1 : Kd.C k37 w A1 l.length l) :
 Calls Try.prog 4 #[.slice A0 b0.length c0, .agg #[.int .i64 rn, .int .i64 rg], .int .i64 most, .slice A1 l.length c1] w fun e w' => e = .returned (.bool true) ∧ RowKit.Below w.heap.size w w' := by
 have hu28 := Try.underlying28
 have hu23 := Try.underlying23
 have hu35 := Try.underlying35
 have hu37 := Try.underlying37
 have hu22 := Try.underlying22
 have hu46 := Try.underlying46
 have hu49 := Try.underlying49
 have hu51 := Try.underlying51
 obtain ⟨q0, kf0, hbf0, hkf0⟩ := small33_all b0
 obtain ⟨q1, kf1, hbf1, hkf1⟩ := few33s_all l
 have HR0 := A_ hr0
 have HR1 := A_ hr1
 have HQ0 := A_ hbf0
 have HQ1 := A_ hbf1
 have K0 := A_ (fun (W : World) (hb : RowKit.Below w.heap.size w W) => binderylaw33_Small.calls kf0 A0 c0 b0 q0 W (Kd.C_below hr0 hb) hc0 hkf0)
 have K1 := A_ (fun (W : World) (hb : RowKit.Below w.heap.size w W) => binderylaw33_Few.calls kf1 A1 c1 l q1 W (Kd.C_below hr1 hb) hc1 hkf1)
 have HB := A_ (below_alloc (RowKit.Below.refl w.heap.size w) (.cells #[.int .i64 rn, .int .i64 rg] 28))
 have BR := A_ (blk_new w (.cells #[.int .i64 rn, .int .i64 rg] 28))
 clear hr0 hr1 hbf0 hbf1 hkf0 hkf1 hc0 hc1
 go_enter Try.func4, Try.ntmps4
 go_wp2_with fail
 refine Calls.mono (K0.out _ HB.out) ?_
 rintro e w1 ⟨rfl, hb⟩
 replace HB := A_ (below_step HB.out hb)
 replace BR := A_ (blk_below BR.out hb)
 clear hb K0
 cases q0
 case false =>
  go_wp2_with fail
  refine Calls.mono (works_calls _) ?_
  rintro e we ⟨rfl, hbe⟩
  have HE := A_ (HB.out.trans (hbe.mono HB.out.size))
  clear hbe
  go_wp2
  go_ret
  exact ⟨rfl, HE.out⟩
 go_wp2_with fail
 refine Calls.mono (K1.out w1 HB.out) ?_
 rintro e w2 ⟨rfl, hb⟩
 replace HB := A_ (below_step HB.out hb)
 replace BR := A_ (blk_below BR.out hb)
 clear hb K1
 cases q1
 case false =>
  go_wp2_with fail
  refine Calls.mono (works_calls _) ?_
  rintro e we ⟨rfl, hbe⟩
  have HE := A_ (HB.out.trans (hbe.mono HB.out.size))
  clear hbe
  go_wp2
  go_ret
  exact ⟨rfl, HE.out⟩
 have HF := A_ (And.intro (HQ0.out (by first | exact rfl | trivial)) (HQ1.out (by first | exact rfl | trivial)))
 have HNW := A_ (fun (W : World) (hb : RowKit.Below w.heap.size w W) (he : newE b0 rn rg most = 0) => L_new (c := c0) (rn := rn) (rg := rg) (most := most) (w := W) (Kd.C_below HR0.out hb) (by have := HF.out.1.1; omega) HF.out.1.2 he)
 have HNB := A_ (fun (W : World) (hb : RowKit.Below w.heap.size w W) (he : newE b0 rn rg most ≠ 0) => L_new_bad (c := c0) (rn := rn) (rg := rg) (most := most) (w := W) (Kd.C_below HR0.out hb) (by have := HF.out.1.1; omega) HF.out.1.2 he)
 have HRN := A_ (fun (W : World) (hb : RowKit.Below w.heap.size w W) => ref_new b0 A0 c0 rn rg most W (Kd.C_below HR0.out hb) (by have := HF.out.1.1; omega) HF.out.1.2)
 have HE0 := A_ (show newE b0 rn rg most = 0 → OkS (newW b0 rn rg most) from fun he => ok_new HF.out.1.2 he)
 have HW0 := A_ (show (newW b0 rn rg most).now.length = max 1 b0.length ∧ (newW b0 rn rg most).base = (newW b0 rn rg most).now ∧ PlW (newW b0 rn rg most) from ⟨new_len b0, rfl, plw_new b0 rn rg most⟩)
 unfold RNewPost at HRN
 obtain ⟨s0, hs0⟩ : ∃ s0, s0 = newW b0 rn rg most := ⟨_, rfl⟩
 rw [← hs0] at HE0 HW0
 simp only [← hs0] at HNW HRN
 obtain ⟨ne, hne⟩ : ∃ ne, ne = newE b0 rn rg most := ⟨_, rfl⟩
 simp only [← hne] at HNW HNB HRN
 rw [← hne] at HE0
 have HL60 := A_ (show b0.length ≤ 60 ∧ l.length ≤ 60 ∧ s0.now.length ≤ 61 ∧ s0.base.length ≤ 61 from ⟨HF.out.1.1, HF.out.2.1, by rw [HW0.out.1]; have := HF.out.1.1; omega, by rw [HW0.out.2.1, HW0.out.1]; have := HF.out.1.1; omega⟩)
 replace HF := A_ (show True ∧ l.length ≤ 60 ∧ ∀ p ∈ l, fewV p.f2 ∧ szV p.f2 from ⟨trivial, HF.out.2⟩)
 obtain ⟨NB, hNB⟩ : ∃ n, n = b0.length := ⟨_, rfl⟩
 obtain ⟨N1, hN1⟩ : ∃ n, n = l.length := ⟨_, rfl⟩
 rw [← hNB, ← hN1] at HL60
 simp only [← hNB] at HNW HNB HRN
 rw [← hNB, ← hN1]
 have HN1 := A_ hN1
 clear HQ0 HQ1 hs0 hne hNB hN1
 obtain ⟨r0, r1⟩ := box2 BR.out
 have hlr := blk_lt BR.out
 by_cases hz : ne = 0
 case neg =>
  have KN := A_ (fun W hb => HNB.out W hb hz)
  have KR := A_ (fun (W : World) (hb : RowKit.Below w.heap.size w W) => (HRN.out W hb).mono (fun e w' h => h.resolve_right (fun h' => hz h'.1)))
  have hnb : (ne == 0) = false := by simpa using hz
  clear HNW HNB HE0 HRN hz
  go_wp2_with fail
  refine Calls.mono (KN.out _ HB.out) ?_
  rintro e w4 ⟨rfl, hb⟩
  replace HB := A_ (below_step HB.out hb)
  replace BR := A_ (blk_below BR.out hb)
  clear hb KN r0 r1 hlr
  obtain ⟨r0, r1⟩ := box2 BR.out
  have hlr := blk_lt BR.out
  go_wp2_with fail
  refine Calls.mono (KR.out _ HB.out) ?_
  rintro e w5 ⟨-, rfl, hb⟩
  replace HB := A_ (below_alloc (below_step HB.out hb) (.cells #[.slice none 0 0, .int .i64 0, .int .i64 0, .slice none 0 0, .int .i64 0, .int .i64 0, .int .i64 0] 51))
  clear hb KR r0 r1 hlr BR
  go_wp2_with fail
  refine Calls.mono (works_calls _) ?_
  rintro e we ⟨rfl, hbe⟩
  have HE := A_ (HB.out.trans (hbe.mono HB.out.size))
  clear hbe
  go_wp2
  go_ret
  exact ⟨rfl, HE.out⟩
 case pos =>
  subst hz
  have KN := A_ (fun W hb => HNW.out W hb rfl)
  have KR := A_ (fun (W : World) (hb : RowKit.Below w.heap.size w W) => (HRN.out W hb).mono (fun e w' h => h.resolve_left (fun h' => h'.1 rfl)))
  have HOK := A_ (HE0.out rfl)
  clear HNW HNB HE0 HRN
  go_wp2_with fail
  refine Calls.mono (KN.out _ HB.out) ?_
  rintro e w4 ⟨wb, rfl, hk, hb⟩
  have HWb := A_ HB.out.size
  obtain ⟨b, hbb⟩ : ∃ b, b = w2.heap.size := ⟨_, rfl⟩
  rw [← hbb] at hk HWb
  have HWc := A_ (show b ≤ w4.heap.size by rw [hbb]; exact hb.size)
  have HK4 := A_ hk
  replace HB := A_ (below_step HB.out hb)
  replace BR := A_ (blk_below BR.out hb)
  clear hb KN r0 r1 hlr hk hbb
  obtain ⟨r0, r1⟩ := box2 BR.out
  have hlr := blk_lt BR.out
  go_wp2_with fail
  refine Calls.mono (KR.out _ HB.out) ?_
  rintro e w5 ⟨-, R, rfl, hR, hb⟩
  obtain ⟨m1, hm1⟩ : ∃ m1, m1 = R.rsN.length := ⟨_, rfl⟩
  obtain ⟨m2, hm2⟩ : ∃ m2, m2 = R.rsB.length := ⟨_, rfl⟩
  simp only [RL.cells]
  rw [← hm1, ← hm2]
  have hb5 := below_step hb (below_alloc (RowKit.Below.refl w5.heap.size w5) (.cells #[.slice (some ⟨R.gN, 0, none⟩) m1 R.cN, .int .i64 s0.rn, .int .i64 s0.rg, .slice (some ⟨R.gB, 0, none⟩) m2 R.cB, .int .i64 s0.bn, .int .i64 s0.bg, .int .i64 s0.most] 51))
  have HM0 := A_ (And.intro hm1 hm2)
  have HBX := A_ (show w.heap.size ≤ w5.heap.size from Nat.le_trans HB.out.size hb.size)
  replace HB := A_ (below_step HB.out hb5)
  have HKI := A_ (HK4.out.fresh hb5)
  have HRI := A_ (RefIs.into (X := fun _ => False) (m := w4.heap.size) (⟨(hR.below (below_alloc (RowKit.Below.refl w5.heap.size w5) (.cells #[.slice (some ⟨R.gN, 0, none⟩) m1 R.cN, .int .i64 s0.rn, .int .i64 s0.rg, .slice (some ⟨R.gB, 0, none⟩) m2 R.cB, .int .i64 s0.bn, .int .i64 s0.bg, .int .i64 s0.most] 51))).1, hR.2.1, (hR.below (below_alloc (RowKit.Below.refl w5.heap.size w5) (.cells #[.slice (some ⟨R.gN, 0, none⟩) m1 R.cN, .int .i64 s0.rn, .int .i64 s0.rg, .slice (some ⟨R.gB, 0, none⟩) m2 R.cB, .int .i64 s0.bn, .int .i64 s0.bg, .int .i64 s0.most] 51))).2.2.1, hR.2.2.2.1, .inr hR.2.2.2.2.1, .inr hR.2.2.2.2.2⟩ : RefIs (fun k => False ∨ w4.heap.size ≤ k) R s0 (w5.alloc (.cells #[.slice (some ⟨R.gN, 0, none⟩) m1 R.cN, .int .i64 s0.rn, .int .i64 s0.rg, .slice (some ⟨R.gB, 0, none⟩) m2 R.cB, .int .i64 s0.bn, .int .i64 s0.bg, .int .i64 s0.most] 51))))
  have BX0 := A_ (blk_new w5 (.cells #[.slice (some ⟨R.gN, 0, none⟩) m1 R.cN, .int .i64 s0.rn, .int .i64 s0.rg, .slice (some ⟨R.gB, 0, none⟩) m2 R.cB, .int .i64 s0.bn, .int .i64 s0.bg, .int .i64 s0.most] 51))
  have HX0 := A_ (show (fun k => False ∨ (w4.heap.size ≤ k ∧ k < (w5.alloc (.cells #[.slice (some ⟨R.gN, 0, none⟩) m1 R.cN, .int .i64 s0.rn, .int .i64 s0.rg, .slice (some ⟨R.gB, 0, none⟩) m2 R.cB, .int .i64 s0.bn, .int .i64 s0.bg, .int .i64 s0.most] 51)).heap.size)) w5.heap.size from .inr ⟨hb.size, by simp⟩)
  have HBB := A_ (show b ≤ w5.heap.size from Nat.le_trans HWc.out hb.size)
  obtain ⟨bx, hbx⟩ : ∃ bx, bx = w5.heap.size := ⟨_, rfl⟩
  rw [← hbx] at HBX BX0 HX0 HBB
  have HS0 := A_ (show OkS s0 ∧ PlW s0 ∧ s0.now.length ≤ 61 + 0 ∧ s0.base.length ≤ 61 + 0 from ⟨HOK.out, HW0.out.2.2, HL60.out.2.2.1, HL60.out.2.2.2⟩)
  have HBX5 := A_ hbx
  clear hb hb5 hR hm1 hm2 KR r0 r1 hlr BR HK4
  go_upto_region 9 with fail
  rw [← HBX5.out]
  clear hbx
  generalize hw6 : w5.alloc (.cells #[.slice (some ⟨R.gN, 0, none⟩) m1 R.cN, .int .i64 s0.rn, .int .i64 s0.rg, .slice (some ⟨R.gB, 0, none⟩) m2 R.cB, .int .i64 s0.bn, .int .i64 s0.bg, .int .i64 s0.most] 51) = w6 at *
  clear hw6
  go_wp2
  go_loopw [13] (fun i wr => ∃ (k : Nat) (s : WS) (R : RL) (X : Nat → Prop) (m1 m2 : Nat), k ≤ N1 ∧ i = .int .i64 k ∧ Aside0 (OkS s ∧ PlW s ∧ s.now.length ≤ 61 + k ∧ s.base.length ≤ 61 + k) ∧ Aside0 (m1 = R.rsN.length ∧ m2 = R.rsB.length) ∧ Aside0 (Wk b wb X s wr) ∧ Aside0 (RefIs X R s wr) ∧ Aside0 (wr.heap[bx]? = some (.cells #[.slice (some ⟨R.gN, 0, none⟩) m1 R.cN, .int .i64 s.rn, .int .i64 s.rg, .slice (some ⟨R.gB, 0, none⟩) m2 R.cB, .int .i64 s.bn, .int .i64 s.bg, .int .i64 s.most] 51 (0, 0))) ∧ Aside0 (RowKit.Below w.heap.size w wr) ∧ Aside0 (X bx)) (fun i _ => N1 - (intOf i).toNat)
  case atStart => exact ⟨0, s0, R, _, m1, m2, Nat.zero_le _, rfl, HS0, HM0, HKI, HRI, BX0, HB, HX0⟩
  case round =>
   clear HKI HRI BX0 HB HX0 HS0 HM0 HBX5
   obtain ⟨k, s, R, X, m1, m2, hk, rfl, HS, HM, HK, HRF, BX, HB, HXB⟩ := hrel
   by_cases hlt : k < N1
   · obtain ⟨ad, P4, p4, P5, p5, hA, y0, y1, y2, y3, y4, y5, y6, y7, y8, lp4, gp4, lp5, gp5⟩ := at_T37 HR1.out (k : Int) (by omega) (by have := HN1.out; omega)
     subst hA
     simp only [rd_T37, Int.toNat_natCast] at y0 y1 y2 y3 y4 y5 y6 y7 y8 lp4 gp4 lp5 gp5
     have hxf := HF.out.2.2 _ (getD_mem l k (by have := HN1.out; omega) z37)
     generalize l.getD k z37 = x at *
     obtain ⟨x0, ⟨x1, x2⟩, xv⟩ := x
     simp only [] at y0 y1 y2 y3 y4 y5 y6 y7 y8 lp4 gp4 lp5 gp5 hxf
     have hwk : wrap64 ((k : Int) + 1) = (k : Int) + 1 := by have := HL60.out; unfold wrap64; omega
     have HWK := A_ hwk
     have hNm : N1 ≤ 9223372036854775807 := by have := HL60.out; omega
     obtain ⟨s2, hs2⟩ : ∃ s2, s2 = actM s (x0.tmod 7) x1 x2 xv := ⟨_, rfl⟩
     have HV := A_ (show HasV xv P4 p4 P5 p5 w from ⟨lp4, gp4, lp5, gp5⟩)
     have KACT := A_ (fun (Xa : Nat → Prop) (Wa : World) (hk : Wk b wb Xa s Wa) (hR : RefIs Xa R s Wa) (hb : RowKit.Below w.heap.size w Wa) (hbb : b ≤ Wa.heap.size) => act_cells m1 m2 HM.out.1 HM.out.2 x0 x1 x2 xv P4 p4 P5 p5 hk hR hbb HS.out.1 HS.out.2.1 (by have := HS.out.2.2.1; have := HL60.out; omega) (by have := HS.out.2.2.2; have := HL60.out; omega) (HV.out.below hb) hxf.1 hxf.2 s2 hs2)
     have HS2 := A_ (show OkS s2 ∧ PlW s2 ∧ s2.now.length ≤ 61 + (k + 1) ∧ s2.base.length ≤ 61 + (k + 1) from by
      rw [hs2]
      exact ⟨actM_ok _ x1 x2 xv HS.out.1 hxf.1, actM_pl _ x1 x2 xv HS.out.2.1, actM_len _ x1 x2 xv (61 + k) HS.out.2.2⟩)
     have hlbx : bx < wr.heap.size := blk_lt BX.out
     obtain ⟨u0, u1, u2, u3, u4, u5, u6⟩ := box7 BX.out
     have z0 := up_ HB.out.cell y0
     have z1 := up_ HB.out.cell y1
     have z2 := up_ HB.out.cell y2
     have z3 := up_ HB.out.cell y3
     have z4 := up_ HB.out.cell y4
     have z5 := up_ HB.out.cell y5
     have z6 := up_ HB.out.cell y6
     have z7 := up_ HB.out.cell y7
     have z8 := up_ HB.out.cell y8
     clear hwk hxf hs2 lp4 gp4 lp5 gp5
     go_upto_region 12 with fail
     go_cut [14, 15] (fun v14 v15 wc => ∃ (R2 : RL) (X2 : Nat → Prop) (bz n1 n2 : Nat), v14 = .pointer (some ⟨bz, 0, none⟩) ∧ v15 = .bool true ∧ Aside0 (n1 = R2.rsN.length ∧ n2 = R2.rsB.length) ∧ Aside0 (Wk b wb X2 s2 wc) ∧ Aside0 (RefIs X2 R2 s2 wc) ∧ Aside0 (wc.heap[bz]? = some (.cells #[.slice (some ⟨R2.gN, 0, none⟩) n1 R2.cN, .int .i64 s2.rn, .int .i64 s2.rg, .slice (some ⟨R2.gB, 0, none⟩) n2 R2.cB, .int .i64 s2.bn, .int .i64 s2.bg, .int .i64 s2.most] 51 (0, 0))) ∧ Aside0 (wc.heap[bx]? = some (.cells #[.slice (some ⟨R.gN, 0, none⟩) m1 R.cN, .int .i64 s.rn, .int .i64 s.rg, .slice (some ⟨R.gB, 0, none⟩) m2 R.cB, .int .i64 s.bn, .int .i64 s.bg, .int .i64 s.most] 51 (0, 0))) ∧ Aside0 (RowKit.Below w.heap.size w wc) ∧ Aside0 (X2 bx ∧ bx ≠ bz))
     case first =>
      refine start_ (n := 13) (S := (fun w' => w'.cell? ⟨bx, 0, none⟩ = some (.slice (some ⟨R.gN, 0, none⟩) m1 R.cN) ∧ w'.cell? ⟨bx, 1, none⟩ = some (.int .i64 s.rn) ∧ w'.cell? ⟨bx, 2, none⟩ = some (.int .i64 s.rg) ∧ w'.cell? ⟨bx, 3, none⟩ = some (.slice (some ⟨R.gB, 0, none⟩) m2 R.cB) ∧ w'.cell? ⟨bx, 4, none⟩ = some (.int .i64 s.bn) ∧ w'.cell? ⟨bx, 5, none⟩ = some (.int .i64 s.bg) ∧ w'.cell? ⟨bx, 6, none⟩ = some (.int .i64 s.most) ∧ w'.cell? (ad.add (k * 9)) = some (.int .u8 x0) ∧ w'.cell? ⟨(ad.add (k * 9)).block, (ad.add (k * 9)).off + 1, none⟩ = some (.int .i64 x1) ∧ w'.cell? ⟨(ad.add (k * 9)).block, (ad.add (k * 9)).off + 2, none⟩ = some (.int .i64 x2) ∧ w'.cell? ⟨(ad.add (k * 9)).block, (ad.add (k * 9)).off + 3, none⟩ = some (.int .i64 xv.f0) ∧ w'.cell? ⟨(ad.add (k * 9)).block, (ad.add (k * 9)).off + 4, none⟩ = some (.int .i64 xv.f1) ∧ w'.cell? ⟨(ad.add (k * 9)).block, (ad.add (k * 9)).off + 5, none⟩ = some (.int .i64 xv.f2) ∧ w'.cell? ⟨(ad.add (k * 9)).block, (ad.add (k * 9)).off + 6, none⟩ = some (.string xv.f3) ∧ w'.cell? ⟨(ad.add (k * 9)).block, (ad.add (k * 9)).off + 7, none⟩ = some (.slice P4 xv.f4.length p4) ∧ w'.cell? ⟨(ad.add (k * 9)).block, (ad.add (k * 9)).off + 8, none⟩ = some (.slice P5 xv.f5.length p5))) (ds := [12]) #[false, false, false, false, false, false, false, false, false, false, false, false, false] (by kernel_rfl) rfl rfl (by refine ⟨?_, ?_, ?_, ?_, ?_, ?_, ?_, ?_, ?_, ?_, ?_, ?_, ?_, ?_, ?_, ?_⟩ <;> go_simp) (fun hHeld => ?_)
      have HS := A_ hHeld
      clear hHeld
      refine pu_ 0 59 ?_
      refine ta_ 1 60 HS.out ?_
      refine pu_ 2 61 ?_
      refine pu_ 3 62 ?_
      refine pu_ 4 63 ?_
      refine ta_ 5 64 HS.out ?_
      obtain ⟨wd, hwd⟩ : ∃ wd, wd = wr.drew := ⟨_, rfl⟩
      rw [← hwd] at HS ⊢
      have hbd : RowKit.Below wr.heap.size wr wd := by rw [hwd]; exact (RowKit.Below.refl _ wr).drew
      have HKa := A_ (HK.out.below hbd)
      have HRa := A_ (HRF.out.below hbd)
      have HBa := A_ (HB.out.trans (hbd.mono HB.out.size))
      have BXa := A_ (blk_below BX.out hbd)
      have HWD := A_ HBa.out.size
      clear hbd hwd u0 u1 u2 u3 u4 u5 u6
      refine two_ (i := 6) (j := 10) (Ni := some 65) (Nj := some 14) #[true, true, true, true, true, true, true, false, false, false, false, false, false] #[true, true, true, true, true, true, false, false, false, false, true, false, false] rfl rfl rfl rfl (by kernel_rfl) (by decide) (by decide) (fun K hK => ?_) (fun K hK => ?_)
      · refine cl_ Try.func28 #[.pointer (some ⟨wb, 0, none⟩), .agg #[.slice (some ⟨R.gN, 0, none⟩) m1 R.cN, .int .i64 s.rn, .int .i64 s.rg, .slice (some ⟨R.gB, 0, none⟩) m2 R.cB, .int .i64 s.bn, .int .i64 s.bg, .int .i64 s.most], .agg #[.int .u8 x0, .int .i64 x1, .int .i64 x2, .int .i64 xv.f0, .int .i64 xv.f1, .int .i64 xv.f2, .string xv.f3, .slice P4 xv.f4.length p4, .slice P5 xv.f5.length p5]] ?_
        refine Calls.mono (KACT.out _ _ HKa.out HRa.out HBa.out (Nat.le_trans HBB.out (Nat.le_of_lt (blk_lt BXa.out)))) ?_
        rintro e w6 ⟨R2, X2, n1, n2, rfl, hn1, hn2, hk2, hR2, hXX, hm⟩
        refine ⟨_, rfl, ?_⟩
        have HB6 := A_ (HBa.out.trans (hm.1.mono HWb.out))
        have BX6 := A_ (hm.blk BXa.out)
        have HP6 := A_ (And.intro hn1 (And.intro hn2 (And.intro hk2 (And.intro hR2 (And.intro hXX hm)))))
        have hl6 : bx < w6.heap.size := blk_lt BX6.out
        clear hn1 hn2 hk2 hR2 hXX hm
        obtain ⟨u0, u1, u2, u3, u4, u5, u6⟩ := box7 BX6.out
        refine hK.out _ _ ⟨u0, u1, u2, u3, u4, u5, u6, up_ HB6.out.cell y0, up_ HB6.out.cell y1, up_ HB6.out.cell y2, up_ HB6.out.cell y3, up_ HB6.out.cell y4, up_ HB6.out.cell y5, up_ HB6.out.cell y6, up_ HB6.out.cell y7, up_ HB6.out.cell y8⟩ (fun hH2 => ?_)
        replace HS := A_ hH2
        clear hK K hH2 HKa HRa
        refine nm_ (some 65) ?_
        refine pu_ 7 58 ?_
        refine pu_ 8 66 ?_
        refine pu_ 9 67 ?_
        refine on_ 10 (some 14) (fun K hK => ?_)
        refine value_ (v := .pointer (some ⟨w6.heap.size, 0, none⟩)) (w1 := w6.alloc (.cells #[.slice none 0 0, .int .i64 0, .int .i64 0, .slice none 0 0, .int .i64 0, .int .i64 0, .int .i64 0] 51)) (by rfl) rfl (by first | (go_simp; done) | (go_simp; rfl)) ?_
        have hb_ := below_alloc (RowKit.Below.refl _ w6) (.cells #[.slice none 0 0, .int .i64 0, .int .i64 0, .slice none 0 0, .int .i64 0, .int .i64 0, .int .i64 0] 51)
        refine hK.out _ _ ⟨up_ hb_.cell HS.out.1, up_ hb_.cell HS.out.2.1, up_ hb_.cell HS.out.2.2.1, up_ hb_.cell HS.out.2.2.2.1, up_ hb_.cell HS.out.2.2.2.2.1, up_ hb_.cell HS.out.2.2.2.2.2.1, up_ hb_.cell HS.out.2.2.2.2.2.2.1, up_ hb_.cell HS.out.2.2.2.2.2.2.2.1, up_ hb_.cell HS.out.2.2.2.2.2.2.2.2.1, up_ hb_.cell HS.out.2.2.2.2.2.2.2.2.2.1, up_ hb_.cell HS.out.2.2.2.2.2.2.2.2.2.2.1, up_ hb_.cell HS.out.2.2.2.2.2.2.2.2.2.2.2.1, up_ hb_.cell HS.out.2.2.2.2.2.2.2.2.2.2.2.2.1, up_ hb_.cell HS.out.2.2.2.2.2.2.2.2.2.2.2.2.2.1, up_ hb_.cell HS.out.2.2.2.2.2.2.2.2.2.2.2.2.2.2.1, up_ hb_.cell HS.out.2.2.2.2.2.2.2.2.2.2.2.2.2.2.2⟩ (fun hH2 => ?_)
        replace HS := A_ hH2
        clear hK K hH2 hb_
        refine nm_ (some 14) ?_
        have hb_ := below_alloc (RowKit.Below.refl _ w6) (.cells #[.slice (some ⟨R2.gN, 0, none⟩) n1 R2.cN, .int .i64 s2.rn, .int .i64 s2.rg, .slice (some ⟨R2.gB, 0, none⟩) n2 R2.cB, .int .i64 s2.bn, .int .i64 s2.bg, .int .i64 s2.most] 51)
        have BXf := A_ (blk_below BX6.out hb_)
        have HBf := A_ (HB6.out.trans (hb_.mono HB6.out.size))
        have BZf := A_ (blk_new w6 (.cells #[.slice (some ⟨R2.gN, 0, none⟩) n1 R2.cN, .int .i64 s2.rn, .int .i64 s2.rg, .slice (some ⟨R2.gB, 0, none⟩) n2 R2.cB, .int .i64 s2.bn, .int .i64 s2.bg, .int .i64 s2.most] 51))
        have HKf := A_ (HP6.out.2.2.1.below hb_)
        have HRf := A_ (HP6.out.2.2.2.1.below hb_)
        obtain ⟨t0, t1, t2, t3, t4, t5, t6⟩ := box7 (blk_new w6 (.cells #[.slice none 0 0, .int .i64 0, .int .i64 0, .slice none 0 0, .int .i64 0, .int .i64 0, .int .i64 0] 51))
        have hH3 := HS.out
        clear hb_ u0 u1 u2 u3 u4 u5 u6
        obtain ⟨u0, u1, u2, u3, u4, u5, u6⟩ := box7 BXf.out
        refine on_ 11 (none) (fun K hK => ?_)
        refine skip_ (w1 := ?_) (by rfl) rfl ?_ ?_
        rotate_left
        · go_simp
          rfl
        refine hK.out _ _ ⟨u0, u1, u2, u3, u4, u5, u6, up_ HBf.out.cell y0, up_ HBf.out.cell y1, up_ HBf.out.cell y2, up_ HBf.out.cell y3, up_ HBf.out.cell y4, up_ HBf.out.cell y5, up_ HBf.out.cell y6, up_ HBf.out.cell y7, up_ HBf.out.cell y8⟩ (fun hH2 => ?_)
        clear hK K hH2 HS hH3 t0 t1 t2 t3 t4 t5 t6
        refine chain_ [12] _ _ _ _ (⟨_, _, rfl, rfl, rfl⟩) (by kernel_rfl) (by decide) ?_
        go_wp2
        go_meet
        case rel => exact ⟨R2, X2, w6.heap.size, n1, n2, rfl, rfl, ⟨HP6.out.1, HP6.out.2.1⟩, HKf, HRf, BZf, BXf, HBf, ⟨HP6.out.2.2.2.2.1 _ HXB.out, by omega⟩⟩
      · refine value_ (v := .pointer (some ⟨wd.heap.size, 0, none⟩)) (w1 := wd.alloc (.cells #[.slice none 0 0, .int .i64 0, .int .i64 0, .slice none 0 0, .int .i64 0, .int .i64 0, .int .i64 0] 51)) (by rfl) rfl (by first | (go_simp; done) | (go_simp; rfl)) ?_
        have hb_ := below_alloc (RowKit.Below.refl _ wd) (.cells #[.slice none 0 0, .int .i64 0, .int .i64 0, .slice none 0 0, .int .i64 0, .int .i64 0, .int .i64 0] 51)
        refine hK.out _ _ ⟨up_ hb_.cell HS.out.1, up_ hb_.cell HS.out.2.1, up_ hb_.cell HS.out.2.2.1, up_ hb_.cell HS.out.2.2.2.1, up_ hb_.cell HS.out.2.2.2.2.1, up_ hb_.cell HS.out.2.2.2.2.2.1, up_ hb_.cell HS.out.2.2.2.2.2.2.1, up_ hb_.cell HS.out.2.2.2.2.2.2.2.1, up_ hb_.cell HS.out.2.2.2.2.2.2.2.2.1, up_ hb_.cell HS.out.2.2.2.2.2.2.2.2.2.1, up_ hb_.cell HS.out.2.2.2.2.2.2.2.2.2.2.1, up_ hb_.cell HS.out.2.2.2.2.2.2.2.2.2.2.2.1, up_ hb_.cell HS.out.2.2.2.2.2.2.2.2.2.2.2.2.1, up_ hb_.cell HS.out.2.2.2.2.2.2.2.2.2.2.2.2.2.1, up_ hb_.cell HS.out.2.2.2.2.2.2.2.2.2.2.2.2.2.2.1, up_ hb_.cell HS.out.2.2.2.2.2.2.2.2.2.2.2.2.2.2.2⟩ (fun hH2 => ?_)
        replace HS := A_ hH2
        have hwds : bx < wd.heap.size := blk_lt BXa.out
        have HKb := A_ (show Wk b wb (fun k => X k ∨ (wd.heap.size ≤ k ∧ k < (wd.alloc (.cells #[.slice none 0 0, .int .i64 0, .int .i64 0, .slice none 0 0, .int .i64 0, .int .i64 0, .int .i64 0] 51)).heap.size)) s (wd.alloc (.cells #[.slice none 0 0, .int .i64 0, .int .i64 0, .slice none 0 0, .int .i64 0, .int .i64 0, .int .i64 0] 51)) from HKa.out.fresh hb_)
        have HRb := A_ (show RefIs (fun k => X k ∨ (wd.heap.size ≤ k ∧ k < (wd.alloc (.cells #[.slice none 0 0, .int .i64 0, .int .i64 0, .slice none 0 0, .int .i64 0, .int .i64 0, .int .i64 0] 51)).heap.size)) R s (wd.alloc (.cells #[.slice none 0 0, .int .i64 0, .int .i64 0, .slice none 0 0, .int .i64 0, .int .i64 0, .int .i64 0] 51)) from ⟨(HRa.out.below hb_).1, HRa.out.2.1, (HRa.out.below hb_).2.2.1, HRa.out.2.2.2.1, .inl HRa.out.2.2.2.2.1, .inl HRa.out.2.2.2.2.2⟩)
        have BZb := A_ (blk_new wd (.cells #[.slice none 0 0, .int .i64 0, .int .i64 0, .slice none 0 0, .int .i64 0, .int .i64 0, .int .i64 0] 51))
        have HZB := A_ (show (fun k => X k ∨ (wd.heap.size ≤ k ∧ k < (wd.alloc (.cells #[.slice none 0 0, .int .i64 0, .int .i64 0, .slice none 0 0, .int .i64 0, .int .i64 0, .int .i64 0] 51)).heap.size)) wd.heap.size from .inr ⟨Nat.le_refl _, by simp⟩)
        replace HBa := A_ (HBa.out.trans (hb_.mono HBa.out.size))
        replace BXa := A_ (blk_below BXa.out hb_)
        have hXb := A_ (show (fun k => X k ∨ (wd.heap.size ≤ k ∧ k < (wd.alloc (.cells #[.slice none 0 0, .int .i64 0, .int .i64 0, .slice none 0 0, .int .i64 0, .int .i64 0, .int .i64 0] 51)).heap.size)) bx from .inl HXB.out)
        clear hK K hH2 hb_ HKa HRa
        refine nm_ (some 14) ?_
        refine on_ 6 (some 65) (fun K hK => ?_)
        refine cl_ Try.func28 #[.pointer (some ⟨wb, 0, none⟩), .agg #[.slice (some ⟨R.gN, 0, none⟩) m1 R.cN, .int .i64 s.rn, .int .i64 s.rg, .slice (some ⟨R.gB, 0, none⟩) m2 R.cB, .int .i64 s.bn, .int .i64 s.bg, .int .i64 s.most], .agg #[.int .u8 x0, .int .i64 x1, .int .i64 x2, .int .i64 xv.f0, .int .i64 xv.f1, .int .i64 xv.f2, .string xv.f3, .slice P4 xv.f4.length p4, .slice P5 xv.f5.length p5]] ?_
        refine Calls.mono (KACT.out _ _ HKb.out HRb.out HBa.out (Nat.le_trans HBB.out (Nat.le_of_lt (blk_lt BXa.out)))) ?_
        rintro e w6 ⟨R2, X2, n1, n2, rfl, hn1, hn2, hk2, hR2, hXX, hm⟩
        refine ⟨_, rfl, ?_⟩
        have HB6 := A_ (HBa.out.trans (hm.1.mono HWb.out))
        have BX6 := A_ (hm.blk BXa.out)
        have HP6 := A_ (And.intro hn1 (And.intro hn2 (And.intro hk2 (And.intro hR2 (And.intro hXX hm)))))
        have hl6 : bx < w6.heap.size := blk_lt BX6.out
        clear hn1 hn2 hk2 hR2 hXX hm
        obtain ⟨u0, u1, u2, u3, u4, u5, u6⟩ := box7 BX6.out
        refine hK.out _ _ ⟨u0, u1, u2, u3, u4, u5, u6, up_ HB6.out.cell y0, up_ HB6.out.cell y1, up_ HB6.out.cell y2, up_ HB6.out.cell y3, up_ HB6.out.cell y4, up_ HB6.out.cell y5, up_ HB6.out.cell y6, up_ HB6.out.cell y7, up_ HB6.out.cell y8⟩ (fun hH2 => ?_)
        replace HS := A_ hH2
        have BZ6 := A_ (HP6.out.2.2.2.2.2.blk BZb.out)
        clear hK K hH2 HKb HRb BZb
        refine nm_ (some 65) ?_
        refine pu_ 7 58 ?_
        refine pu_ 8 66 ?_
        refine pu_ 9 67 ?_
        obtain ⟨t0, t1, t2, t3, t4, t5, t6⟩ := box7 BZ6.out
        obtain ⟨fq0, fq1, fq2, fq3, fq4, fq5, fq6⟩ := frz7 BZ6.out
        have hzl := blk_lt BZ6.out
        have hbz := below_setcells (b := w.heap.size) (g := wd.heap.size) (X := w6) (Nat.le_trans (Nat.le_refl _) HWD.out) 0 [.slice (some ⟨R2.gN, 0, none⟩) n1 R2.cN, .int .i64 s2.rn, .int .i64 s2.rg, .slice (some ⟨R2.gB, 0, none⟩) n2 R2.cB, .int .i64 s2.bn, .int .i64 s2.bg, .int .i64 s2.most]
        have BXf := A_ (show (w6.setCells wd.heap.size 0 [.slice (some ⟨R2.gN, 0, none⟩) n1 R2.cN, .int .i64 s2.rn, .int .i64 s2.rg, .slice (some ⟨R2.gB, 0, none⟩) n2 R2.cB, .int .i64 s2.bn, .int .i64 s2.bg, .int .i64 s2.most]).heap[bx]? = _ from (cells_other (by omega) hl6 [.slice (some ⟨R2.gN, 0, none⟩) n1 R2.cN, .int .i64 s2.rn, .int .i64 s2.rg, .slice (some ⟨R2.gB, 0, none⟩) n2 R2.cB, .int .i64 s2.bn, .int .i64 s2.bg, .int .i64 s2.most] 0).trans BX6.out)
        have HBf := A_ (HB6.out.trans hbz)
        have e6 := set_same7 (.slice (some ⟨R2.gN, 0, none⟩) n1 R2.cN) (.int .i64 s2.rn) (.int .i64 s2.rg) (.slice (some ⟨R2.gB, 0, none⟩) n2 R2.cB) (.int .i64 s2.bn) (.int .i64 s2.bg) (.int .i64 s2.most) BZ6.out
        have BZf := A_ e6
        have HKf := A_ (HP6.out.2.2.1.box (HP6.out.2.2.2.2.1 _ HZB.out) 0 [.slice (some ⟨R2.gN, 0, none⟩) n1 R2.cN, .int .i64 s2.rn, .int .i64 s2.rg, .slice (some ⟨R2.gB, 0, none⟩) n2 R2.cB, .int .i64 s2.bn, .int .i64 s2.bg, .int .i64 s2.most])
        have HRf := A_ (HP6.out.2.2.2.1.box BZ6.out (by decide) (by decide) 0 [.slice (some ⟨R2.gN, 0, none⟩) n1 R2.cN, .int .i64 s2.rn, .int .i64 s2.rg, .slice (some ⟨R2.gB, 0, none⟩) n2 R2.cB, .int .i64 s2.bn, .int .i64 s2.bg, .int .i64 s2.most])
        have hfar := fun {j : Nat} {u : Value} {q : Nat} (h : w6.cell? ⟨q, j, none⟩ = some u) (hb : q ≠ wd.heap.size) => far_ (g := wd.heap.size) (o := 0) (vs := [.slice (some ⟨R2.gN, 0, none⟩) n1 R2.cN, .int .i64 s2.rn, .int .i64 s2.rg, .slice (some ⟨R2.gB, 0, none⟩) n2 R2.cB, .int .i64 s2.bn, .int .i64 s2.bg, .int .i64 s2.most]) h hb
        clear hbz e6
        refine on_ 11 (none) (fun K hK => ?_)
        refine skip_ (w1 := ?_) (by rfl) rfl ?_ ?_
        rotate_left
        · go_simp
          rfl
        refine hK.out _ _ ⟨hfar HS.out.1 (by omega), hfar HS.out.2.1 (by omega), hfar HS.out.2.2.1 (by omega), hfar HS.out.2.2.2.1 (by omega), hfar HS.out.2.2.2.2.1 (by omega), hfar HS.out.2.2.2.2.2.1 (by omega), hfar HS.out.2.2.2.2.2.2.1 (by omega), up_ HBf.out.cell y0, up_ HBf.out.cell y1, up_ HBf.out.cell y2, up_ HBf.out.cell y3, up_ HBf.out.cell y4, up_ HBf.out.cell y5, up_ HBf.out.cell y6, up_ HBf.out.cell y7, up_ HBf.out.cell y8⟩ (fun hH2 => ?_)
        clear hK K hH2 HS hfar t0 t1 t2 t3 t4 t5 t6 fq0 fq1 fq2 fq3 fq4 fq5 fq6
        refine chain_ [12] _ _ _ _ (⟨_, _, rfl, rfl, rfl⟩) (by kernel_rfl) (by decide) ?_
        go_wp2
        go_meet
        case rel => exact ⟨R2, X2, wd.heap.size, n1, n2, rfl, rfl, ⟨HP6.out.1, HP6.out.2.1⟩, HKf, HRf, BZf, BXf, HBf, ⟨HP6.out.2.2.2.2.1 _ hXb.out, by omega⟩⟩
     case' rest => obtain ⟨R2, X2, bz, n1, n2, rfl, rfl, HN12, HKc, HRc, BZc, BXc, HBc, HXc⟩ := hcut
     clear HK HRF HB BX HM HS HXB KACT HV y0 y1 y2 y3 y4 y5 y6 y7 y8 z0 z1 z2 z3 z4 z5 z6 z7 z8 u0 u1 u2 u3 u4 u5 u6 hlbx
     obtain ⟨u0, u1, u2, u3, u4, u5, u6⟩ := box7 BXc.out
     obtain ⟨q0, q1, q2, q3, q4, q5, q6⟩ := box7 BZc.out
     obtain ⟨fx0, fx1, fx2, fx3, fx4, fx5, fx6⟩ := frz7 BXc.out
     have hlx := blk_lt BXc.out
     have hlz := blk_lt BZc.out
     have hne := HXc.out.2
     have hbx := below_setcells (b := w.heap.size) (g := bx) (X := wc) HBX.out 0 [.slice (some ⟨R2.gN, 0, none⟩) n1 R2.cN, .int .i64 s2.rn, .int .i64 s2.rg, .slice (some ⟨R2.gB, 0, none⟩) n2 R2.cB, .int .i64 s2.bn, .int .i64 s2.bg, .int .i64 s2.most]
     have HB := A_ (show RowKit.Below w.heap.size w (wc.setCells bx 0 [.slice (some ⟨R2.gN, 0, none⟩) n1 R2.cN, .int .i64 s2.rn, .int .i64 s2.rg, .slice (some ⟨R2.gB, 0, none⟩) n2 R2.cB, .int .i64 s2.bn, .int .i64 s2.bg, .int .i64 s2.most]) from HBc.out.trans hbx)
     have HK := A_ (show Wk b wb X2 s2 (wc.setCells bx 0 [.slice (some ⟨R2.gN, 0, none⟩) n1 R2.cN, .int .i64 s2.rn, .int .i64 s2.rg, .slice (some ⟨R2.gB, 0, none⟩) n2 R2.cB, .int .i64 s2.bn, .int .i64 s2.bg, .int .i64 s2.most]) from HKc.out.box HXc.out.1 0 [.slice (some ⟨R2.gN, 0, none⟩) n1 R2.cN, .int .i64 s2.rn, .int .i64 s2.rg, .slice (some ⟨R2.gB, 0, none⟩) n2 R2.cB, .int .i64 s2.bn, .int .i64 s2.bg, .int .i64 s2.most])
     have HRF := A_ (show RefIs X2 R2 s2 (wc.setCells bx 0 [.slice (some ⟨R2.gN, 0, none⟩) n1 R2.cN, .int .i64 s2.rn, .int .i64 s2.rg, .slice (some ⟨R2.gB, 0, none⟩) n2 R2.cB, .int .i64 s2.bn, .int .i64 s2.bg, .int .i64 s2.most]) from HRc.out.box BXc.out (by decide) (by decide) 0 [.slice (some ⟨R2.gN, 0, none⟩) n1 R2.cN, .int .i64 s2.rn, .int .i64 s2.rg, .slice (some ⟨R2.gB, 0, none⟩) n2 R2.cB, .int .i64 s2.bn, .int .i64 s2.bg, .int .i64 s2.most])
     have b6 := set_same7 (.slice (some ⟨R2.gN, 0, none⟩) n1 R2.cN) (.int .i64 s2.rn) (.int .i64 s2.rg) (.slice (some ⟨R2.gB, 0, none⟩) n2 R2.cB) (.int .i64 s2.bn) (.int .i64 s2.bg) (.int .i64 s2.most) BXc.out
     have BX := A_ (show (wc.setCells bx 0 [.slice (some ⟨R2.gN, 0, none⟩) n1 R2.cN, .int .i64 s2.rn, .int .i64 s2.rg, .slice (some ⟨R2.gB, 0, none⟩) n2 R2.cB, .int .i64 s2.bn, .int .i64 s2.bg, .int .i64 s2.most]).heap[bx]? = _ from b6)
     clear hbx b6 HKc HRc HBc BZc BXc
     go_upto_region 14 with fail
     clear u0 u1 u2 u3 u4 u5 u6 q0 q1 q2 q3 q4 q5 q6 fx0 fx1 fx2 fx3 fx4 fx5 fx6 hlx hlz hne
     have hnn : (wc.setCells bx 0 [.slice (some ⟨R2.gN, 0, none⟩) n1 R2.cN, .int .i64 s2.rn, .int .i64 s2.rg, .slice (some ⟨R2.gB, 0, none⟩) n2 R2.cB, .int .i64 s2.bn, .int .i64 s2.bg, .int .i64 s2.most]) = (((((((wc.setCell ⟨bx, 0, none⟩ (.slice (some ⟨R2.gN, 0, none⟩) n1 R2.cN)).setCell ⟨bx, 1, none⟩ (.int .i64 s2.rn)).setCell ⟨bx, 2, none⟩ (.int .i64 s2.rg)).setCell ⟨bx, 3, none⟩ (.slice (some ⟨R2.gB, 0, none⟩) n2 R2.cB)).setCell ⟨bx, 4, none⟩ (.int .i64 s2.bn)).setCell ⟨bx, 5, none⟩ (.int .i64 s2.bg)).setCell ⟨bx, 6, none⟩ (.int .i64 s2.most)) := rfl
     rw [hnn] at HB HK HRF BX
     obtain ⟨wq, hwq⟩ : ∃ wq, (((((((wc.setCell ⟨bx, 0, none⟩ (.slice (some ⟨R2.gN, 0, none⟩) n1 R2.cN)).setCell ⟨bx, 1, none⟩ (.int .i64 s2.rn)).setCell ⟨bx, 2, none⟩ (.int .i64 s2.rg)).setCell ⟨bx, 3, none⟩ (.slice (some ⟨R2.gB, 0, none⟩) n2 R2.cB)).setCell ⟨bx, 4, none⟩ (.int .i64 s2.bn)).setCell ⟨bx, 5, none⟩ (.int .i64 s2.bg)).setCell ⟨bx, 6, none⟩ (.int .i64 s2.most)) = wq := ⟨_, rfl⟩
     rw [hwq] at HB HK HRF BX ⊢
     clear hnn hwq
     have HOK := A_ HS2.out.1
     have HPL := A_ HS2.out.2.1
     have HL2 := A_ (show n1 = s2.now.length ∧ n2 = s2.base.length ∧ 0 < n1 ∧ n1 ≤ 200 ∧ n2 ≤ 200 from by
      have e1 : n1 = s2.now.length := by rw [HN12.out.1, ← HRF.out.2.1, List.length_map]
      have e2 : n2 = s2.base.length := by rw [HN12.out.2, ← HRF.out.2.2.2.1, List.length_map]
      refine ⟨e1, e2, ?_, ?_, ?_⟩
      · rw [e1]; exact HS2.out.1.2.2.1
      · have := HS2.out.2.2.1; have := HL60.out; omega
      · have := HS2.out.2.2.2; have := HL60.out; omega)
     have HLE := A_ (show s2.now.length ≤ 200 from by have := HL2.out; omega)
     have hbdq : RowKit.Below wq.heap.size wq wq.drew := (RowKit.Below.refl _ wq).drew
     replace HK := A_ (HK.out.below hbdq)
     replace HRF := A_ (HRF.out.below hbdq)
     replace HB := A_ (HB.out.trans (hbdq.mono HB.out.size))
     replace BX := A_ (blk_below BX.out hbdq)
     obtain ⟨u0, u1, u2, u3, u4, u5, u6⟩ := box7 (show wq.heap[bx]? = some (.cells #[.slice (some ⟨R2.gN, 0, none⟩) n1 R2.cN, .int .i64 s2.rn, .int .i64 s2.rg, .slice (some ⟨R2.gB, 0, none⟩) n2 R2.cB, .int .i64 s2.bn, .int .i64 s2.bg, .int .i64 s2.most] 51 (0, 0)) from BX.out)
     have hlx : bx < wq.heap.size := blk_lt (show wq.heap[bx]? = some (.cells #[.slice (some ⟨R2.gN, 0, none⟩) n1 R2.cN, .int .i64 s2.rn, .int .i64 s2.rg, .slice (some ⟨R2.gB, 0, none⟩) n2 R2.cB, .int .i64 s2.bn, .int .i64 s2.bg, .int .i64 s2.most] 51 (0, 0)) from BX.out)
     clear hbdq
     refine start_ (n := 34) (S := (fun w' => w'.cell? ⟨bx, 0, none⟩ = some (.slice (some ⟨R2.gN, 0, none⟩) n1 R2.cN) ∧ w'.cell? ⟨bx, 1, none⟩ = some (.int .i64 s2.rn) ∧ w'.cell? ⟨bx, 2, none⟩ = some (.int .i64 s2.rg) ∧ w'.cell? ⟨bx, 3, none⟩ = some (.slice (some ⟨R2.gB, 0, none⟩) n2 R2.cB) ∧ w'.cell? ⟨bx, 4, none⟩ = some (.int .i64 s2.bn) ∧ w'.cell? ⟨bx, 5, none⟩ = some (.int .i64 s2.bg) ∧ w'.cell? ⟨bx, 6, none⟩ = some (.int .i64 s2.most))) (ds := [33]) #[false, false, false, false, false, false, false, false, false, false, false, false, false, false, false, false, false, false, false, false, false, false, false, false, false, false, false, false, false, false, false, false, false, false] (by kernel_rfl) rfl rfl (by refine ⟨?_, ?_, ?_, ?_, ?_, ?_, ?_⟩ <;> go_simp) (fun hHeld => ?_)
     refine with_tabW pltab plbits (fun HT_ HW_ => ?_)
     have HS := A_ hHeld
     clear hHeld
     refine pu_ 0 69 ?_ (hc := any_of HT_.out (by kernel_rfl))
     refine pu_ 1 70 ?_ (hc := any_of HT_.out (by kernel_rfl))
     refine pu_ 2 71 ?_ (hc := any_of HT_.out (by kernel_rfl))
     refine pu_ 3 72 ?_ (hc := any_of HT_.out (by kernel_rfl))
     refine pu_ 5 74 ?_ (hc := any_of HT_.out (by kernel_rfl))
     refine pu_ 6 75 ?_ (hc := any_of HT_.out (by kernel_rfl))
     refine ta_ 7 76 HS.out ?_ (hc := take_ofW HT_.out HW_.out (by kernel_rfl))
     generalize hwd : wq.drew = wd at *
     clear hwd
     have KSL := A_ (L_slotsT HK.out HOK.out (by have := HLE.out; omega))
     refine on_ 4 (some 73) (fun K hK => ?_) (hc := one_of HT_.out (by kernel_rfl))
     refine cl_ Try.func30 #[.pointer (some ⟨wb, 0, none⟩)] ?_
     refine Calls.mono (KSL.out) ?_
     rintro e wa ⟨g4, k4, rs4, rfl, ho, hx, hft, hb_⟩
     have hx' := hx.trans (plw_slots HPL.out)
     have hn4 : n1 = rs4.length := by rw [HN12.out.1, len_rs rs4, hx', ← HRF.out.2.1, List.length_map]
     rw [← hn4]
     have HO4 := A_ (And.intro (show OwnT 0 g4 k4 rs4 wa from ⟨own_weaken ho.1 (Nat.zero_le _), hft⟩) (And.intro hx' hn4))
     clear ho hx hx' hft hn4 KSL
     refine ⟨_, rfl, ?_⟩
     refine hK.out _ _ ⟨up_ hb_.cell HS.out.1, up_ hb_.cell HS.out.2.1, up_ hb_.cell HS.out.2.2.1, up_ hb_.cell HS.out.2.2.2.1, up_ hb_.cell HS.out.2.2.2.2.1, up_ hb_.cell HS.out.2.2.2.2.2.1, up_ hb_.cell HS.out.2.2.2.2.2.2⟩ (fun hH2 => ?_)
     replace HS := A_ hH2
     replace HK := A_ (HK.out.below hb_)
     replace HRF := A_ (HRF.out.below hb_)
     replace HB := A_ (HB.out.trans (hb_.mono HB.out.size))
     replace BX := A_ (blk_below BX.out hb_)
     clear hK K hH2 hb_
     refine nm_ (some 73) ?_
     have KSM := same29 s2.now s2.now (some ⟨g4, 0, none⟩) k4 (some ⟨R2.gN, 0, none⟩) R2.cN wa (by have h := HO4.out.1.read; rw [HO4.out.2.1, ← HO4.out.2.2, HN12.out.1, len_rs R2.rsN, HRF.out.2.1] at h; exact h) (by have h := HRF.out.1.read; rw [HRF.out.2.1, len_rs R2.rsN, HRF.out.2.1] at h; exact h) (by have := HLE.out; omega)
     rw [eqB_true rfl, show s2.now.length = n1 from by rw [HN12.out.1, ← HRF.out.2.1, List.length_map]] at KSM
     replace KSM := A_ KSM
     refine on_ 8 (some 77) (fun K hK => ?_) (hc := one_of HT_.out (by kernel_rfl))
     refine cl_ Try.func29 #[.slice (some ⟨g4, 0, none⟩) n1 k4, .slice (some ⟨R2.gN, 0, none⟩) n1 R2.cN] ?_
     refine Calls.mono (KSM.out) ?_
     rintro e wb1 ⟨rfl, hb_⟩
     clear KSM HO4
     refine ⟨_, rfl, ?_⟩
     refine hK.out _ _ ⟨up_ hb_.cell HS.out.1, up_ hb_.cell HS.out.2.1, up_ hb_.cell HS.out.2.2.1, up_ hb_.cell HS.out.2.2.2.1, up_ hb_.cell HS.out.2.2.2.2.1, up_ hb_.cell HS.out.2.2.2.2.2.1, up_ hb_.cell HS.out.2.2.2.2.2.2⟩ (fun hH2 => ?_)
     replace HS := A_ hH2
     replace HK := A_ (HK.out.below hb_)
     replace HRF := A_ (HRF.out.below hb_)
     replace HB := A_ (HB.out.trans (hb_.mono HB.out.size))
     replace BX := A_ (blk_below BX.out hb_)
     clear hK K hH2 hb_
     refine nm_ (some 77) ?_
     refine pu_ 9 78 ?_ (hc := any_of HT_.out (by kernel_rfl))
     refine pu_ 10 79 ?_ (hc := any_of HT_.out (by kernel_rfl))
     refine pu_ 11 80 ?_ (hc := any_of HT_.out (by kernel_rfl))
     refine pu_ 12 81 ?_ (hc := any_of HT_.out (by kernel_rfl))
     refine pu_ 14 83 ?_ (hc := any_of HT_.out (by kernel_rfl))
     refine pu_ 15 84 ?_ (hc := any_of HT_.out (by kernel_rfl))
     refine ta_ 16 85 HS.out ?_ (hc := take_ofW HT_.out HW_.out (by kernel_rfl))
     have KRT := A_ (L_root HK.out)
     refine on_ 13 (some 82) (fun K hK => ?_) (hc := one_of HT_.out (by kernel_rfl))
     refine cl_ Try.func31 #[.pointer (some ⟨wb, 0, none⟩)] ?_
     refine Calls.mono (KRT.out) ?_
     rintro e wb2 ⟨rfl, hb_⟩
     clear KRT
     refine ⟨_, rfl, ?_⟩
     refine hK.out _ _ ⟨up_ hb_.cell HS.out.1, up_ hb_.cell HS.out.2.1, up_ hb_.cell HS.out.2.2.1, up_ hb_.cell HS.out.2.2.2.1, up_ hb_.cell HS.out.2.2.2.2.1, up_ hb_.cell HS.out.2.2.2.2.2.1, up_ hb_.cell HS.out.2.2.2.2.2.2⟩ (fun hH2 => ?_)
     replace HS := A_ hH2
     replace HK := A_ (HK.out.below hb_)
     replace HRF := A_ (HRF.out.below hb_)
     replace HB := A_ (HB.out.trans (hb_.mono HB.out.size))
     replace BX := A_ (blk_below BX.out hb_)
     clear hK K hH2 hb_
     refine nm_ (some 82) ?_
     refine pu_ 17 86 ?_ (hc := any_of HT_.out (by kernel_rfl)) (hy := Or.inl ⟨by rfl, by intro w'; go_simp; (try simp only [beq_self_eq_true, Bool.and_self, Bool.not_true, Bool.or_self]); with_reducible rfl⟩)
     refine pu_ 18 87 ?_ (hc := any_of HT_.out (by kernel_rfl))
     refine pu_ 19 88 ?_ (hc := any_of HT_.out (by kernel_rfl))
     refine pu_ 20 89 ?_ (hc := any_of HT_.out (by kernel_rfl))
     refine ta_ 22 91 HS.out ?_ (hc := take_ofW HT_.out HW_.out (by kernel_rfl))
     have KCH := A_ (L_changes HK.out HOK.out (by have := HLE.out; omega))
     refine on_ 21 (some 90) (fun K hK => ?_) (hc := one_of HT_.out (by kernel_rfl))
     refine cl_ Try.func33 #[.pointer (some ⟨wb, 0, none⟩)] ?_
     refine Calls.mono (KCH.out) ?_
     rintro e wb3 ⟨v0, xs, rfl, hxs, hcr, hb_⟩
     obtain ⟨A9, c9, hv0, hk67⟩ := crow_read hcr
     obtain ⟨NC, hNC⟩ : ∃ NC, NC = xs.length := ⟨_, rfl⟩
     rw [← hNC] at hv0 hk67
     subst hv0
     have H67 := A_ (And.intro hxs (And.intro hNC hk67))
     clear hxs hcr hk67 hNC KCH
     refine ⟨_, rfl, ?_⟩
     refine hK.out _ _ ⟨up_ hb_.cell HS.out.1, up_ hb_.cell HS.out.2.1, up_ hb_.cell HS.out.2.2.1, up_ hb_.cell HS.out.2.2.2.1, up_ hb_.cell HS.out.2.2.2.2.1, up_ hb_.cell HS.out.2.2.2.2.2.1, up_ hb_.cell HS.out.2.2.2.2.2.2⟩ (fun hH2 => ?_)
     replace HS := A_ hH2
     replace HK := A_ (HK.out.below hb_)
     replace HRF := A_ (HRF.out.below hb_)
     replace HB := A_ (HB.out.trans (hb_.mono HB.out.size))
     replace BX := A_ (blk_below BX.out hb_)
     clear hK K hH2 hb_
     refine nm_ (some 90) ?_
     have KRC := ref_changes X2 R2 s2 wb3 HRF.out HPL.out (by have := HN12.out.1; have := HL2.out; omega) (by have := HN12.out.1; have := HL2.out; omega) (by have := HN12.out.2; have := HL2.out; omega)
     simp only [RL.cells] at KRC
     rw [← HN12.out.1, ← HN12.out.2] at KRC
     replace KRC := A_ KRC
     refine on_ 23 (some 92) (fun K hK => ?_) (hc := one_of HT_.out (by kernel_rfl))
     refine cl_ Try.func34 #[.agg #[.slice (some ⟨R2.gN, 0, none⟩) n1 R2.cN, .int .i64 s2.rn, .int .i64 s2.rg, .slice (some ⟨R2.gB, 0, none⟩) n2 R2.cB, .int .i64 s2.bn, .int .i64 s2.bg, .int .i64 s2.most]] ?_
     refine Calls.mono (KRC.out) ?_
     rintro e wb4 ⟨g5, c5, n5, xs2, rfl, hn5, hxs2, hcr2, hb_⟩
     have hNC2 : n5 = NC := by rw [hn5, H67.out.2.1, len_cs xs2, hxs2, ← H67.out.1, List.length_map]
     subst hNC2
     obtain ⟨A8, c8, hv8, hk8⟩ := crow_read hcr2
     rw [← hn5] at hv8 hk8
     injection hv8 with hA8 _ hc8
     subst hA8
     subst hc8
     have H68 := A_ (And.intro (show xs.map (fun x => c67 (strC x)) = xs2.map (fun x => c67 (strC x)) from by rw [map_cs, map_cs, H67.out.1, hxs2]) (And.intro (Kd.C_below H67.out.2.2 hb_) hk8))
     have HN5 := A_ (show n5 = (xs2.map (fun x => c67 (strC x))).length ∧ n5 ≤ 90000 from ⟨by rw [List.length_map, hn5], by have h := chgs_len s2 s2.now.length; rw [← hxs2, List.length_map] at h; have := HLE.out; omega⟩)
     clear hn5 hxs2 hcr2 hk8 H67 KRC
     refine ⟨_, rfl, ?_⟩
     refine hK.out _ _ ⟨up_ hb_.cell HS.out.1, up_ hb_.cell HS.out.2.1, up_ hb_.cell HS.out.2.2.1, up_ hb_.cell HS.out.2.2.2.1, up_ hb_.cell HS.out.2.2.2.2.1, up_ hb_.cell HS.out.2.2.2.2.2.1, up_ hb_.cell HS.out.2.2.2.2.2.2⟩ (fun hH2 => ?_)
     replace HS := A_ hH2
     replace HK := A_ (HK.out.below hb_)
     replace HRF := A_ (HRF.out.below hb_)
     replace HB := A_ (HB.out.trans (hb_.mono HB.out.size))
     replace BX := A_ (blk_below BX.out hb_)
     clear hK K hH2 hb_
     refine nm_ (some 92) ?_
     obtain ⟨lc, hlc⟩ : ∃ lc, lc = xs2.map (fun x => c67 (strC x)) := ⟨_, rfl⟩
     rw [← hlc] at HN5 H68
     have KSC := same_changes lc A9 c9 (some ⟨g5, 0, none⟩) c5 wb4 (by have h := H68.out.2.1; rw [H68.out.1, HN5.out.1] at h; exact h) (by have h := H68.out.2.2; rw [HN5.out.1] at h; exact h) (by have := HN5.out; omega)
     rw [← HN5.out.1] at KSC
     replace KSC := A_ KSC
     clear hlc H68
     refine on_ 24 (some 93) (fun K hK => ?_) (hc := one_of HT_.out (by kernel_rfl))
     refine cl_ Try.func32 #[.slice A9 n5 c9, .slice (some ⟨g5, 0, none⟩) n5 c5] ?_
     refine Calls.mono (KSC.out) ?_
     rintro e wb5 ⟨rfl, hb_⟩
     clear KSC
     refine ⟨_, rfl, ?_⟩
     refine hK.out _ _ ⟨up_ hb_.cell HS.out.1, up_ hb_.cell HS.out.2.1, up_ hb_.cell HS.out.2.2.1, up_ hb_.cell HS.out.2.2.2.1, up_ hb_.cell HS.out.2.2.2.2.1, up_ hb_.cell HS.out.2.2.2.2.2.1, up_ hb_.cell HS.out.2.2.2.2.2.2⟩ (fun hH2 => ?_)
     replace HS := A_ hH2
     replace HK := A_ (HK.out.below hb_)
     replace HRF := A_ (HRF.out.below hb_)
     replace HB := A_ (HB.out.trans (hb_.mono HB.out.size))
     replace BX := A_ (blk_below BX.out hb_)
     clear hK K hH2 hb_
     refine nm_ (some 93) ?_
     refine pu_ 25 94 ?_ (hc := any_of HT_.out (by kernel_rfl))
     refine pu_ 26 95 ?_ (hc := any_of HT_.out (by kernel_rfl))
     refine pu_ 27 96 ?_ (hc := any_of HT_.out (by kernel_rfl))
     refine pu_ 28 97 ?_ (hc := any_of HT_.out (by kernel_rfl))
     refine ta_ 30 99 HS.out ?_ (hc := take_ofW HT_.out HW_.out (by kernel_rfl))
     have KDI := L_dirty HK.out HOK.out (by have := HLE.out; omega)
     obtain ⟨dr, hdr⟩ : ∃ dr, dr = dirtyB s2 := ⟨_, rfl⟩
     rw [← hdr] at KDI
     replace KDI := A_ KDI
     have HDR := A_ hdr
     clear hdr
     refine on_ 29 (some 98) (fun K hK => ?_) (hc := one_of HT_.out (by kernel_rfl))
     refine cl_ Try.func35 #[.pointer (some ⟨wb, 0, none⟩)] ?_
     refine Calls.mono (KDI.out) ?_
     rintro e wb6 ⟨rfl, hb_⟩
     clear KDI
     refine ⟨_, rfl, ?_⟩
     refine hK.out _ _ ⟨up_ hb_.cell HS.out.1, up_ hb_.cell HS.out.2.1, up_ hb_.cell HS.out.2.2.1, up_ hb_.cell HS.out.2.2.2.1, up_ hb_.cell HS.out.2.2.2.2.1, up_ hb_.cell HS.out.2.2.2.2.2.1, up_ hb_.cell HS.out.2.2.2.2.2.2⟩ (fun hH2 => ?_)
     replace HS := A_ hH2
     replace HK := A_ (HK.out.below hb_)
     replace HRF := A_ (HRF.out.below hb_)
     replace HB := A_ (HB.out.trans (hb_.mono HB.out.size))
     replace BX := A_ (blk_below BX.out hb_)
     clear hK K hH2 hb_
     refine nm_ (some 98) ?_
     have KRD := ref_dirty X2 R2 s2 wb6 HRF.out HPL.out (by have := HN12.out.1; have := HL2.out; omega) (by have := HN12.out.1; have := HL2.out; omega) (by have := HN12.out.2; have := HL2.out; omega)
     simp only [RL.cells] at KRD
     rw [← HN12.out.1, ← HN12.out.2, ← HDR.out] at KRD
     replace KRD := A_ KRD
     refine on_ 31 (some 100) (fun K hK => ?_) (hc := one_of HT_.out (by kernel_rfl))
     refine cl_ Try.func36 #[.agg #[.slice (some ⟨R2.gN, 0, none⟩) n1 R2.cN, .int .i64 s2.rn, .int .i64 s2.rg, .slice (some ⟨R2.gB, 0, none⟩) n2 R2.cB, .int .i64 s2.bn, .int .i64 s2.bg, .int .i64 s2.most]] ?_
     refine Calls.mono (KRD.out) ?_
     rintro e wb7 ⟨rfl, hb_⟩
     clear KRD
     refine ⟨_, rfl, ?_⟩
     refine hK.out _ _ ⟨up_ hb_.cell HS.out.1, up_ hb_.cell HS.out.2.1, up_ hb_.cell HS.out.2.2.1, up_ hb_.cell HS.out.2.2.2.1, up_ hb_.cell HS.out.2.2.2.2.1, up_ hb_.cell HS.out.2.2.2.2.2.1, up_ hb_.cell HS.out.2.2.2.2.2.2⟩ (fun hH2 => ?_)
     replace HS := A_ hH2
     replace HK := A_ (HK.out.below hb_)
     replace HRF := A_ (HRF.out.below hb_)
     replace HB := A_ (HB.out.trans (hb_.mono HB.out.size))
     replace BX := A_ (blk_below BX.out hb_)
     clear hK K hH2 hb_
     refine nm_ (some 100) ?_
     refine pu_ 32 101 ?_ (hc := any_of HT_.out (by kernel_rfl)) (hy := Or.inl ⟨by rfl, by intro w'; go_simp; (try simp only [bne_self_eq_false, beq_self_eq_true, Bool.not_true]); with_reducible rfl⟩)
     refine chain_ [33] _ _ _ _ (⟨_, _, rfl, rfl, rfl⟩) (by kernel_rfl) (by decide) ?_
     clear u0 u1 u2 u3 u4 u5 u6 hlx
     go_wp2
     exact ⟨⟨k + 1, s2, R2, X2, n1, n2, by omega, by first | (rw [HWK.out]; simp; done) | (simp; done), HS2, HN12, HK, HRF, BX, HB, ⟨HXc.out.1⟩⟩, by first | (rw [HWK.out]; simp [intOf]; omega) | (simp [intOf]; omega)⟩
   · obtain rfl : N1 = k := by omega
     go_wp2_with fail
     refine Calls.mono (works_calls _) ?_
     rintro e we ⟨rfl, hbe⟩
     have HE := A_ (HB.out.trans (hbe.mono HB.out.size))
     clear hbe
     go_wp2
     go_ret
     exact ⟨rfl, HE.out⟩
end Go.Proofs.Ytogpnkkoablmiaa.V
end
