/- Parts of the proof: what the theorem reaches, put together by a program of this session. -/
import Derived.Test.YtogpnkkoablmiaaBY24
import Derived.Test.YtogpnkkoablmiaaBY25
section
namespace Go.Proofs.Ytogpnkkoablmiaa.V
open Go.Proofs.Ytogpnkkoablmiaa.P Go.Shelf Go.RowKit Go.Lib Go.Sort Go.Proofs.Ytogpnkkoablmiaa.Q Go.Proofs.YtogpnkkoablmiaaW.PrintWords Go.Proofs.YtogpnkkoablmiaaW.PrintLast Go.Proofs.YtogpnkkoablmiaaW.PrintMore
set_option linter.unusedVariables false
set_option linter.unusedSimpArgs false
attribute [local go_sem high] eqA28
attribute [local go_sem] nzv_ne nzv_beq nzv_bne
attribute [local go_sem] Oper.semAt_some
theorem few33_f (k : Nat) (l : List S37) : binderylaw33_Few.f k l = if (l.length : Int) > 60 then some false else binderylaw33_Few.l0 k l 0 := rfl
theorem findE_iff (s : WS) (n g : Int) : findE s n g = 0 ↔ ∃ i : Nat, n = i ∧ 1 ≤ i ∧ i < s.now.length ∧ (s.now.getD i z69).f1 = true ∧ (s.now.getD i z69).f0 = g := by
 constructor
 · exact findE_zero
 · rintro ⟨i, rfl, h1, h2, h3, h4⟩
   unfold findE
   rw [if_neg (by omega), Int.toNat_natCast, if_neg (by rw [h3]; simp), if_neg (by rw [h4]; simp)]
structure Fresh (s : WS) (told gone : List (Int × Int)) : Prop where
 ok : OkS s
 most : s.most = 20
 len : s.now.length ≤ 21
 dead : ∀ i : Nat, (s.now.getD i z69).f1 = false → (s.now.getD i z69).f2 = z35
 pos : ∀ i : Nat, (s.now.getD i z69).f1 = true → 1 ≤ i ∧ i < s.now.length
 live : ∀ i : Nat, (s.now.getD i z69).f1 = true → ((i : Int), (s.now.getD i z69).f0) ∈ told
 names : ∀ t ∈ told, ∃ i : Nat, t.1 = i ∧ 1 ≤ i ∧ i < s.now.length ∧ t.2 ≤ (s.now.getD i z69).f0 ∧ (t.2 = (s.now.getD i z69).f0 → (s.now.getD i z69).f1 = true ∨ (s.now.getD i z69).f0 = 65535)
 find : ∀ t ∈ told, findE s t.1 t.2 = 0 ↔ t ∉ gone
 sub : ∀ t ∈ gone, t ∈ told
theorem Fresh.same {s s' : WS} {told gone : List (Int × Int)} (h : Fresh s told gone) (ho : OkS s') (hm : s'.most = s.most) (hl : s'.now.length = s.now.length)
 (he : ∀ i : Nat, (s'.now.getD i z69).f0 = (s.now.getD i z69).f0 ∧ (s'.now.getD i z69).f1 = (s.now.getD i z69).f1 ∧ ((s.now.getD i z69).f1 = false → (s'.now.getD i z69).f2 = (s.now.getD i z69).f2)) : Fresh s' told gone := by
 refine ⟨ho, hm.trans h.most, by rw [hl]; exact h.len, fun i hi => ?_, fun i hi => ?_, fun i hi => ?_, fun t ht => ?_, fun t ht => ?_, h.sub⟩
 · rw [(he i).2.1] at hi
   rw [(he i).2.2 hi]
   exact h.dead i hi
 · rw [(he i).2.1] at hi
   rw [hl]
   exact h.pos i hi
 · rw [(he i).2.1] at hi
   rw [(he i).1]
   exact h.live i hi
 · obtain ⟨i, h1, h2, h3, h4, h5⟩ := h.names t ht
   exact ⟨i, h1, h2, by rw [hl]; exact h3, by rw [(he i).1]; exact h4, by rw [(he i).1, (he i).2.1]; exact h5⟩
 · rw [← h.find t ht, findE_iff, findE_iff]
   constructor
   · rintro ⟨i, h1, h2, h3, h4, h5⟩
     exact ⟨i, h1, h2, by rw [← hl]; exact h3, by rw [← (he i).2.1]; exact h4, by rw [← (he i).1]; exact h5⟩
   · rintro ⟨i, h1, h2, h3, h4, h5⟩
     exact ⟨i, h1, h2, by rw [hl]; exact h3, by rw [(he i).2.1]; exact h4, by rw [(he i).1]; exact h5⟩
theorem del_not (s : WS) (n g : Int) (hz : findE s n g ≠ 0) : delW s n g = s := by unfold delW; rw [if_neg hz]
theorem plain_z35 : plain z35 = z35 := by rw [plain_eq]; simp [z35]
theorem own_slice {W : World} {base e size n : Nat} {v : Value} {xs : List Value} (h : W.ownsRow base e size v n xs) : ∃ A c, v = .slice A n c ∧ n ≤ c := by
 rcases h.2 with ⟨h1, h2⟩ | ⟨g, cap, cur, h1, _, _, h2, _⟩
 · have h0 : n = 0 := by simpa using h2
   subst h0
   exact ⟨none, 0, h1, Nat.le_refl _⟩
 · exact ⟨_, cap, h1, by omega⟩
theorem Wk.lt {b0 wb : Nat} {X : Nat → Prop} {s : WS} {W : World} (h : Wk b0 wb X s W) {k : Nat} (hk : X k) : k < W.heap.size := by
 obtain ⟨L, _, hw, hX⟩ := h
 exact (hw.2.2.2.2.2.2.2.2.2 k (hX k hk)).1
def stepM (s : WS) (m x1 x2 : Int) (xv : S35) : WS := if m = 0 then allocS s else if m = 1 then putW s x1 x2 xv else if m = 2 then delW s x1 x2 else if m = 3 then s else if m = 4 then rootW s x1 x2 else s
noncomputable def alikeR (a b : S69) : Bool := decide (a.f0 = b.f0) && (a.f1 == b.f1) && eqB a.f2 b.f2
set_option maxHeartbeats 8000000 in
set_option maxRecDepth 100000 in
theorem alike_calls97 (a b : S69) (A4 : Option Addr) (c4 : Nat) (A5 : Option Addr) (c5 : Nat) (B4 : Option Addr) (d4 : Nat) (B5 : Option Addr) (d5 : Nat) (w : World) (ha : HasV a.f2 A4 c4 A5 c5 w) (hb : HasV b.f2 B4 d4 B5 d5 w) :
 Calls Try.prog 97 #[.agg #[.int .i64 a.f0, .bool a.f1, .int .i64 a.f2.f0, .int .i64 a.f2.f1, .int .i64 a.f2.f2, .string a.f2.f3, .slice A4 a.f2.f4.length c4, .slice A5 a.f2.f5.length c5], .agg #[.int .i64 b.f0, .bool b.f1, .int .i64 b.f2.f0, .int .i64 b.f2.f1, .int .i64 b.f2.f2, .string b.f2.f3, .slice B4 b.f2.f4.length d4, .slice B5 b.f2.f5.length d5]] w fun e w' => e = .returned (.bool (alikeR a b)) ∧ RowKit.Below w.heap.size w w' := by
 have hu69 := Try.underlying69
 have hu35 := Try.underlying35
 have HB := A_ (below_alloc (below_alloc (RowKit.Below.refl w.heap.size w) (.cells #[.int .i64 a.f0, .bool a.f1, .int .i64 a.f2.f0, .int .i64 a.f2.f1, .int .i64 a.f2.f2, .string a.f2.f3, .slice A4 a.f2.f4.length c4, .slice A5 a.f2.f5.length c5] 69)) (.cells #[.int .i64 b.f0, .bool b.f1, .int .i64 b.f2.f0, .int .i64 b.f2.f1, .int .i64 b.f2.f2, .string b.f2.f3, .slice B4 b.f2.f4.length d4, .slice B5 b.f2.f5.length d5] 69))
 have KS := A_ (fun (W : World) (h : RowKit.Below w.heap.size w W) => K_equal a.f2 A4 c4 A5 c5 b.f2 B4 d4 B5 d5 W (ha.below h) (hb.below h))
 obtain ⟨u0, u1, u2, u3, u4, u5, u6, u7⟩ := box8 (blk_alloc (blk_new w (.cells #[.int .i64 a.f0, .bool a.f1, .int .i64 a.f2.f0, .int .i64 a.f2.f1, .int .i64 a.f2.f2, .string a.f2.f3, .slice A4 a.f2.f4.length c4, .slice A5 a.f2.f5.length c5] 69)) (.cells #[.int .i64 b.f0, .bool b.f1, .int .i64 b.f2.f0, .int .i64 b.f2.f1, .int .i64 b.f2.f2, .string b.f2.f3, .slice B4 b.f2.f4.length d4, .slice B5 b.f2.f5.length d5] 69))
 obtain ⟨v0, v1, v2, v3, v4, v5, v6, v7⟩ := box8 (blk_new (w.alloc (.cells #[.int .i64 a.f0, .bool a.f1, .int .i64 a.f2.f0, .int .i64 a.f2.f1, .int .i64 a.f2.f2, .string a.f2.f3, .slice A4 a.f2.f4.length c4, .slice A5 a.f2.f5.length c5] 69)) (.cells #[.int .i64 b.f0, .bool b.f1, .int .i64 b.f2.f0, .int .i64 b.f2.f1, .int .i64 b.f2.f2, .string b.f2.f3, .slice B4 b.f2.f4.length d4, .slice B5 b.f2.f5.length d5] 69))
 simp only [World.size_alloc] at v0 v1 v2 v3 v4 v5 v6 v7
 obtain ⟨r, hr⟩ : ∃ r, r = alikeR a b := ⟨_, rfl⟩
 rw [← hr]
 have HR := A_ (hr.trans (show alikeR a b = (decide (a.f0 = b.f0) && (a.f1 == b.f1) && eqB a.f2 b.f2) from rfl))
 generalize eqB a.f2 b.f2 = q at *
 clear hr ha hb
 by_cases h0 : a.f0 = b.f0
 · by_cases h1 : a.f1 = b.f1
   · have hrq : r = q := by rw [HR.out, decide_eq_true h0, h1]; simp
     subst hrq
     have h1' : (a.f1 == b.f1) = true := by rw [h1]; simp
     clear HR
     obtain ⟨x0, hx0⟩ : ∃ x0, x0 = b.f0 := ⟨_, rfl⟩
     go_enter Try.func97, Try.ntmps97
     go_wp2_with fail
     refine Calls.mono (KS.out _ (below_alloc (below_alloc (RowKit.Below.refl w.heap.size w) _) _)) ?_
     rintro e w1 ⟨rfl, hb⟩
     have HB1 := A_ (below_step (below_alloc (below_alloc (RowKit.Below.refl w.heap.size w) _) _) hb)
     clear hb
     go_wp2
     go_ret
     exact ⟨rfl, HB1.out⟩
   · have hrq : r = false := by
      rw [HR.out]
      have : (a.f1 == b.f1) = false := by simpa using h1
      rw [this]
      simp
     subst hrq
     have h1' : (a.f1 == b.f1) = false := by simpa using h1
     clear HR
     go_enter Try.func97, Try.ntmps97
     go_wp2
     go_ret
     exact ⟨rfl, below_alloc (below_alloc (RowKit.Below.refl w.heap.size w) _) _⟩
 · have hrq : r = false := by
    rw [HR.out, decide_eq_false h0]
    simp
   subst hrq
   clear HR
   go_enter Try.func97, Try.ntmps97
   go_wp2
   go_ret
   exact ⟨rfl, below_alloc (below_alloc (RowKit.Below.refl w.heap.size w) _) _⟩
theorem alikeR_iff (a b : S69) : alikeR a b = true ↔ a = b := by
 unfold alikeR
 simp only [Bool.and_eq_true, decide_eq_true_eq, beq_iff_eq, eqB_iff]
 constructor
 · rintro ⟨⟨h1, h2⟩, h3⟩
   cases a; cases b
   simp only [] at h1 h2 h3
   rw [h1, h2, h3]
 · rintro rfl
   exact ⟨⟨rfl, rfl⟩, rfl⟩
set_option maxHeartbeats 8000000 in
set_option maxRecDepth 100000 in
theorem same29 (l0 l1 : List S69) (A0 : Option Addr) (c0 : Nat) (A1 : Option Addr) (c1 : Nat) (w : World) (hr0 : k69.C w A0 l0.length l0) (hr1 : k69.C w A1 l1.length l1) (hl9 : l0.length ≤ 90000) :
 Calls Try.prog 29 #[.slice A0 l0.length c0, .slice A1 l1.length c1] w fun e w' => e = .returned (.bool (eqB l0 l1)) ∧ RowKit.Below w.heap.size w w' := by
 have hu69 := Try.underlying69
 have hu46 := Try.underlying46
 have H0 := A_ hr0
 have H1 := A_ hr1
 obtain ⟨N, hN⟩ : ∃ N, N = l0.length := ⟨_, rfl⟩
 obtain ⟨M, hM⟩ : ∃ M, M = l1.length := ⟨_, rfl⟩
 obtain ⟨r, hr⟩ : ∃ r, r = eqB l0 l1 := ⟨_, rfl⟩
 rw [← hN, ← hM, ← hr]
 have HN := A_ hN
 have HM := A_ hM
 have HR := A_ hr
 have HL := A_ (show N ≤ 90000 by omega)
 clear hr0 hr1 hN hM hr hl9
 by_cases hnm : N = M
 · subst hnm
   go_enter Try.func29, Try.ntmps29
   go_wp2
   go_loopw [5] (fun i wr => ∃ k : Nat, k ≤ N ∧ i = .int .i64 k ∧ Aside0 (RowKit.Below w.heap.size w wr) ∧ Aside0 (∀ j, j < k → l0.getD j z69 = l1.getD j z69)) (fun i _ => N - (intOf i).toNat)
   case atStart => exact ⟨0, Nat.zero_le _, rfl, ⟨RowKit.Below.refl _ _⟩, ⟨fun j hj => by omega⟩⟩
   case round =>
    obtain ⟨k, hk, rfl, HB, HT⟩ := hrel
    by_cases hlt : k < N
    · obtain ⟨ad0, P4, p4, P5, p5, hA0, x0, x1, x2, x3, x4, x5, x6, x7, lp4, gp4, lp5, gp5⟩ := at_T69 (Kd.C_below H0.out HB.out) (k : Int) (by omega) (by have := HN.out; omega)
      obtain ⟨ad1, Q4, q4, Q5, q5, hA1, z0, z1, z2, z3, z4, z5, z6, z7, lq4, gq4, lq5, gq5⟩ := at_T69 (Kd.C_below H1.out HB.out) (k : Int) (by omega) (by have := HM.out; omega)
      subst hA0
      subst hA1
      simp only [rd_T69, Int.toNat_natCast] at x0 x1 x2 x3 x4 x5 x6 x7 lp4 gp4 lp5 gp5 z0 z1 z2 z3 z4 z5 z6 z7 lq4 gq4 lq5 gq5
      have hwk : wrap64 ((k : Int) + 1) = (k : Int) + 1 := by have := HL.out; unfold wrap64; omega
      have HWK := A_ hwk
      have hNm : N ≤ 9223372036854775807 := by have := HL.out; omega
      obtain ⟨x, hx⟩ : ∃ x, x = l0.getD k z69 := ⟨_, rfl⟩
      obtain ⟨z, hz⟩ : ∃ z, z = l1.getD k z69 := ⟨_, rfl⟩
      rw [← hx] at x0 x1 x2 x3 x4 x5 x6 x7 lp4 gp4 lp5 gp5
      rw [← hz] at z0 z1 z2 z3 z4 z5 z6 z7 lq4 gq4 lq5 gq5
      have KA := A_ (alike_calls97 x z P4 p4 P5 p5 Q4 q4 Q5 q5 wr.drew (HasV.below ⟨lp4, gp4, lp5, gp5⟩ (RowKit.Below.refl _ wr).drew) (HasV.below ⟨lq4, gq4, lq5, gq5⟩ (RowKit.Below.refl _ wr).drew))
      obtain ⟨q, hq⟩ : ∃ q, q = alikeR x z := ⟨_, rfl⟩
      rw [← hq] at KA
      have HQ := A_ (And.intro hx (And.intro hz hq))
      clear hwk hx hz hq lp4 gp4 lp5 gp5 lq4 gq4 lq5 gq5
      go_upto_region 6 with fail
      refine start_ (n := 10) (S := (fun w' => w'.cell? (ad0.add (k * 8)) = some (.int .i64 x.f0) ∧ w'.cell? ⟨(ad0.add (k * 8)).block, (ad0.add (k * 8)).off + 1, none⟩ = some (.bool x.f1) ∧ w'.cell? ⟨(ad0.add (k * 8)).block, (ad0.add (k * 8)).off + 2, none⟩ = some (.int .i64 x.f2.f0) ∧ w'.cell? ⟨(ad0.add (k * 8)).block, (ad0.add (k * 8)).off + 3, none⟩ = some (.int .i64 x.f2.f1) ∧ w'.cell? ⟨(ad0.add (k * 8)).block, (ad0.add (k * 8)).off + 4, none⟩ = some (.int .i64 x.f2.f2) ∧ w'.cell? ⟨(ad0.add (k * 8)).block, (ad0.add (k * 8)).off + 5, none⟩ = some (.string x.f2.f3) ∧ w'.cell? ⟨(ad0.add (k * 8)).block, (ad0.add (k * 8)).off + 6, none⟩ = some (.slice P4 x.f2.f4.length p4) ∧ w'.cell? ⟨(ad0.add (k * 8)).block, (ad0.add (k * 8)).off + 7, none⟩ = some (.slice P5 x.f2.f5.length p5) ∧ w'.cell? (ad1.add (k * 8)) = some (.int .i64 z.f0) ∧ w'.cell? ⟨(ad1.add (k * 8)).block, (ad1.add (k * 8)).off + 1, none⟩ = some (.bool z.f1) ∧ w'.cell? ⟨(ad1.add (k * 8)).block, (ad1.add (k * 8)).off + 2, none⟩ = some (.int .i64 z.f2.f0) ∧ w'.cell? ⟨(ad1.add (k * 8)).block, (ad1.add (k * 8)).off + 3, none⟩ = some (.int .i64 z.f2.f1) ∧ w'.cell? ⟨(ad1.add (k * 8)).block, (ad1.add (k * 8)).off + 4, none⟩ = some (.int .i64 z.f2.f2) ∧ w'.cell? ⟨(ad1.add (k * 8)).block, (ad1.add (k * 8)).off + 5, none⟩ = some (.string z.f2.f3) ∧ w'.cell? ⟨(ad1.add (k * 8)).block, (ad1.add (k * 8)).off + 6, none⟩ = some (.slice Q4 z.f2.f4.length q4) ∧ w'.cell? ⟨(ad1.add (k * 8)).block, (ad1.add (k * 8)).off + 7, none⟩ = some (.slice Q5 z.f2.f5.length q5))) (ds := [8, 9]) #[false, false, false, false, false, false, false, false, false, false] (by kernel_rfl) rfl rfl (by refine ⟨?_, ?_, ?_, ?_, ?_, ?_, ?_, ?_, ?_, ?_, ?_, ?_, ?_, ?_, ?_, ?_⟩ <;> go_simp) (fun hHeld => ?_)
      have HH := A_ hHeld
      clear hHeld
      refine pu_ 0 17 ?_
      refine pu_ 1 18 ?_
      refine pu_ 2 19 ?_
      refine ta_ 3 20 HH.out ?_
      refine pu_ 4 21 ?_
      refine pu_ 5 22 ?_
      refine pu_ 6 23 ?_
      refine ta_ 7 24 HH.out ?_
      refine chain_ [8, 9] _ _ _ _ (⟨_, _, rfl, rfl, ⟨_, _, rfl, rfl, rfl⟩⟩) (by kernel_rfl) (by decide) ?_
      clear hNm x0 x1 x2 x3 x4 x5 x6 x7 z0 z1 z2 z3 z4 z5 z6 z7
      cases q
      · have hrf : r = false := HR.out.trans (eqB_false (fun e => by
         have h1 := HQ.out.2.2
         rw [(alikeR_iff x z).2 (by rw [HQ.out.1, HQ.out.2.1, e])] at h1
         cases h1))
        subst hrf
        go_wp2_with fail
        refine Calls.mono KA.out ?_
        rintro e w3 ⟨rfl, hb⟩
        have HB3 := A_ (HB.out.trans (((RowKit.Below.refl _ wr).drew.trans hb).mono HB.out.size))
        clear hb KA
        go_wp2
        go_ret
        exact ⟨rfl, HB3.out⟩
      · have hxz : x = z := (alikeR_iff x z).1 HQ.out.2.2.symm
        have HT2 := A_ (show ∀ j, j < k + 1 → l0.getD j z69 = l1.getD j z69 from fun j hj => by
         by_cases hjk : j < k
         · exact HT.out j hjk
         · obtain rfl : j = k := by omega
           rw [← HQ.out.1, ← HQ.out.2.1, hxz])
        clear hxz
        go_wp2_with fail
        refine Calls.mono KA.out ?_
        rintro e w3 ⟨rfl, hb⟩
        have HB3 := A_ (HB.out.trans (((RowKit.Below.refl _ wr).drew.trans hb).mono HB.out.size))
        clear hb KA
        go_wp2
        exact ⟨⟨k + 1, by omega, by first | (rw [HWK.out]; simp; done) | (simp; done), HB3, HT2⟩, by first | (rw [HWK.out]; simp [intOf]; omega) | (simp [intOf]; omega)⟩
    · obtain rfl : N = k := by omega
      have hrt : r = true := HR.out.trans (eqB_true (List.ext_getElem (by have := HN.out; have := HM.out; omega) (fun i h1 h2 => by
       have h := HT.out i (by have := HN.out; omega)
       rw [List.getD_eq_getElem?_getD, List.getElem?_eq_getElem h1, List.getD_eq_getElem?_getD, List.getElem?_eq_getElem h2] at h
       exact h)))
      subst hrt
      go_wp2
      go_ret
      exact ⟨rfl, HB.out⟩
 · have hrf : r = false := HR.out.trans (eqB_false (fun e => hnm (by rw [HN.out, HM.out, e])))
   subst hrf
   have hnm' : ((N : Int) == (M : Int)) = false := by rw [beq_eq_false_iff_ne]; omega
   clear hnm
   go_enter Try.func29, Try.ntmps29
   go_wp2
   go_ret
   exact ⟨rfl, RowKit.Below.refl _ _⟩
theorem rowB_ne {W : World} {k b g c n : Nat} {xs : List Value} (h : RowB W k) (ho : W.ownsRow b 69 8 (.slice (some ⟨g, 0, none⟩) n c) n xs) : k ≠ g := by
 rintro rfl
 obtain ⟨cells, hc⟩ := own_typed ho k rfl
 obtain ⟨q, cs, hq, hh⟩ := h
 rw [hc] at hh
 injection hh with hh; injection hh with _ h2 _
 rcases hq with rfl | rfl
 · exact absurd h2 (by decide)
 · exact absurd h2 (by decide)
theorem keepU_cells {W : World} {b g c n : Nat} {xs : List Value} (ho : W.ownsRow b 69 8 (.slice (some ⟨g, 0, none⟩) n c) n xs) (o : Nat) (vs : List Value) : KeepU 0 W (W.setCells g o vs) := by
 have hm : Moves 0 (fun k => k = g) W (W.setCells g o vs) := moves_cells (S := fun k => k = g) rfl (Nat.zero_le _) vs _ W (Moves.refl _ _ _)
 exact ⟨hm.1, fun k hk => hm.2.2 k hk.lt (rowB_ne hk ho)⟩
set_option maxHeartbeats 8000000 in
set_option maxRecDepth 100000 in
theorem wslots_typed (b0 : Nat) (L : WL) (s : WS) (w : World) (h : WorkIs b0 L s w) (hn : 0 < L.rs.length) (hl : L.rs.length ≤ 90000) (hf : ∀ x ∈ s.now, fewV x.f2) : Calls Try.prog 30 #[.pointer (some ⟨L.wb, 0, none⟩)] w fun e w' => ∃ g' c' rs', e = .returned (.slice (some ⟨g', 0, none⟩) rs'.length c') ∧ OwnS w.heap.size g' c' rs' w' ∧ rs'.map (fun y => y.x) = s.now.map plainS ∧ (∀ y ∈ rs', FT y w') ∧ RowKit.Below w.heap.size w w' := by
 have hu46 := Try.underlying46
 have hu69 := Try.underlying69
 have hu35 := Try.underlying35
 have hu120 := Try.underlying120
 have hu123 := Try.underlying123
 obtain ⟨k0, -⟩ := h.box
 have KC := A_ (clone98 L.rs ⟨L.g, 0, none⟩ L.c w hn hl (h.2.2.2.2.1.cells rfl))
 have HFW := A_ hf
 have HNX := A_ (And.intro h.2.2.2.2.2.1 h.len)
 have HFS := A_ (fun y hy => FV.bound (h.2.2.2.2.2.2.1 y hy))
 have hmx := hl
 obtain ⟨N, hN⟩ : ∃ N, N = L.rs.length := ⟨_, rfl⟩
 rw [← hN] at k0 KC hn hmx
 have HN := A_ hN
 have HMX := A_ hmx
 have hlw := h.lt.1
 clear h hf hl hN hmx
 go_enter Try.func30, Try.ntmps30
 go_wp2_with fail
 refine Calls.mono KC.out ?_
 rintro e w1 ⟨g, c, rfl, ho, hb⟩
 have hgl := ho.lt g rfl
 have O1 := A_ (show OwnS w.heap.size g c L.rs w1 from ⟨by rw [← HN.out]; exact ho, fun y hy => FV.mono ((HFS.out y hy).below hb) (fun k hk => by have := hk.2; omega)⟩)
 have HB := A_ hb
 have hg0 : w.heap.size ≤ g := hgl.1
 clear k0 KC ho hb HFS hgl
 go_wp2
 go_loopw [15] (fun i wr => ∃ (k : Nat) (rs : List RS), k ≤ N ∧ i = .int .i64 k ∧ Aside0 (rs.length = N) ∧ Aside0 (OwnS w.heap.size g c rs wr) ∧ Aside0 (rs.map (fun y => y.x) = (s.now.take k).map plainS ++ s.now.drop k) ∧ Aside0 (RowKit.Below w.heap.size w wr) ∧ Aside0 (∀ j, j < k → FT (rs.getD j default) wr)) (fun i _ => N - (intOf i).toNat)
 case atStart => exact ⟨0, L.rs, Nat.zero_le _, rfl, ⟨HN.out.symm⟩, O1, ⟨by simpa using HNX.out.1⟩, HB, ⟨fun j hj => by omega⟩⟩
 case round =>
  obtain ⟨k, rs, hk, rfl, HRL, HO, HX, HB2, HFT⟩ := hrel
  clear O1 HB
  by_cases hlt : k < N
  · have hsl : s.now.length = N := by rw [HNX.out.2, HN.out]
    obtain ⟨y, hy, hym, s0, s1, s2, s3, s4, s5, s6, s7⟩ := HO.out.at k (by have := HRL.out; omega)
    have hyx : y.x = s.now.getD k z69 := by
     have h1 : (rs.map (fun y => y.x)).getD k z69 = y.x := by
      rw [hy, List.getD_eq_getElem?_getD, List.getD_eq_getElem?_getD, List.getElem?_map, List.getElem?_eq_getElem (by have := HRL.out; omega)]
      rfl
     rw [← h1, HX.out]
     exact mixed_at _ _ _ (by omega)
    have HFV := A_ (HFW.out _ (getD_mem s.now k (by omega) z69))
    have HTK := A_ (show (s.now.take (k + 1)).map plainS ++ s.now.drop (k + 1) = ((s.now.take k).map plainS ++ s.now.drop k).set k (plainS (s.now.getD k z69)) from (mixed_set _ _ _ (by omega)).symm)
    rw [← hyx] at HFV HTK
    have hwk : wrap64 ((k : Int) + 1) = (k : Int) + 1 := by have := HMX.out; unfold wrap64; omega
    have HWK := A_ hwk
    have hNm : N ≤ 90000 := HMX.out
    have KP := A_ (plain_typed y.x.f2 y.a4 y.c4 y.a5 y.c5 wr HFV.out (FV.has (HO.out.2 y hym)))
    obtain ⟨p, hp⟩ : ∃ p, p = plain y.x.f2 := ⟨_, rfl⟩
    rw [← hp] at KP
    have HPP := A_ hp
    have hgr : g < wr.heap.size := HO.out.lt.2
    have HY := A_ hy
    clear hwk hyx hp hy hym hsl
    go_wp2_with fail
    refine Calls.mono KP.out ?_
    rintro e w2 ⟨a4, n4, a5, n5, rfl, hpv, hb⟩
    have HO2 := A_ (HO.out.below hb)
    have HB3 := A_ (HB2.out.trans (hb.mono HB2.out.size))
    obtain ⟨y2, hy2, -, v0, v1, v2, v3, v4, v5, v6, v7⟩ := HO2.out.at k (by have := HRL.out; omega)
    have hfz := HO2.out.1.frozenAt
    have fz2 := hfz (k * 8 + 2)
    have fz3 := hfz (k * 8 + 3)
    have fz4 := hfz (k * 8 + 4)
    have fz5 := hfz (k * 8 + 5)
    have fz6 := hfz (k * 8 + 6)
    have fz7 := hfz (k * 8 + 7)
    have ST := A_ (HO2.out.store k (by have := HRL.out; omega) ⟨⟨y.x.f0, y.x.f1, p⟩, a4, n4, a5, n5⟩ 2 [.int .i64 p.f0, .int .i64 p.f1, .int .i64 p.f2, .string p.f3, .slice a4 p.f4.length n4, .slice a5 p.f5.length n5] (by simp) (by rw [← HY.out]; simp [encS]) (FV.mono hpv (fun k hk => rowB_ne hk HO2.out.1)))
    have hku : KeepU 0 w2 (w2.setCells g (k * 8 + 2) [.int .i64 p.f0, .int .i64 p.f1, .int .i64 p.f2, .string p.f3, .slice a4 p.f4.length n4, .slice a5 p.f5.length n5]) := keepU_cells HO2.out.1 _ _
    have FT2 := A_ (show ∀ j, j < k + 1 → FT ((rs.set k ⟨⟨y.x.f0, y.x.f1, p⟩, a4, n4, a5, n5⟩).getD j default) (w2.setCells g (k * 8 + 2) [.int .i64 p.f0, .int .i64 p.f1, .int .i64 p.f2, .string p.f3, .slice a4 p.f4.length n4, .slice a5 p.f5.length n5]) from fun j hj => by
     rw [List.getD_eq_getElem?_getD, List.getElem?_set]
     by_cases hjk : k = j
     · subst hjk
       rw [if_pos rfl, if_pos (by have := HRL.out; omega)]
       exact FT.keep (B := 0) (y := ⟨⟨y.x.f0, y.x.f1, p⟩, a4, n4, a5, n5⟩) hpv hku
     · rw [if_neg hjk, ← List.getD_eq_getElem?_getD]
       exact FT.keep (B := 0) (FT.keep (HFT.out j (by omega)) (KeepU.of_below (Nat.le_refl _) hb)) hku)
    have LB := A_ (RowKit.Below.setCell (RowKit.Below.setCell (RowKit.Below.setCell (RowKit.Below.setCell (RowKit.Below.setCell (RowKit.Below.setCell (HB3.out) (p := ⟨g, k * 8 + 2, none⟩) (hg0) (.int .i64 p.f0)) (p := ⟨g, k * 8 + 3, none⟩) (hg0) (.int .i64 p.f1)) (p := ⟨g, k * 8 + 4, none⟩) (hg0) (.int .i64 p.f2)) (p := ⟨g, k * 8 + 5, none⟩) (hg0) (.string p.f3)) (p := ⟨g, k * 8 + 6, none⟩) (hg0) (.slice a4 p.f4.length n4)) (p := ⟨g, k * 8 + 7, none⟩) (hg0) (.slice a5 p.f5.length n5))
    have HX2 := A_ (show (rs.set k ⟨⟨y.x.f0, y.x.f1, p⟩, a4, n4, a5, n5⟩).map (fun y => y.x) = (s.now.take (k + 1)).map plainS ++ s.now.drop (k + 1) by
     rw [List.map_set, HX.out, HTK.out, HPP.out]
     rfl)
    clear hb hpv hku hfz s0 s1 s2 s3 s4 s5 s6 s7 hy2
    go_wp2
    exact ⟨⟨k + 1, rs.set k ⟨⟨y.x.f0, y.x.f1, p⟩, a4, n4, a5, n5⟩, by omega, by first | (rw [HWK.out]; simp; done) | (simp; done), ⟨by rw [List.length_set]; exact HRL.out⟩, ST, HX2, LB, FT2⟩, by first | (rw [HWK.out]; simp [intOf]; omega) | (simp [intOf]; omega)⟩
  · obtain rfl : N = k := by omega
    have hsl : s.now.length = N := by rw [HNX.out.2, HN.out]
    have hx : rs.map (fun y => y.x) = s.now.map plainS := by rw [HX.out, List.take_of_length_le (by omega), List.drop_of_length_le (by omega), List.append_nil]
    have HXX := A_ hx
    obtain ⟨rn, hrn⟩ : ∃ rn, rn = rs.length := ⟨_, rfl⟩
    have hrN : rn = N := by rw [hrn]; exact HRL.out
    subst hrN
    have HR2 := A_ hrn
    clear hx hsl hrn
    go_wp2
    go_ret
    exact ⟨g, c, rs, by rw [← HR2.out]; rfl, HO.out, HXX.out, fun y hy => by
     obtain ⟨j, hj⟩ := List.getElem?_of_mem hy
     have hjl := (List.getElem?_eq_some_iff.1 hj).1
     have h := HFT.out j (by have := HR2.out; omega)
     rw [List.getD_eq_getElem?_getD, hj] at h
     exact h, HB2.out⟩
theorem L_slotsT {b0 wb : Nat} {X : Nat → Prop} {s : WS} {W : World} (h : Wk b0 wb X s W) (ho : OkS s) (hl : s.now.length ≤ 90000) : Calls Try.prog 30 #[.pointer (some ⟨wb, 0, none⟩)] W fun e w' => ∃ g' c' rs', e = .returned (.slice (some ⟨g', 0, none⟩) rs'.length c') ∧ OwnS W.heap.size g' c' rs' w' ∧ rs'.map (fun y => y.x) = s.now.map plainS ∧ (∀ y ∈ rs', FT y w') ∧ RowKit.Below W.heap.size W w' := by
 obtain ⟨L, rfl, hw, hX⟩ := h
 exact wslots_typed b0 L s W hw (by rw [← hw.len]; exact ho.2.2.1) (by rw [← hw.len]; exact hl) (fun x hx => (ho.1 x hx).1)
structure StepOk (s0 s : WS) (k : Nat) : Prop where
 ok : OkS s
 base : s.base = s0.base
 bn : s.bn = s0.bn
 bg : s.bg = s0.bg
 lo : s0.now.length ≤ s.now.length
 hi : s.now.length ≤ s0.now.length + k
 zero : s.now.getD 0 z69 = s0.now.getD 0 z69
theorem getD_set_pos (l : List S69) (i : Nat) (y : S69) (hi : 1 ≤ i) : (l.set i y).getD 0 z69 = l.getD 0 z69 := by
 rw [List.getD_eq_getElem?_getD, List.getElem?_set, if_neg (by omega), List.getD_eq_getElem?_getD]
theorem StepOk.step {s0 s : WS} {k : Nat} (h : StepOk s0 s k) (m x1 x2 : Int) (xv : S35) (hf : fewV xv) : StepOk s0 (stepM s m x1 x2 xv) (k + 1) := by
 have hlo := h.lo
 have hhi := h.hi
 have hS : StepOk s0 s (k + 1) := ⟨h.ok, h.base, h.bn, h.bg, h.lo, by omega, h.zero⟩
 unfold stepM
 split
 · have ha := alloc_len s
   refine ⟨ok_alloc h.ok, ?_, ?_, ?_, ?_, by omega, ?_⟩ <;> unfold allocS <;> (try (split <;> (try split) <;> first | exact h.base | exact h.bn | exact h.bg | (simp; omega) | exact h.lo))
   · split
     · rename_i hn
       rw [getD_set_pos _ _ _ (by omega)]; exact h.zero
     split
     · exact h.zero
     · have hp := h.ok.2.2.1
       show (s.now ++ [_]).getD 0 z69 = _
       rw [List.getD_eq_getElem?_getD, List.getElem?_append_left hp, ← List.getD_eq_getElem?_getD]
       exact h.zero
 split
 · have ha := put_len s x1 x2 xv
   refine ⟨ok_put h.ok _ _ _ hf, ?_, ?_, ?_, by omega, by omega, ?_⟩ <;> unfold putW <;> split <;> first | exact h.base | exact h.bn | exact h.bg | exact h.zero | skip
   rename_i he
   have hz : findE s x1 x2 = 0 := by unfold putE at he; split at he <;> simp_all
   obtain ⟨i, rfl, hi1, _⟩ := findE_zero hz
   show (s.now.set _ _).getD 0 z69 = _
   rw [getD_set_pos _ _ _ (by simpa using hi1)]
   exact h.zero
 split
 · have ha := del_len s x1 x2
   refine ⟨ok_del h.ok _ _, ?_, ?_, ?_, by omega, by omega, ?_⟩ <;> unfold delW <;> split <;> first | exact h.base | exact h.bn | exact h.bg | exact h.zero | skip
   rename_i hz
   obtain ⟨i, rfl, hi1, _⟩ := findE_zero hz
   show (s.now.set _ _).getD 0 z69 = _
   rw [getD_set_pos _ _ _ (by simpa using hi1)]
   exact h.zero
 split
 · exact hS
 split
 · refine ⟨ok_root h.ok _ _, ?_, ?_, ?_, ?_, ?_, ?_⟩ <;> unfold rootW <;> split <;> first | exact h.base | exact h.bn | exact h.bg | exact h.lo | exact hS.hi | exact h.zero
 · exact hS
theorem small33_f (k : Nat) (l : List S69) : binderylaw33_Small.f k l = if (l.length : Int) > 60 then some false else binderylaw33_Small.l0 k l 0 := rfl
theorem small33_l0 (d : List S69) (hd : d.length ≤ 60) : ∀ (r i : Nat), d.length - i = r → i ≤ d.length → ∃ b k0, (b = true → ∀ p ∈ d.drop i, fewV p.f2) ∧ ∀ k, k0 ≤ k → binderylaw33_Small.l0 k d i = some b := by
 intro r
 induction r with
 | zero =>
   intro i hr hi
   refine ⟨true, 1, fun _ p hp => by rw [List.drop_eq_nil_of_le (by omega)] at hp; simp at hp, fun k hk => ?_⟩
   obtain ⟨k, rfl⟩ : ∃ j, k = j + 1 := ⟨k - 1, by omega⟩
   unfold binderylaw33_Small.l0
   rw [if_neg (by omega)]
 | succ r ihr =>
   intro i hr hi
   obtain ⟨b1, k1, g1, h1⟩ := few_all (d.getD i z69).f2 60 (by omega) (by omega)
   obtain ⟨b2, k2, g2, h2⟩ := ihr (i + 1) (by omega) (by omega)
   have e : rd_T69 d (i : Int) = d.getD i z69 := rfl
   have hw : wrap64 ((i : Int) + 1) = ((i + 1 : Nat) : Int) := by unfold wrap64; omega
   have hlt : i < d.length := by omega
   refine ⟨if b1 = true then b2 else false, max k1 k2 + 1, fun h p hp => ?_, fun k hk => ?_⟩
   · cases b1 with
     | false => simp at h
     | true =>
       have h' : b2 = true := by simpa using h
       rw [List.drop_eq_getElem_cons hlt] at hp
       rcases List.mem_cons.1 hp with rfl | hp
       · have := (g1 rfl).2.1
         rw [List.getD_eq_getElem?_getD, List.getElem?_eq_getElem hlt] at this
         exact this
       · exact g2 h' p hp
   · obtain ⟨k, rfl⟩ : ∃ j, k = j + 1 := ⟨k - 1, by omega⟩
     unfold binderylaw33_Small.l0
     rw [if_pos (by omega), if_pos (by omega), e, h1 k (by omega), Option.bind_some, hw, h2 k (by omega)]
     cases b1 <;> rfl
theorem small33_all (d : List S69) : ∃ b k, (b = true → d.length ≤ 60 ∧ ∀ p ∈ d, fewV p.f2) ∧ binderylaw33_Small.f k d = some b := by
 by_cases hd : (d.length : Int) > 60
 · exact ⟨false, 0, (fun h => by cases h), by rw [small33_f, if_pos hd]⟩
 · obtain ⟨b, k0, g, h⟩ := small33_l0 d (by omega) d.length 0 (by omega) (by omega)
   exact ⟨b, k0, fun hb => ⟨by omega, by simpa using g hb⟩, by rw [small33_f, if_neg hd]; exact h k0 (Nat.le_refl _)⟩
theorem Mv.keepU {b0 : Nat} {X : Nat → Prop} {W W' : World} (h : Mv b0 X W W') : KeepU b0 W W' := ⟨h.1, fun k hk => by
 obtain ⟨q, cs, hq, hc⟩ := hk
 rw [hc]
 exact h.2.1 k cs q (by rcases hq with rfl | rfl <;> decide) (by rcases hq with rfl | rfl <;> decide) hc⟩
def OwnT (b g c : Nat) (rs : List RS) (W : World) : Prop := W.ownsRow b 69 8 (.slice (some ⟨g, 0, none⟩) rs.length c) rs.length (flatS rs) ∧ ∀ y ∈ rs, FT y W
theorem OwnT.lt {b g c : Nat} {rs : List RS} {W : World} (h : OwnT b g c rs W) : b ≤ g ∧ g < W.heap.size := h.1.lt g rfl
theorem OwnT.below {b g c : Nat} {rs : List RS} {W W' : World} (h : OwnT b g c rs W) (hb : RowKit.Below W.heap.size W W') : OwnT b g c rs W' := ⟨own_move h.1 (fun k hk => hb.block k (h.1.lt k hk).2), fun y hy => (h.2 y hy).keep (KeepU.of_below (Nat.le_refl _) hb)⟩
theorem OwnT.mv {b b0 g c : Nat} {X : Nat → Prop} {rs : List RS} {W W' : World} (h : OwnT b g c rs W) (hm : Mv b0 X W W') (hX : X g) : OwnT b g c rs W' := ⟨own_move h.1 (fun k hk => by
 have e : k = g := by simpa [Value.ownBlock] using hk.symm
 subst e
 exact hm.2.2 k hX), fun y hy => (h.2 y hy).keep hm.keepU⟩
theorem OwnT.read {b g c : Nat} {rs : List RS} {W : World} (h : OwnT b g c rs W) : Kd.C k69 W (some ⟨g, 0, none⟩) rs.length (rs.map (fun y => y.x)) := Kd.F_now (close_rs (M := fun _ => True) h.1 h.2 trivial (fun _ _ => trivial))
theorem OwnT.lower {b b' g c : Nat} {rs : List RS} {W : World} (h : OwnT b g c rs W) (hb : b' ≤ b) : OwnT b' g c rs W := ⟨own_weaken h.1 hb, h.2⟩
theorem CRow.below {b : Nat} {v : Value} {xs : List (Nat × RS)} {W W' : World} (h : CRow b v xs W) (hb : RowKit.Below W.heap.size W W') : CRow b v xs W' := ⟨own_move h.1 (fun k hk => hb.block k (h.1.lt k hk).2), fun y hy => (h.2 y hy).keep (KeepU.of_below (Nat.le_refl _) hb)⟩
theorem flatC_get : ∀ (xs : List (Nat × RS)) (j t : Nat), j < xs.length → t < 9 → (flatC xs)[j * 9 + t]? = (cellsC (xs.getD j default))[t]?
 | [], j, t, h, _ => by simp at h
 | x :: r, 0, t, _, ht => by
   show (cellsC x ++ flatC r)[0 * 9 + t]? = _
   rw [Nat.zero_mul, Nat.zero_add, List.getElem?_append_left (by simpa [cellsC] using ht)]
   rfl
 | x :: r, j + 1, t, h, ht => by
   have ih := flatC_get r j t (by simpa using h) ht
   show (cellsC x ++ flatC r)[(j + 1) * 9 + t]? = _
   have hl : (cellsC x).length = 9 := rfl
   rw [List.getElem?_append_right (by omega), show (j + 1) * 9 + t - (cellsC x).length = j * 9 + t by omega, ih]
   rfl
theorem CRow.at {b g c n : Nat} {xs : List (Nat × RS)} {W : World} (h : CRow b (.slice (some ⟨g, 0, none⟩) n c) xs W) (j : Nat) (hj : j < xs.length) : ∃ y, y = xs.getD j default ∧ y ∈ xs ∧
 W.cell? ⟨g, j * 9, none⟩ = some (.int .i64 y.1) ∧ W.cell? ⟨g, j * 9 + 1, none⟩ = some (.int .i64 y.2.x.f0) ∧ W.cell? ⟨g, j * 9 + 2, none⟩ = some (.bool (!y.2.x.f1)) ∧ W.cell? ⟨g, j * 9 + 3, none⟩ = some (.int .i64 y.2.x.f2.f0) ∧ W.cell? ⟨g, j * 9 + 4, none⟩ = some (.int .i64 y.2.x.f2.f1) ∧
 W.cell? ⟨g, j * 9 + 5, none⟩ = some (.int .i64 y.2.x.f2.f2) ∧ W.cell? ⟨g, j * 9 + 6, none⟩ = some (.string y.2.x.f2.f3) ∧ W.cell? ⟨g, j * 9 + 7, none⟩ = some (.slice y.2.a4 y.2.x.f2.f4.length y.2.c4) ∧ W.cell? ⟨g, j * 9 + 8, none⟩ = some (.slice y.2.a5 y.2.x.f2.f5.length y.2.c5) := by
 obtain ⟨A, c2, he, _⟩ := own_slice h.1
 injection he with e1 e2 e3
 have h1 := h.1
 rw [e2] at h1
 have hc : ∀ t, t < 9 → W.cell? ⟨g, j * 9 + t, none⟩ = (cellsC (xs.getD j default))[t]? := fun t ht => by
  rw [h1.cellAt (j * 9 + t) (by omega), flatC_get _ _ _ hj ht]
 exact ⟨_, rfl, getD_mem _ _ hj _, hc 0 (by omega), hc 1 (by omega), hc 2 (by omega), hc 3 (by omega), hc 4 (by omega), hc 5 (by omega), hc 6 (by omega), hc 7 (by omega), hc 8 (by omega)⟩
def L2 (b wb gn cn : Nat) (rsn : List RS) (v : Value) (xs : List (Nat × RS)) (s : WS) (g c : Nat) (rs : List RS) (W : World) : Prop :=
 Wk b wb (fun k => k = g ∨ k = gn) s W ∧ OwnT b g c rs W ∧ OwnT b gn cn rsn W ∧ CRow b v xs W ∧ g ≠ gn
theorem L2.below {b wb gn cn : Nat} {rsn : List RS} {v : Value} {xs : List (Nat × RS)} {s : WS} {g c : Nat} {rs : List RS} {W W' : World} (h : L2 b wb gn cn rsn v xs s g c rs W) (hb : RowKit.Below W.heap.size W W') : L2 b wb gn cn rsn v xs s g c rs W' :=
 ⟨h.1.below hb, h.2.1.below hb, h.2.2.1.below hb, h.2.2.2.1.below hb, h.2.2.2.2⟩
theorem grown_cells (W : World) (g o : Nat) (vs : List Value) : W.grownBy (W.setCells g o vs) (some g) := by
 have hm : Moves 0 (fun k => k = g) W (W.setCells g o vs) := moves_cells (S := fun k => k = g) rfl (Nat.zero_le _) vs _ W (Moves.refl _ _ _)
 exact ⟨hm.1.os, hm.1.tape, hm.1.output, hm.1.size, fun k hk hne => hm.2.2 k hk (fun e => hne (by rw [e]))⟩
theorem row_set {W : World} {b g c : Nat} {rs : List RS} (h : W.ownsRow b 69 8 (.slice (some ⟨g, 0, none⟩) rs.length c) rs.length (flatS rs)) (i : Nat) (hi : i < rs.length) (y : RS) :
 (W.setCells g (i * 8) (encS y)).ownsRow b 69 8 (.slice (some ⟨g, 0, none⟩) (rs.set i y).length c) (rs.set i y).length (flatS (rs.set i y)) := by
 have h1 := own_store (encS y) W (rs.map encS) i 0 (encS (rs.getD i default)) h (flatS_all _) (by rw [List.getElem?_map, List.getD_eq_getElem?_getD, List.getElem?_eq_getElem hi]; rfl) (by simp [encS])
 have e : (encS (rs.getD i default)).take 0 ++ encS y ++ (encS (rs.getD i default)).drop (0 + (encS y).length) = encS y := by simp [encS]
 rw [e, ← List.map_set] at h1
 rw [List.length_set]
 exact h1
theorem OwnT.own {b g c : Nat} {rs : List RS} {W : World} (h : OwnT b g c rs W) : OwnS b g c rs W := ⟨h.1, fun y hy => FV.mono (h.2 y hy) (fun k hk => rowB_ne hk h.1)⟩
theorem set_same7 {W : World} {z T : Nat} {t0 t1 t2 t3 t4 t5 t6 : Value} (v0 v1 v2 v3 v4 v5 v6 : Value) (h : W.heap[z]? = some (.cells #[t0, t1, t2, t3, t4, t5, t6] T (0, 0))) : (W.setCells z 0 [v0, v1, v2, v3, v4, v5, v6]).heap[z]? = some (.cells #[v0, v1, v2, v3, v4, v5, v6] T (0, 0)) := by
 have e0 := heap_setCell_same _ z 0 _ T v0 h
 have e1 := heap_setCell_same _ z 1 _ T v1 e0
 have e2 := heap_setCell_same _ z 2 _ T v2 e1
 have e3 := heap_setCell_same _ z 3 _ T v3 e2
 have e4 := heap_setCell_same _ z 4 _ T v4 e3
 have e5 := heap_setCell_same _ z 5 _ T v5 e4
 have e6 := heap_setCell_same _ z 6 _ T v6 e5
 simp only [List.setIfInBounds_toArray, List.set_cons_zero, List.set_cons_succ] at e6
 simp only [World.setCells, Nat.zero_add, Nat.reduceAdd]
 exact e6
theorem set_same8 {W : World} {z T : Nat} {t0 t1 t2 t3 t4 t5 t6 t7 : Value} (v0 v1 v2 v3 v4 v5 v6 v7 : Value) (h : W.heap[z]? = some (.cells #[t0, t1, t2, t3, t4, t5, t6, t7] T (0, 0))) : (W.setCells z 0 [v0, v1, v2, v3, v4, v5, v6, v7]).heap[z]? = some (.cells #[v0, v1, v2, v3, v4, v5, v6, v7] T (0, 0)) := by
 have e0 := heap_setCell_same _ z 0 _ T v0 h
 have e1 := heap_setCell_same _ z 1 _ T v1 e0
 have e2 := heap_setCell_same _ z 2 _ T v2 e1
 have e3 := heap_setCell_same _ z 3 _ T v3 e2
 have e4 := heap_setCell_same _ z 4 _ T v4 e3
 have e5 := heap_setCell_same _ z 5 _ T v5 e4
 have e6 := heap_setCell_same _ z 6 _ T v6 e5
 have e7 := heap_setCell_same _ z 7 _ T v7 e6
 simp only [List.setIfInBounds_toArray, List.set_cons_zero, List.set_cons_succ] at e7
 simp only [World.setCells, Nat.zero_add, Nat.reduceAdd]
 exact e7
theorem frz7 {W : World} {z T : Nat} {cs : Array Value} (h : W.heap[z]? = some (.cells cs T (0, 0))) : W.frozen? ⟨z, 0, none⟩ = false ∧ W.frozen? ⟨z, 1, none⟩ = false ∧ W.frozen? ⟨z, 2, none⟩ = false ∧ W.frozen? ⟨z, 3, none⟩ = false ∧ W.frozen? ⟨z, 4, none⟩ = false ∧ W.frozen? ⟨z, 5, none⟩ = false ∧ W.frozen? ⟨z, 6, none⟩ = false :=
 ⟨blk_frozen h 0, blk_frozen h 1, blk_frozen h 2, blk_frozen h 3, blk_frozen h 4, blk_frozen h 5, blk_frozen h 6⟩
structure RL where
 gN : Nat
 cN : Nat
 rsN : List RS
 gB : Nat
 cB : Nat
 rsB : List RS
def RefIs (b : Nat → Prop) (R : RL) (s : WS) (W : World) : Prop := OwnT 0 R.gN R.cN R.rsN W ∧ R.rsN.map (fun y => y.x) = s.now ∧ OwnT 0 R.gB R.cB R.rsB W ∧ R.rsB.map (fun y => y.x) = s.base ∧ b R.gN ∧ b R.gB
def RL.cells (R : RL) (s : WS) : Array Value := #[.slice (some ⟨R.gN, 0, none⟩) R.rsN.length R.cN, .int .i64 s.rn, .int .i64 s.rg, .slice (some ⟨R.gB, 0, none⟩) R.rsB.length R.cB, .int .i64 s.bn, .int .i64 s.bg, .int .i64 s.most]
theorem RefIs.below {b : Nat → Prop} {R : RL} {s : WS} {W W' : World} (h : RefIs b R s W) (hb : RowKit.Below W.heap.size W W') : RefIs b R s W' := ⟨h.1.below hb, h.2.1, h.2.2.1.below hb, h.2.2.2⟩
theorem RefIs.slot {b : Nat → Prop} {R : RL} {s : WS} {W : World} (h : RefIs b R s W) (i : Nat) (hi : i < R.rsN.length) : ∃ y : RS, y = R.rsN.getD i default ∧ y.x = s.now.getD i z69 ∧ y ∈ R.rsN ∧
 W.cell? ⟨R.gN, i * 8, none⟩ = some (.int .i64 y.x.f0) ∧ W.cell? ⟨R.gN, i * 8 + 1, none⟩ = some (.bool y.x.f1) ∧ W.cell? ⟨R.gN, i * 8 + 2, none⟩ = some (.int .i64 y.x.f2.f0) ∧ W.cell? ⟨R.gN, i * 8 + 3, none⟩ = some (.int .i64 y.x.f2.f1) ∧
 W.cell? ⟨R.gN, i * 8 + 4, none⟩ = some (.int .i64 y.x.f2.f2) ∧ W.cell? ⟨R.gN, i * 8 + 5, none⟩ = some (.string y.x.f2.f3) ∧ W.cell? ⟨R.gN, i * 8 + 6, none⟩ = some (.slice y.a4 y.x.f2.f4.length y.c4) ∧ W.cell? ⟨R.gN, i * 8 + 7, none⟩ = some (.slice y.a5 y.x.f2.f5.length y.c5) := by
 obtain ⟨y, hy, hym, hc⟩ := h.1.own.at i hi
 refine ⟨y, hy, ?_, hym, hc⟩
 rw [← h.2.1, hy, List.getD_eq_getElem?_getD, List.getD_eq_getElem?_getD, List.getElem?_map, List.getElem?_eq_getElem hi]
 rfl
set_option maxHeartbeats 8000000 in
set_option maxRecDepth 100000 in
theorem ref_find (b : Nat → Prop) (R : RL) (s : WS) (n g : Int) (w : World) (h : RefIs b R s w) (h9 : R.rsN.length ≤ 90000) : Calls Try.prog 140 #[.agg (R.cells s), .agg #[.int .i64 n, .int .i64 g]] w fun e w' => e = .returned (.int .i64 (findE s n g)) ∧ RowKit.Below w.heap.size w w' := by
 have hu28 := Try.underlying28
 have hu46 := Try.underlying46
 have hu49 := Try.underlying49
 have hu51 := Try.underlying51
 have hu69 := Try.underlying69
 have hlen : s.now.length = R.rsN.length := by rw [← h.2.1, List.length_map]
 have hb0 := below_alloc (below_alloc (RowKit.Below.refl w.heap.size w) (.cells (R.cells s) 51)) (.cells #[.int .i64 n, .int .i64 g] 28)
 have H := A_ (h.below hb0)
 have hlt := (h.below hb0).1.lt.2
 have HLO := A_ (h.1.lt.2)
 obtain ⟨gN, cN, rsN, gB, cB, rsB⟩ := R
 simp only [RL.cells] at hb0 H hlt hlen h9 HLO ⊢
 obtain ⟨nN, hnN⟩ : ∃ nN, nN = rsN.length := ⟨_, rfl⟩
 obtain ⟨nB, hnB⟩ : ∃ nB, nB = rsB.length := ⟨_, rfl⟩
 rw [← hnN, ← hnB] at hb0 H hlt
 rw [← hnN] at hlen h9
 rw [← hnN, ← hnB]
 have HNN := A_ hnN
 have HB := A_ hb0
 obtain ⟨u0, u1, u2, u3, u4, u5, u6⟩ := box7 (blk_alloc (blk_new w (.cells #[.slice (some ⟨gN, 0, none⟩) nN cN, .int .i64 s.rn, .int .i64 s.rg, .slice (some ⟨gB, 0, none⟩) nB cB, .int .i64 s.bn, .int .i64 s.bg, .int .i64 s.most] 51)) (.cells #[.int .i64 n, .int .i64 g] 28))
 obtain ⟨z0, z1⟩ := box2 (blk_new (w.alloc (.cells #[.slice (some ⟨gN, 0, none⟩) nN cN, .int .i64 s.rn, .int .i64 s.rg, .slice (some ⟨gB, 0, none⟩) nB cB, .int .i64 s.bn, .int .i64 s.bg, .int .i64 s.most] 51)) (.cells #[.int .i64 n, .int .i64 g] 28))
 simp only [World.size_alloc] at z0 z1
 obtain ⟨r, hr⟩ : ∃ r, r = findE s n g := ⟨_, rfl⟩
 rw [← hr]
 have HE := A_ hr
 have hgw := HLO.out
 clear h hnB hb0 hr
 by_cases hA0 : n < 1
 · have hE : r = 12 := HE.out.trans (by unfold findE; rw [if_pos (.inl hA0)])
   have hA : decide (n < 1) = true := decide_eq_true hA0
   subst hE
   clear hlen hnN
   go_enter Try.func140, Try.ntmps140
   go_wp2
   go_ret
   exact ⟨rfl, HB.out⟩
 have hA : decide (n < 1) = false := decide_eq_false hA0
 by_cases hB0 : (nN : Int) ≤ n
 · have hE : r = 12 := HE.out.trans (by unfold findE; rw [if_pos (.inr (by rw [hlen]; exact hB0))])
   have hB : decide ((nN : Int) ≤ n) = true := decide_eq_true hB0
   subst hE
   clear hlen hnN
   go_enter Try.func140, Try.ntmps140
   go_wp2
   go_ret
   exact ⟨rfl, HB.out⟩
 have hB : decide ((nN : Int) ≤ n) = false := decide_eq_false hB0
 obtain ⟨i, rfl⟩ : ∃ i : Nat, n = i := ⟨n.toNat, by omega⟩
 have hiN : i < nN := by omega
 obtain ⟨y, hy, hyx, hym, s0, s1, -⟩ := H.out.slot i (by show i < rsN.length; omega)
 have hE : r = if y.x.f1 = false then 12 else if y.x.f0 ≠ g then 13 else 0 := HE.out.trans (by
  unfold findE
  rw [if_neg (by rw [hlen]; omega), Int.toNat_natCast, ← hyx])
 have hNm : nN ≤ 9223372036854775807 := by omega
 simp only [] at s0 s1
 generalize y.x.f0 = x0 at *
 generalize y.x.f1 = lv at *
 clear HE hlen hnN hy hyx hym
 cases lv
 · have hE2 : r = 12 := hE.trans (if_pos rfl)
   subst hE2
   clear hE
   go_enter Try.func140, Try.ntmps140
   go_wp2
   go_ret
   exact ⟨rfl, HB.out⟩
 · by_cases hg : x0 = g
   · subst hg
     have hE2 : r = 0 := hE.trans (by simp)
     subst hE2
     clear hE
     go_enter Try.func140, Try.ntmps140
     go_upto_region 3 with fail
     refine start_ (n := 11) (S := (fun w' => w'.cell? ⟨w.heap.size, 0, none⟩ = some (.slice (some ⟨gN, 0, none⟩) nN cN) ∧ w'.cell? ⟨w.heap.size + 1, 0, none⟩ = some (.int .i64 (i : Int)) ∧ w'.cell? ⟨w.heap.size + 1, 1, none⟩ = some (.int .i64 x0) ∧ w'.cell? ⟨gN, i * 8, none⟩ = some (.int .i64 x0))) (ds := [10]) #[false, false, false, false, false, false, false, false, false, false, false] (by kernel_rfl) rfl rfl (by refine ⟨?_, ?_, ?_, ?_⟩ <;> go_simp) (fun hHeld => ?_)
     have HH := A_ hHeld
     clear hHeld
     refine pu_ 0 28 ?_
     refine pu_ 1 29 ?_
     refine ta_ 2 30 HH.out ?_
     refine pu_ 3 31 ?_
     refine ta_ 4 32 HH.out ?_
     refine pu_ 5 33 ?_
     refine pu_ 6 34 ?_
     refine ta_ 7 35 HH.out ?_
     refine pu_ 8 36 ?_
     refine ta_ 9 37 HH.out ?_
     refine chain_ [10] _ _ _ _ (⟨_, _, rfl, rfl, rfl⟩) (by kernel_rfl) (by decide) ?_
     go_wp2
     go_ret
     exact ⟨rfl, HB.out.drew⟩
   · have hE2 : r = 13 := hE.trans (by simp [hg])
     have hgb : (x0 != g) = true := by simpa using hg
     subst hE2
     clear hE
     go_enter Try.func140, Try.ntmps140
     go_upto_region 3 with fail
     refine start_ (n := 11) (S := (fun w' => w'.cell? ⟨w.heap.size, 0, none⟩ = some (.slice (some ⟨gN, 0, none⟩) nN cN) ∧ w'.cell? ⟨w.heap.size + 1, 0, none⟩ = some (.int .i64 (i : Int)) ∧ w'.cell? ⟨w.heap.size + 1, 1, none⟩ = some (.int .i64 g) ∧ w'.cell? ⟨gN, i * 8, none⟩ = some (.int .i64 x0))) (ds := [10]) #[false, false, false, false, false, false, false, false, false, false, false] (by kernel_rfl) rfl rfl (by refine ⟨?_, ?_, ?_, ?_⟩ <;> go_simp) (fun hHeld => ?_)
     have HH := A_ hHeld
     clear hHeld
     refine pu_ 0 28 ?_
     refine pu_ 1 29 ?_
     refine ta_ 2 30 HH.out ?_
     refine pu_ 3 31 ?_
     refine ta_ 4 32 HH.out ?_
     refine pu_ 5 33 ?_
     refine pu_ 6 34 ?_
     refine ta_ 7 35 HH.out ?_
     refine pu_ 8 36 ?_
     refine ta_ 9 37 HH.out ?_
     refine chain_ [10] _ _ _ _ (⟨_, _, rfl, rfl, rfl⟩) (by kernel_rfl) (by decide) ?_
     go_wp2
     go_ret
     exact ⟨rfl, HB.out.drew⟩
theorem below_setcells {b g : Nat} {X : World} (hb : b ≤ g) (o : Nat) (vs : List Value) : RowKit.Below b X (X.setCells g o vs) := (moves_cells (b0 := b) (S := fun k => k = g) rfl hb vs o X (Moves.refl _ _ _)).1
set_option maxHeartbeats 8000000 in
set_option maxRecDepth 100000 in
theorem ref_with (b : Nat → Prop) (R : RL) (s : WS) (i : Nat) (y : RS) (w : World) (h : RefIs b R s w) (h0 : ∀ k, w.heap.size ≤ k → b k) (h9 : R.rsN.length ≤ 90000) (hi : i < R.rsN.length) (hy : FT y w) : Calls Try.prog 139 #[.agg (R.cells s), .int .i64 (i : Int), .agg #[.int .i64 y.x.f0, .bool y.x.f1, .int .i64 y.x.f2.f0, .int .i64 y.x.f2.f1, .int .i64 y.x.f2.f2, .string y.x.f2.f3, .slice y.a4 y.x.f2.f4.length y.c4, .slice y.a5 y.x.f2.f5.length y.c5]] w fun e w' => ∃ R', e = .returned (.agg (R'.cells { s with now := s.now.set i y.x })) ∧ RefIs b R' { s with now := s.now.set i y.x } w' ∧ RowKit.Below w.heap.size w w' := by
 have hu46 := Try.underlying46
 have hu49 := Try.underlying49
 have hu51 := Try.underlying51
 have hu69 := Try.underlying69
 obtain ⟨i0, hi0, hz0, hz1, hz2⟩ := info_parts info69
 obtain ⟨gN, cN, rsN, gB, cB, rsB⟩ := R
 simp only [RL.cells] at h9 hi ⊢
 have H := A_ h
 have HY := A_ hy
 have hgN := h.1.lt.2
 obtain ⟨nN, hnN⟩ : ∃ nN, nN = rsN.length := ⟨_, rfl⟩
 obtain ⟨nB, hnB⟩ : ∃ nB, nB = rsB.length := ⟨_, rfl⟩
 rw [← hnN] at h9 hi
 rw [← hnN, ← hnB]
 have HNN := A_ (And.intro hnN hnB)
 have HFL := A_ (show (flatS rsN).length = nN * 8 by rw [hnN]; exact flatS_len rsN)
 have HF1 := A_ (flatS_one rsN)
 have hb3 := below_alloc (below_alloc (below_alloc (RowKit.Below.refl w.heap.size w) (.cells #[.slice (some ⟨gN, 0, none⟩) nN cN, .int .i64 s.rn, .int .i64 s.rg, .slice (some ⟨gB, 0, none⟩) nB cB, .int .i64 s.bn, .int .i64 s.bg, .int .i64 s.most] 51)) (.cells #[.int .i64 y.x.f0, .bool y.x.f1, .int .i64 y.x.f2.f0, .int .i64 y.x.f2.f1, .int .i64 y.x.f2.f2, .string y.x.f2.f3, .slice y.a4 y.x.f2.f4.length y.c4, .slice y.a5 y.x.f2.f5.length y.c5] 69)) (.cells #[.slice none 0 0, .int .i64 0, .int .i64 0, .slice none 0 0, .int .i64 0, .int .i64 0, .int .i64 0] 51)
 have HB4 := A_ (below_alloc hb3 (.cells #[] 69))
 have HC := A_ (show ∀ j u, (flatS rsN)[j]? = some u → ((((w.alloc (.cells #[.slice (some ⟨gN, 0, none⟩) nN cN, .int .i64 s.rn, .int .i64 s.rg, .slice (some ⟨gB, 0, none⟩) nB cB, .int .i64 s.bn, .int .i64 s.bg, .int .i64 s.most] 51)).alloc (.cells #[.int .i64 y.x.f0, .bool y.x.f1, .int .i64 y.x.f2.f0, .int .i64 y.x.f2.f1, .int .i64 y.x.f2.f2, .string y.x.f2.f3, .slice y.a4 y.x.f2.f4.length y.c4, .slice y.a5 y.x.f2.f5.length y.c5] 69)).alloc (.cells #[.slice none 0 0, .int .i64 0, .int .i64 0, .slice none 0 0, .int .i64 0, .int .i64 0, .int .i64 0] 51)).alloc (.cells #[] 69)).cell? ((⟨gN, 0, none⟩ : Addr).add j) = some u from fun j u hj => by
  have h1 := own_cells h.1.1 j u hj
  exact ((below_alloc hb3 (.cells #[] 69)).cell (World.block_lt_of_cell? w _ h1)).trans h1)
 have BX := A_ (blk_alloc (blk_alloc (blk_alloc (blk_new w (.cells #[.slice (some ⟨gN, 0, none⟩) nN cN, .int .i64 s.rn, .int .i64 s.rg, .slice (some ⟨gB, 0, none⟩) nB cB, .int .i64 s.bn, .int .i64 s.bg, .int .i64 s.most] 51)) (.cells #[.int .i64 y.x.f0, .bool y.x.f1, .int .i64 y.x.f2.f0, .int .i64 y.x.f2.f1, .int .i64 y.x.f2.f2, .string y.x.f2.f3, .slice y.a4 y.x.f2.f4.length y.c4, .slice y.a5 y.x.f2.f5.length y.c5] 69)) (.cells #[.slice none 0 0, .int .i64 0, .int .i64 0, .slice none 0 0, .int .i64 0, .int .i64 0, .int .i64 0] 51)) (.cells #[] 69))
 have BY := A_ (blk_alloc (blk_alloc (blk_new (w.alloc (.cells #[.slice (some ⟨gN, 0, none⟩) nN cN, .int .i64 s.rn, .int .i64 s.rg, .slice (some ⟨gB, 0, none⟩) nB cB, .int .i64 s.bn, .int .i64 s.bg, .int .i64 s.most] 51)) (.cells #[.int .i64 y.x.f0, .bool y.x.f1, .int .i64 y.x.f2.f0, .int .i64 y.x.f2.f1, .int .i64 y.x.f2.f2, .string y.x.f2.f3, .slice y.a4 y.x.f2.f4.length y.c4, .slice y.a5 y.x.f2.f5.length y.c5] 69)) (.cells #[.slice none 0 0, .int .i64 0, .int .i64 0, .slice none 0 0, .int .i64 0, .int .i64 0, .int .i64 0] 51)) (.cells #[] 69))
 have BZ := A_ (blk_alloc (blk_new ((w.alloc (.cells #[.slice (some ⟨gN, 0, none⟩) nN cN, .int .i64 s.rn, .int .i64 s.rg, .slice (some ⟨gB, 0, none⟩) nB cB, .int .i64 s.bn, .int .i64 s.bg, .int .i64 s.most] 51)).alloc (.cells #[.int .i64 y.x.f0, .bool y.x.f1, .int .i64 y.x.f2.f0, .int .i64 y.x.f2.f1, .int .i64 y.x.f2.f2, .string y.x.f2.f3, .slice y.a4 y.x.f2.f4.length y.c4, .slice y.a5 y.x.f2.f5.length y.c5] 69)) (.cells #[.slice none 0 0, .int .i64 0, .int .i64 0, .slice none 0 0, .int .i64 0, .int .i64 0, .int .i64 0] 51)) (.cells #[] 69))
 have OW := A_ (World.ownsRow_lit (base := w.heap.size + 1 + 1 + 1) (e := 69) (size := 8) (((w.alloc (.cells #[.slice (some ⟨gN, 0, none⟩) nN cN, .int .i64 s.rn, .int .i64 s.rg, .slice (some ⟨gB, 0, none⟩) nB cB, .int .i64 s.bn, .int .i64 s.bg, .int .i64 s.most] 51)).alloc (.cells #[.int .i64 y.x.f0, .bool y.x.f1, .int .i64 y.x.f2.f0, .int .i64 y.x.f2.f1, .int .i64 y.x.f2.f2, .string y.x.f2.f3, .slice y.a4 y.x.f2.f4.length y.c4, .slice y.a5 y.x.f2.f5.length y.c5] 69)).alloc (.cells #[.slice none 0 0, .int .i64 0, .int .i64 0, .slice none 0 0, .int .i64 0, .int .i64 0, .int .i64 0] 51)) #[] 0 (by simp) (by simp [maxLen]) (by simp))
 simp only [World.size_alloc] at BX BY BZ OW
 obtain ⟨u0, u1, u2, u3, u4, u5, u6⟩ := box7 BX.out
 obtain ⟨v0, v1, v2, v3, v4, v5, v6, v7⟩ := box8 BY.out
 have hs4 : ((((w.alloc (.cells #[.slice (some ⟨gN, 0, none⟩) nN cN, .int .i64 s.rn, .int .i64 s.rg, .slice (some ⟨gB, 0, none⟩) nB cB, .int .i64 s.bn, .int .i64 s.bg, .int .i64 s.most] 51)).alloc (.cells #[.int .i64 y.x.f0, .bool y.x.f1, .int .i64 y.x.f2.f0, .int .i64 y.x.f2.f1, .int .i64 y.x.f2.f2, .string y.x.f2.f3, .slice y.a4 y.x.f2.f4.length y.c4, .slice y.a5 y.x.f2.f5.length y.c5] 69)).alloc (.cells #[.slice none 0 0, .int .i64 0, .int .i64 0, .slice none 0 0, .int .i64 0, .int .i64 0, .int .i64 0] 51)).alloc (.cells #[] 69)).heap.size = w.heap.size + 4 := by simp
 clear h hy hnN hnB hb3
 go_enter Try.func139, Try.ntmps139
 go_wp2_with (first | ((with_reducible refine gate_dst (N := 12) rfl ?_); refine wpList_append_own ((((w.alloc (.cells #[.slice (some ⟨gN, 0, none⟩) nN cN, .int .i64 s.rn, .int .i64 s.rg, .slice (some ⟨gB, 0, none⟩) nB cB, .int .i64 s.bn, .int .i64 s.bg, .int .i64 s.most] 51)).alloc (.cells #[.int .i64 y.x.f0, .bool y.x.f1, .int .i64 y.x.f2.f0, .int .i64 y.x.f2.f1, .int .i64 y.x.f2.f2, .string y.x.f2.f3, .slice y.a4 y.x.f2.f4.length y.c4, .slice y.a5 y.x.f2.f5.length y.c5] 69)).alloc (.cells #[.slice none 0 0, .int .i64 0, .int .i64 0, .slice none 0 0, .int .i64 0, .int .i64 0, .int .i64 0] 51)).alloc (.cells #[] 69)) rfl (.tmp 8) (.tmp 11) 46 rfl (w.heap.size + 1 + 1 + 1) 69 i0 (.agg #[(.int .i64 0), (.bool false), (.int .i64 0), (.int .i64 0), (.int .i64 0), (.string ⟨#[]⟩), (.slice none 0 0), (.slice none 0 0)]) 8 104 Try.underlying46 hi0 hz0 hz1 hz2 rfl (by decide) (.slice (some ⟨w.heap.size + 1 + 1 + 1, 0, none⟩) 0 0) 0 [] rfl OW.out ⟨gN, 0, none⟩ nN cN (flatS rsN) rfl HFL.out HC.out HF1.out (by simp only [maxLen]; omega) (by omega) (by omega) ?_))
 intro v' w5 hown hgrow hnil
 obtain ⟨g1, c1, hv, ho⟩ : ∃ g1 c1, v' = .slice (some ⟨g1, 0, none⟩) nN c1 ∧ w5.ownsRow (w.heap.size + 1 + 1 + 1) 69 8 (.slice (some ⟨g1, 0, none⟩) nN c1) nN (flatS rsN) := by
  obtain ⟨m, rfl⟩ : ∃ m, nN = m + 1 := ⟨nN - 1, by omega⟩
  have hown' : w5.ownsRow (w.heap.size + 1 + 1 + 1) 69 8 v' (m + 1) (flatS rsN) := by simpa using hown
  obtain ⟨g1, c1, rfl⟩ := ownsRow_succ hown'
  exact ⟨g1, c1, rfl, hown'⟩
 subst hv
 have hg1 := ho.lt g1 rfl
 have hgs := hgrow.size
 have hne : ∀ k, k < w.heap.size + 3 → w5.heap[k]? = ((((w.alloc (.cells #[.slice (some ⟨gN, 0, none⟩) nN cN, .int .i64 s.rn, .int .i64 s.rg, .slice (some ⟨gB, 0, none⟩) nB cB, .int .i64 s.bn, .int .i64 s.bg, .int .i64 s.most] 51)).alloc (.cells #[.int .i64 y.x.f0, .bool y.x.f1, .int .i64 y.x.f2.f0, .int .i64 y.x.f2.f1, .int .i64 y.x.f2.f2, .string y.x.f2.f3, .slice y.a4 y.x.f2.f4.length y.c4, .slice y.a5 y.x.f2.f5.length y.c5] 69)).alloc (.cells #[.slice none 0 0, .int .i64 0, .int .i64 0, .slice none 0 0, .int .i64 0, .int .i64 0, .int .i64 0] 51)).alloc (.cells #[] 69)).heap[k]? := fun k hk => hgrow.block k (by omega) (fun e => by simp [Value.ownBlock] at e; omega)
 have BX5 := A_ ((hne w.heap.size (by omega)).trans BX.out)
 have BY5 := A_ ((hne (w.heap.size + 1) (by omega)).trans BY.out)
 have BZ5 := A_ ((hne (w.heap.size + 1 + 1) (by omega)).trans BZ.out)
 have HB5 := A_ (HB4.out.grown hgrow (by omega) (fun k hk => by simp [Value.ownBlock] at hk; omega))
 have O5 := A_ (show OwnS w.heap.size g1 c1 rsN w5 from ⟨by rw [← HNN.out.1]; exact own_weaken ho (by omega), fun z hz => FV.mono ((H.out.1.2 z hz).keep (KeepU.of_below (Nat.le_refl _) HB5.out)) (fun k hk => rowB_ne hk ho)⟩)
 have HFY := A_ (HY.out.keep (KeepU.of_below (Nat.le_refl _) HB5.out))
 have hs5 : w.heap.size + 4 ≤ w5.heap.size := by omega
 clear u0 u1 u2 u3 u4 u5 u6 v0 v1 v2 v3 v4 v5 v6 v7 hown ho hgrow hnil hne hgs hs4 HC HB4 BX BY BZ OW
 obtain ⟨u0, u1, u2, u3, u4, u5, u6⟩ := box7 BX5.out
 obtain ⟨v0, v1, v2, v3, v4, v5, v6, v7⟩ := box8 BY5.out
 obtain ⟨t0, t1, t2, t3, t4, t5, t6⟩ := box7 BZ5.out
 obtain ⟨y2, -, -, z0, z1, z2, z3, z4, z5, z6, z7⟩ := O5.out.at i (by have := HNN.out.1; omega)
 have hfz := O5.out.1.frozenAt
 have fz0 := hfz (i * 8)
 have fz1 := hfz (i * 8 + 1)
 have fz2 := hfz (i * 8 + 2)
 have fz3 := hfz (i * 8 + 3)
 have fz4 := hfz (i * 8 + 4)
 have fz5 := hfz (i * 8 + 5)
 have fz6 := hfz (i * 8 + 6)
 have fz7 := hfz (i * 8 + 7)
 have fx := blk_frozen BX5.out
 have fx0 := fx 0
 have fzz := blk_frozen BZ5.out
 have fq0 := fzz 0
 have fq1 := fzz 1
 have fq2 := fzz 2
 have fq3 := fzz 3
 have fq4 := fzz 4
 have fq5 := fzz 5
 have fq6 := fzz 6
 have hi9 : nN ≤ 9223372036854775807 := by omega
 have hil : (i : Int) < (nN : Int) := by omega
 have n1 : g1 ≠ w.heap.size := by omega
 have n2 : g1 ≠ w.heap.size + 1 := by omega
 have n3 : g1 ≠ w.heap.size + 1 + 1 := by omega
 clear hfz fx fzz
 have hrow := row_set O5.out.1 i (by have := HNN.out.1; omega) y
 have hlr : (rsN.set i y).length = nN := by rw [List.length_set, HNN.out.1]
 have hrow2 : (((w5.setCells g1 (i * 8) (encS y)).setCell ⟨w.heap.size, 0, none⟩ (.slice (some ⟨g1, 0, none⟩) nN c1)).setCells (w.heap.size + 1 + 1) 0 [.slice (some ⟨g1, 0, none⟩) nN c1, .int .i64 s.rn, .int .i64 s.rg, .slice (some ⟨gB, 0, none⟩) nB cB, .int .i64 s.bn, .int .i64 s.bg, .int .i64 s.most]).ownsRow w.heap.size 69 8 (.slice (some ⟨g1, 0, none⟩) (rsN.set i y).length c1) (rsN.set i y).length (flatS (rsN.set i y)) := by
  have h1 := ownsRow_setCell_other hrow (a := ⟨w.heap.size, 0, none⟩) (by simp [Value.ownBlock]; omega) (.slice (some ⟨g1, 0, none⟩) nN c1)
  refine own_move h1 (fun k hk => cells_other (fun e => ?_) (h1.lt k hk).2 _ _)
  have e2 : k = g1 := by simpa [Value.ownBlock] using hk.symm
  omega
 have HBF := A_ (show RowKit.Below w.heap.size w (((w5.setCells g1 (i * 8) (encS y)).setCell ⟨w.heap.size, 0, none⟩ (.slice (some ⟨g1, 0, none⟩) nN c1)).setCells (w.heap.size + 1 + 1) 0 [.slice (some ⟨g1, 0, none⟩) nN c1, .int .i64 s.rn, .int .i64 s.rg, .slice (some ⟨gB, 0, none⟩) nB cB, .int .i64 s.bn, .int .i64 s.bg, .int .i64 s.most]) from HB5.out.trans (((below_setcells (b := w.heap.size) (g := g1) (by omega) (i * 8) (encS y)).setCell (p := ⟨w.heap.size, 0, none⟩) (Nat.le_refl _) _).trans (below_setcells (b := w.heap.size) (g := w.heap.size + 1 + 1) (by omega) 0 _)))
 have hz : ((w5.setCells g1 (i * 8) (encS y)).setCell ⟨w.heap.size, 0, none⟩ (.slice (some ⟨g1, 0, none⟩) nN c1)).heap[w.heap.size + 1 + 1]? = _ := (RowKit.Below.heap_setCell _ ⟨w.heap.size, 0, none⟩ _ (w.heap.size + 1 + 1) (by show w.heap.size + 1 + 1 ≠ w.heap.size; omega)).trans ((cells_other (fun e => n3 e.symm) (by omega) (encS y) (i * 8)).trans BZ5.out)
 have e0 := heap_setCell_same _ (w.heap.size + 1 + 1) 0 _ 51 (.slice (some ⟨g1, 0, none⟩) nN c1) hz
 have e1 := heap_setCell_same _ (w.heap.size + 1 + 1) 1 _ 51 (.int .i64 s.rn) e0
 have e2 := heap_setCell_same _ (w.heap.size + 1 + 1) 2 _ 51 (.int .i64 s.rg) e1
 have e3 := heap_setCell_same _ (w.heap.size + 1 + 1) 3 _ 51 (.slice (some ⟨gB, 0, none⟩) nB cB) e2
 have e4 := heap_setCell_same _ (w.heap.size + 1 + 1) 4 _ 51 (.int .i64 s.bn) e3
 have e5 := heap_setCell_same _ (w.heap.size + 1 + 1) 5 _ 51 (.int .i64 s.bg) e4
 have e6 := heap_setCell_same _ (w.heap.size + 1 + 1) 6 _ 51 (.int .i64 s.most) e5
 have HRW := A_ hrow2
 have HLR := A_ hlr
 have E6 := A_ e6
 clear hrow hrow2 hlr hz e0 e1 e2 e3 e4 e5 e6
 go_wp2
 obtain ⟨r0, r1, r2, r3, r4, r5, r6⟩ := box7 (c0 := .slice (some ⟨g1, 0, none⟩) nN c1) (c1 := .int .i64 s.rn) (c2 := .int .i64 s.rg) (c3 := .slice (some ⟨gB, 0, none⟩) nB cB) (c4 := .int .i64 s.bn) (c5 := .int .i64 s.bg) (c6 := .int .i64 s.most) E6.out
 refine bodyPost_ret (v := .agg #[.slice (some ⟨g1, 0, none⟩) nN c1, .int .i64 s.rn, .int .i64 s.rg, .slice (some ⟨gB, 0, none⟩) nB cB, .int .i64 s.bn, .int .i64 s.bg, .int .i64 s.most]) (by
  have r0' : ((((((((((((((((w5.setCell ⟨g1, i * 8, none⟩ (.int .i64 y.x.f0)).setCell ⟨g1, i * 8 + 1, none⟩ (.bool y.x.f1)).setCell ⟨g1, i * 8 + 2, none⟩ (.int .i64 y.x.f2.f0)).setCell ⟨g1, i * 8 + 3, none⟩ (.int .i64 y.x.f2.f1)).setCell ⟨g1, i * 8 + 4, none⟩ (.int .i64 y.x.f2.f2)).setCell ⟨g1, i * 8 + 5, none⟩ (.string y.x.f2.f3)).setCell ⟨g1, i * 8 + 6, none⟩ (.slice y.a4 y.x.f2.f4.length y.c4)).setCell ⟨g1, i * 8 + 7, none⟩ (.slice y.a5 y.x.f2.f5.length y.c5)).setCell ⟨w.heap.size, 0, none⟩ (.slice (some ⟨g1, 0, none⟩) nN c1)).setCell ⟨w.heap.size + 1 + 1, 0, none⟩ (.slice (some ⟨g1, 0, none⟩) nN c1)).setCell ⟨w.heap.size + 1 + 1, 1, none⟩ (.int .i64 s.rn)).setCell ⟨w.heap.size + 1 + 1, 2, none⟩ (.int .i64 s.rg)).setCell ⟨w.heap.size + 1 + 1, 3, none⟩ (.slice (some ⟨gB, 0, none⟩) nB cB)).setCell ⟨w.heap.size + 1 + 1, 4, none⟩ (.int .i64 s.bn)).setCell ⟨w.heap.size + 1 + 1, 5, none⟩ (.int .i64 s.bg)).setCell ⟨w.heap.size + 1 + 1, 6, none⟩ (.int .i64 s.most)).cell? ⟨w.heap.size + 1 + 1, 0, none⟩ = some (.slice (some ⟨g1, 0, none⟩) nN c1) := r0
  have r1' : ((((((((((((((((w5.setCell ⟨g1, i * 8, none⟩ (.int .i64 y.x.f0)).setCell ⟨g1, i * 8 + 1, none⟩ (.bool y.x.f1)).setCell ⟨g1, i * 8 + 2, none⟩ (.int .i64 y.x.f2.f0)).setCell ⟨g1, i * 8 + 3, none⟩ (.int .i64 y.x.f2.f1)).setCell ⟨g1, i * 8 + 4, none⟩ (.int .i64 y.x.f2.f2)).setCell ⟨g1, i * 8 + 5, none⟩ (.string y.x.f2.f3)).setCell ⟨g1, i * 8 + 6, none⟩ (.slice y.a4 y.x.f2.f4.length y.c4)).setCell ⟨g1, i * 8 + 7, none⟩ (.slice y.a5 y.x.f2.f5.length y.c5)).setCell ⟨w.heap.size, 0, none⟩ (.slice (some ⟨g1, 0, none⟩) nN c1)).setCell ⟨w.heap.size + 1 + 1, 0, none⟩ (.slice (some ⟨g1, 0, none⟩) nN c1)).setCell ⟨w.heap.size + 1 + 1, 1, none⟩ (.int .i64 s.rn)).setCell ⟨w.heap.size + 1 + 1, 2, none⟩ (.int .i64 s.rg)).setCell ⟨w.heap.size + 1 + 1, 3, none⟩ (.slice (some ⟨gB, 0, none⟩) nB cB)).setCell ⟨w.heap.size + 1 + 1, 4, none⟩ (.int .i64 s.bn)).setCell ⟨w.heap.size + 1 + 1, 5, none⟩ (.int .i64 s.bg)).setCell ⟨w.heap.size + 1 + 1, 6, none⟩ (.int .i64 s.most)).cell? ⟨w.heap.size + 1 + 1, 1, none⟩ = some (.int .i64 s.rn) := r1
  have r2' : ((((((((((((((((w5.setCell ⟨g1, i * 8, none⟩ (.int .i64 y.x.f0)).setCell ⟨g1, i * 8 + 1, none⟩ (.bool y.x.f1)).setCell ⟨g1, i * 8 + 2, none⟩ (.int .i64 y.x.f2.f0)).setCell ⟨g1, i * 8 + 3, none⟩ (.int .i64 y.x.f2.f1)).setCell ⟨g1, i * 8 + 4, none⟩ (.int .i64 y.x.f2.f2)).setCell ⟨g1, i * 8 + 5, none⟩ (.string y.x.f2.f3)).setCell ⟨g1, i * 8 + 6, none⟩ (.slice y.a4 y.x.f2.f4.length y.c4)).setCell ⟨g1, i * 8 + 7, none⟩ (.slice y.a5 y.x.f2.f5.length y.c5)).setCell ⟨w.heap.size, 0, none⟩ (.slice (some ⟨g1, 0, none⟩) nN c1)).setCell ⟨w.heap.size + 1 + 1, 0, none⟩ (.slice (some ⟨g1, 0, none⟩) nN c1)).setCell ⟨w.heap.size + 1 + 1, 1, none⟩ (.int .i64 s.rn)).setCell ⟨w.heap.size + 1 + 1, 2, none⟩ (.int .i64 s.rg)).setCell ⟨w.heap.size + 1 + 1, 3, none⟩ (.slice (some ⟨gB, 0, none⟩) nB cB)).setCell ⟨w.heap.size + 1 + 1, 4, none⟩ (.int .i64 s.bn)).setCell ⟨w.heap.size + 1 + 1, 5, none⟩ (.int .i64 s.bg)).setCell ⟨w.heap.size + 1 + 1, 6, none⟩ (.int .i64 s.most)).cell? ⟨w.heap.size + 1 + 1, 2, none⟩ = some (.int .i64 s.rg) := r2
  have r3' : ((((((((((((((((w5.setCell ⟨g1, i * 8, none⟩ (.int .i64 y.x.f0)).setCell ⟨g1, i * 8 + 1, none⟩ (.bool y.x.f1)).setCell ⟨g1, i * 8 + 2, none⟩ (.int .i64 y.x.f2.f0)).setCell ⟨g1, i * 8 + 3, none⟩ (.int .i64 y.x.f2.f1)).setCell ⟨g1, i * 8 + 4, none⟩ (.int .i64 y.x.f2.f2)).setCell ⟨g1, i * 8 + 5, none⟩ (.string y.x.f2.f3)).setCell ⟨g1, i * 8 + 6, none⟩ (.slice y.a4 y.x.f2.f4.length y.c4)).setCell ⟨g1, i * 8 + 7, none⟩ (.slice y.a5 y.x.f2.f5.length y.c5)).setCell ⟨w.heap.size, 0, none⟩ (.slice (some ⟨g1, 0, none⟩) nN c1)).setCell ⟨w.heap.size + 1 + 1, 0, none⟩ (.slice (some ⟨g1, 0, none⟩) nN c1)).setCell ⟨w.heap.size + 1 + 1, 1, none⟩ (.int .i64 s.rn)).setCell ⟨w.heap.size + 1 + 1, 2, none⟩ (.int .i64 s.rg)).setCell ⟨w.heap.size + 1 + 1, 3, none⟩ (.slice (some ⟨gB, 0, none⟩) nB cB)).setCell ⟨w.heap.size + 1 + 1, 4, none⟩ (.int .i64 s.bn)).setCell ⟨w.heap.size + 1 + 1, 5, none⟩ (.int .i64 s.bg)).setCell ⟨w.heap.size + 1 + 1, 6, none⟩ (.int .i64 s.most)).cell? ⟨w.heap.size + 1 + 1, 3, none⟩ = some (.slice (some ⟨gB, 0, none⟩) nB cB) := r3
  have r4' : ((((((((((((((((w5.setCell ⟨g1, i * 8, none⟩ (.int .i64 y.x.f0)).setCell ⟨g1, i * 8 + 1, none⟩ (.bool y.x.f1)).setCell ⟨g1, i * 8 + 2, none⟩ (.int .i64 y.x.f2.f0)).setCell ⟨g1, i * 8 + 3, none⟩ (.int .i64 y.x.f2.f1)).setCell ⟨g1, i * 8 + 4, none⟩ (.int .i64 y.x.f2.f2)).setCell ⟨g1, i * 8 + 5, none⟩ (.string y.x.f2.f3)).setCell ⟨g1, i * 8 + 6, none⟩ (.slice y.a4 y.x.f2.f4.length y.c4)).setCell ⟨g1, i * 8 + 7, none⟩ (.slice y.a5 y.x.f2.f5.length y.c5)).setCell ⟨w.heap.size, 0, none⟩ (.slice (some ⟨g1, 0, none⟩) nN c1)).setCell ⟨w.heap.size + 1 + 1, 0, none⟩ (.slice (some ⟨g1, 0, none⟩) nN c1)).setCell ⟨w.heap.size + 1 + 1, 1, none⟩ (.int .i64 s.rn)).setCell ⟨w.heap.size + 1 + 1, 2, none⟩ (.int .i64 s.rg)).setCell ⟨w.heap.size + 1 + 1, 3, none⟩ (.slice (some ⟨gB, 0, none⟩) nB cB)).setCell ⟨w.heap.size + 1 + 1, 4, none⟩ (.int .i64 s.bn)).setCell ⟨w.heap.size + 1 + 1, 5, none⟩ (.int .i64 s.bg)).setCell ⟨w.heap.size + 1 + 1, 6, none⟩ (.int .i64 s.most)).cell? ⟨w.heap.size + 1 + 1, 4, none⟩ = some (.int .i64 s.bn) := r4
  have r5' : ((((((((((((((((w5.setCell ⟨g1, i * 8, none⟩ (.int .i64 y.x.f0)).setCell ⟨g1, i * 8 + 1, none⟩ (.bool y.x.f1)).setCell ⟨g1, i * 8 + 2, none⟩ (.int .i64 y.x.f2.f0)).setCell ⟨g1, i * 8 + 3, none⟩ (.int .i64 y.x.f2.f1)).setCell ⟨g1, i * 8 + 4, none⟩ (.int .i64 y.x.f2.f2)).setCell ⟨g1, i * 8 + 5, none⟩ (.string y.x.f2.f3)).setCell ⟨g1, i * 8 + 6, none⟩ (.slice y.a4 y.x.f2.f4.length y.c4)).setCell ⟨g1, i * 8 + 7, none⟩ (.slice y.a5 y.x.f2.f5.length y.c5)).setCell ⟨w.heap.size, 0, none⟩ (.slice (some ⟨g1, 0, none⟩) nN c1)).setCell ⟨w.heap.size + 1 + 1, 0, none⟩ (.slice (some ⟨g1, 0, none⟩) nN c1)).setCell ⟨w.heap.size + 1 + 1, 1, none⟩ (.int .i64 s.rn)).setCell ⟨w.heap.size + 1 + 1, 2, none⟩ (.int .i64 s.rg)).setCell ⟨w.heap.size + 1 + 1, 3, none⟩ (.slice (some ⟨gB, 0, none⟩) nB cB)).setCell ⟨w.heap.size + 1 + 1, 4, none⟩ (.int .i64 s.bn)).setCell ⟨w.heap.size + 1 + 1, 5, none⟩ (.int .i64 s.bg)).setCell ⟨w.heap.size + 1 + 1, 6, none⟩ (.int .i64 s.most)).cell? ⟨w.heap.size + 1 + 1, 5, none⟩ = some (.int .i64 s.bg) := r5
  have r6' : ((((((((((((((((w5.setCell ⟨g1, i * 8, none⟩ (.int .i64 y.x.f0)).setCell ⟨g1, i * 8 + 1, none⟩ (.bool y.x.f1)).setCell ⟨g1, i * 8 + 2, none⟩ (.int .i64 y.x.f2.f0)).setCell ⟨g1, i * 8 + 3, none⟩ (.int .i64 y.x.f2.f1)).setCell ⟨g1, i * 8 + 4, none⟩ (.int .i64 y.x.f2.f2)).setCell ⟨g1, i * 8 + 5, none⟩ (.string y.x.f2.f3)).setCell ⟨g1, i * 8 + 6, none⟩ (.slice y.a4 y.x.f2.f4.length y.c4)).setCell ⟨g1, i * 8 + 7, none⟩ (.slice y.a5 y.x.f2.f5.length y.c5)).setCell ⟨w.heap.size, 0, none⟩ (.slice (some ⟨g1, 0, none⟩) nN c1)).setCell ⟨w.heap.size + 1 + 1, 0, none⟩ (.slice (some ⟨g1, 0, none⟩) nN c1)).setCell ⟨w.heap.size + 1 + 1, 1, none⟩ (.int .i64 s.rn)).setCell ⟨w.heap.size + 1 + 1, 2, none⟩ (.int .i64 s.rg)).setCell ⟨w.heap.size + 1 + 1, 3, none⟩ (.slice (some ⟨gB, 0, none⟩) nB cB)).setCell ⟨w.heap.size + 1 + 1, 4, none⟩ (.int .i64 s.bn)).setCell ⟨w.heap.size + 1 + 1, 5, none⟩ (.int .i64 s.bg)).setCell ⟨w.heap.size + 1 + 1, 6, none⟩ (.int .i64 s.most)).cell? ⟨w.heap.size + 1 + 1, 6, none⟩ = some (.int .i64 s.most) := r6
  simp [results, Try.results139, go_sem, r0', r1', r2', r3', r4', r5', r6']) rfl ⟨⟨g1, c1, rsN.set i y, gB, cB, rsB⟩, ?_, ⟨⟨own_weaken HRW.out (Nat.zero_le _), fun z hz => ?_⟩, ?_, H.out.2.2.1.below HBF.out, H.out.2.2.2.1, h0 g1 (own_base HRW.out g1 rfl), H.out.2.2.2.2.2⟩, HBF.out⟩
 · rw [HLR.out, ← HNN.out.2]
 · rcases List.mem_or_eq_of_mem_set hz with hz | rfl
   · exact (H.out.1.2 z hz).keep (KeepU.of_below (Nat.le_refl _) HBF.out)
   · exact HY.out.keep (KeepU.of_below (Nat.le_refl _) HBF.out)
 · show (rsN.set i y).map (fun y => y.x) = s.now.set i y.x
   rw [List.map_set, H.out.2.1]
theorem keepU_other {W : World} {z t : Nat} {cs : Array Value} (hz : W.heap[z]? = some (.cells cs t (0, 0))) (ht : ¬ (t = 35 ∨ t = 89)) (o : Nat) (vs : List Value) : KeepU 0 W (W.setCells z o vs) := by
 have hm : Moves 0 (fun k => k = z) W (W.setCells z o vs) := moves_cells (S := fun k => k = z) rfl (Nat.zero_le _) vs _ W (Moves.refl _ _ _)
 refine ⟨hm.1, fun k hk => hm.2.2 k hk.lt (fun e => ?_)⟩
 have e : k = z := e
 subst e
 obtain ⟨q, cs', hq, hh⟩ := hk
 rw [hz] at hh
 injection hh with hh; injection hh with _ h2 _
 exact ht (h2 ▸ hq)
theorem OwnT.box {b g c z t : Nat} {rs : List RS} {W : World} {cs : Array Value} (h : OwnT b g c rs W) (hz : W.heap[z]? = some (.cells cs t (0, 0))) (ht : ¬ (t = 35 ∨ t = 89)) (ht2 : t ≠ 69) (o : Nat) (vs : List Value) : OwnT b g c rs (W.setCells z o vs) :=
 ⟨own_move h.1 (fun k hk => cells_other (fun e => by
  subst e
  obtain ⟨c1, e1⟩ := own_typed h.1 _ hk
  rw [hz] at e1
  injection e1 with e1; injection e1 with _ e2 _
  exact ht2 e2) (h.1.lt k hk).2 _ _), fun y hy => (h.2 y hy).keep (keepU_other hz ht o vs)⟩
theorem RefIs.box {b : Nat → Prop} {z t : Nat} {R : RL} {s : WS} {W : World} {cs : Array Value} (h : RefIs b R s W) (hz : W.heap[z]? = some (.cells cs t (0, 0))) (ht : ¬ (t = 35 ∨ t = 89)) (ht2 : t ≠ 69) (o : Nat) (vs : List Value) : RefIs b R s (W.setCells z o vs) :=
 ⟨h.1.box hz ht ht2 o vs, h.2.1, h.2.2.1.box hz ht ht2 o vs, h.2.2.2⟩
set_option maxHeartbeats 1000000 in
set_option maxRecDepth 100000 in
theorem ref_delete (b : Nat → Prop) (R : RL) (s : WS) (n g : Int) (w : World) (h : RefIs b R s w) (h0 : ∀ k, w.heap.size ≤ k → b k) (h9 : R.rsN.length ≤ 90000) (hG : GenOk s) : Calls Try.prog 93 #[.agg (R.cells s), .agg #[.int .i64 n, .int .i64 g]] w fun e w' => ∃ R', e = .returned (.tuple #[.agg (R'.cells (delW s n g)), .int .i64 (findE s n g)]) ∧ RefIs b R' (delW s n g) w' ∧ RowKit.Below w.heap.size w w' := by
 have hu28 := Try.underlying28
 have hu35 := Try.underlying35
 have hu46 := Try.underlying46
 have hu49 := Try.underlying49
 have hu51 := Try.underlying51
 have hu69 := Try.underlying69
 obtain ⟨gN, cN, rsN, gB, cB, rsB⟩ := R
 have hlen : s.now.length = rsN.length := by rw [← h.2.1, List.length_map]
 have H0 := A_ h
 simp only [RL.cells] at h9 ⊢
 obtain ⟨nN, hnN⟩ : ∃ nN, nN = rsN.length := ⟨_, rfl⟩
 obtain ⟨nB, hnB⟩ : ∃ nB, nB = rsB.length := ⟨_, rfl⟩
 have HNN := A_ (And.intro hnN hnB)
 have KF := A_ (fun (W : World) (hb : RowKit.Below w.heap.size w W) => ref_find b _ s n g W (h.below hb) h9)
 simp only [RL.cells] at KF
 rw [← hnN] at h9 hlen
 rw [← hnN, ← hnB] at KF
 rw [← hnN, ← hnB]
 have HB3 := A_ (below_alloc (below_alloc (below_alloc (RowKit.Below.refl w.heap.size w) (.cells #[.slice (some ⟨gN, 0, none⟩) nN cN, .int .i64 s.rn, .int .i64 s.rg, .slice (some ⟨gB, 0, none⟩) nB cB, .int .i64 s.bn, .int .i64 s.bg, .int .i64 s.most] 51)) (.cells #[.int .i64 n, .int .i64 g] 28)) (.cells #[.slice none 0 0, .int .i64 0, .int .i64 0, .slice none 0 0, .int .i64 0, .int .i64 0, .int .i64 0] 51))
 have BX := A_ (blk_alloc (blk_alloc (blk_new w (.cells #[.slice (some ⟨gN, 0, none⟩) nN cN, .int .i64 s.rn, .int .i64 s.rg, .slice (some ⟨gB, 0, none⟩) nB cB, .int .i64 s.bn, .int .i64 s.bg, .int .i64 s.most] 51)) (.cells #[.int .i64 n, .int .i64 g] 28)) (.cells #[.slice none 0 0, .int .i64 0, .int .i64 0, .slice none 0 0, .int .i64 0, .int .i64 0, .int .i64 0] 51))
 have BN := A_ (blk_alloc (blk_new (w.alloc (.cells #[.slice (some ⟨gN, 0, none⟩) nN cN, .int .i64 s.rn, .int .i64 s.rg, .slice (some ⟨gB, 0, none⟩) nB cB, .int .i64 s.bn, .int .i64 s.bg, .int .i64 s.most] 51)) (.cells #[.int .i64 n, .int .i64 g] 28)) (.cells #[.slice none 0 0, .int .i64 0, .int .i64 0, .slice none 0 0, .int .i64 0, .int .i64 0, .int .i64 0] 51))
 have BZ := A_ (blk_new ((w.alloc (.cells #[.slice (some ⟨gN, 0, none⟩) nN cN, .int .i64 s.rn, .int .i64 s.rg, .slice (some ⟨gB, 0, none⟩) nB cB, .int .i64 s.bn, .int .i64 s.bg, .int .i64 s.most] 51)).alloc (.cells #[.int .i64 n, .int .i64 g] 28)) (.cells #[.slice none 0 0, .int .i64 0, .int .i64 0, .slice none 0 0, .int .i64 0, .int .i64 0, .int .i64 0] 51))
 simp only [World.size_alloc] at BN BZ
 obtain ⟨u0, u1, u2, u3, u4, u5, u6⟩ := box7 BX.out
 obtain ⟨z0, z1⟩ := box2 BN.out
 clear h hnN hnB
 by_cases hz : findE s n g = 0
 · obtain ⟨i, rfl, hi1, hi2, hlv, hg⟩ := findE_zero hz
   have hox := hG _ (getD_mem s.now i hi2 z69)
   rw [hg] at hox
   have hd : delW s i g = { s with now := s.now.set i ⟨min 65535 (g + 1), false, z35⟩ } := by unfold delW; rw [if_pos hz, Int.min_comm]; simp
   rw [hd, hz] 
   rw [hz] at KF
   have hw1 : wrap64 (g + 1) = g + 1 := by unfold wrap64; omega
   have HW1 := A_ hw1
   have KW := A_ (fun (W : World) (hb : RowKit.Below w.heap.size w W) => ref_with b ⟨gN, cN, rsN, gB, cB, rsB⟩ s i ⟨⟨min 65535 (g + 1), false, z35⟩, none, 0, none, 0⟩ W (H0.out.below hb) (fun k hk => h0 k (Nat.le_trans hb.size hk)) (by show rsN.length ≤ 90000; rw [← HNN.out.1]; exact h9) (by show i < rsN.length; rw [← HNN.out.1, ← hlen]; exact hi2) (FV.nil _ _ _ rfl rfl))
   simp only [RL.cells] at KW
   rw [← HNN.out.1, ← HNN.out.2] at KW
   obtain ⟨s2, hs2⟩ : ∃ s2, s2 = ({ s with now := s.now.set i ⟨min 65535 (g + 1), false, z35⟩ } : WS) := ⟨_, rfl⟩
   have HS2 := A_ (show s2.rn = s.rn ∧ s2.rg = s.rg ∧ s2.bn = s.bn ∧ s2.bg = s.bg ∧ s2.most = s.most by rw [hs2]; exact ⟨rfl, rfl, rfl, rfl, rfl⟩)
   rw [← hs2] at KW ⊢
   clear hz hi1 hi2 hlv hg hox hd hs2
   go_enter Try.func93, Try.ntmps93
   go_wp2_with fail
   refine Calls.mono (KF.out _ HB3.out) ?_
   rintro e w4 ⟨rfl, hb⟩
   have HB4 := A_ (below_step HB3.out hb)
   replace BX := A_ (blk_below BX.out hb)
   replace BN := A_ (blk_below BN.out hb)
   replace BZ := A_ (blk_below BZ.out hb)
   clear hb KF u0 u1 u2 u3 u4 u5 u6 z0 z1
   obtain ⟨u0, u1, u2, u3, u4, u5, u6⟩ := box7 BX.out
   obtain ⟨z0, z1⟩ := box2 BN.out
   have hlx := blk_lt BX.out
   have hln := blk_lt BN.out
   go_wp2_with fail
   refine Calls.mono (KW.out w4 HB4.out) ?_
   rintro e w5 ⟨R2, rfl, hR2, hb⟩
   have HB5 := A_ (below_step HB4.out hb)
   replace BZ := A_ (blk_below BZ.out hb)
   have HR2 := A_ hR2
   obtain ⟨m1, hm1⟩ : ∃ m1, m1 = R2.rsN.length := ⟨_, rfl⟩
   obtain ⟨m2, hm2⟩ : ∃ m2, m2 = R2.rsB.length := ⟨_, rfl⟩
   have HM := A_ (And.intro hm1 hm2)
   rw [← hm1, ← hm2]
   clear hb KW hR2 hm1 hm2 u0 u1 u2 u3 u4 u5 u6 z0 z1 hlx hln
   obtain ⟨t0, t1, t2, t3, t4, t5, t6⟩ := box7 BZ.out
   obtain ⟨fq0, fq1, fq2, fq3, fq4, fq5, fq6⟩ := frz7 BZ.out
   have hzl := blk_lt BZ.out
   have HBF := A_ (show RowKit.Below w.heap.size w (w5.setCells (w.heap.size + 1 + 1) 0 [.slice (some ⟨R2.gN, 0, none⟩) m1 R2.cN, .int .i64 s.rn, .int .i64 s.rg, .slice (some ⟨R2.gB, 0, none⟩) m2 R2.cB, .int .i64 s.bn, .int .i64 s.bg, .int .i64 s.most]) from HB5.out.trans (below_setcells (b := w.heap.size) (g := w.heap.size + 1 + 1) (by omega) 0 _))
   have HRF := A_ (HR2.out.box BZ.out (by decide) (by decide) 0 [.slice (some ⟨R2.gN, 0, none⟩) m1 R2.cN, .int .i64 s.rn, .int .i64 s.rg, .slice (some ⟨R2.gB, 0, none⟩) m2 R2.cB, .int .i64 s.bn, .int .i64 s.bg, .int .i64 s.most])
   have e6 := set_same7 (.slice (some ⟨R2.gN, 0, none⟩) m1 R2.cN) (.int .i64 s.rn) (.int .i64 s.rg) (.slice (some ⟨R2.gB, 0, none⟩) m2 R2.cB) (.int .i64 s.bn) (.int .i64 s.bg) (.int .i64 s.most) BZ.out
   have E6 := A_ e6
   clear e6
   go_wp2
   refine ret_named (w5.setCells (w.heap.size + 1 + 1) 0 [.slice (some ⟨R2.gN, 0, none⟩) m1 R2.cN, .int .i64 s.rn, .int .i64 s.rg, .slice (some ⟨R2.gB, 0, none⟩) m2 R2.cB, .int .i64 s.bn, .int .i64 s.bg, .int .i64 s.most]) rfl (fun Wf hWf => ?_)
   obtain ⟨r0, r1, r2, r3, r4, r5, r6⟩ := box7 (show Wf.heap[w.heap.size + 1 + 1]? = some (.cells #[.slice (some ⟨R2.gN, 0, none⟩) m1 R2.cN, .int .i64 s.rn, .int .i64 s.rg, .slice (some ⟨R2.gB, 0, none⟩) m2 R2.cB, .int .i64 s.bn, .int .i64 s.bg, .int .i64 s.most] 51 (0, 0)) from by rw [hWf]; exact E6.out)
   refine bodyPost_ret (v := .tuple #[.agg #[.slice (some ⟨R2.gN, 0, none⟩) m1 R2.cN, .int .i64 s.rn, .int .i64 s.rg, .slice (some ⟨R2.gB, 0, none⟩) m2 R2.cB, .int .i64 s.bn, .int .i64 s.bg, .int .i64 s.most], .int .i64 0]) (by simp [results, Try.results93, go_sem, r0, r1, r2, r3, r4, r5, r6]) rfl ?_
   have HC : RowKit.Below w.heap.size w Wf := by rw [hWf]; exact HBF.out
   have HA : RefIs b R2 s2 Wf := by rw [hWf]; exact HRF.out
   refine ⟨R2, ?_, HA, HC⟩
   rw [HM.out.1, HM.out.2, HS2.out.1, HS2.out.2.1, HS2.out.2.2.1, HS2.out.2.2.2.1, HS2.out.2.2.2.2]
 · have hd : delW s n g = s := del_not s n g hz
   rw [hd]
   obtain ⟨fe, hfe⟩ : ∃ fe, fe = findE s n g := ⟨_, rfl⟩
   rw [← hfe] at KF hz ⊢
   have hfb : (fe != 0) = true := by simpa using hz
   clear hd hz hfe
   go_enter Try.func93, Try.ntmps93
   go_wp2_with fail
   refine Calls.mono (KF.out _ HB3.out) ?_
   rintro e w4 ⟨rfl, hb⟩
   have HB4 := A_ (below_step HB3.out hb)
   replace BX := A_ (blk_below BX.out hb)
   replace BZ := A_ (blk_below BZ.out hb)
   have HR4 := A_ (H0.out.below HB4.out)
   clear hb KF u0 u1 u2 u3 u4 u5 u6 z0 z1
   obtain ⟨u0, u1, u2, u3, u4, u5, u6⟩ := box7 BX.out
   have hlx := blk_lt BX.out
   obtain ⟨t0, t1, t2, t3, t4, t5, t6⟩ := box7 BZ.out
   obtain ⟨fq0, fq1, fq2, fq3, fq4, fq5, fq6⟩ := frz7 BZ.out
   have hzl := blk_lt BZ.out
   have HBF := A_ (show RowKit.Below w.heap.size w (w4.setCells (w.heap.size + 1 + 1) 0 [.slice (some ⟨gN, 0, none⟩) nN cN, .int .i64 s.rn, .int .i64 s.rg, .slice (some ⟨gB, 0, none⟩) nB cB, .int .i64 s.bn, .int .i64 s.bg, .int .i64 s.most]) from HB4.out.trans (below_setcells (b := w.heap.size) (g := w.heap.size + 1 + 1) (by omega) 0 _))
   have HRF := A_ (HR4.out.box BZ.out (by decide) (by decide) 0 [.slice (some ⟨gN, 0, none⟩) nN cN, .int .i64 s.rn, .int .i64 s.rg, .slice (some ⟨gB, 0, none⟩) nB cB, .int .i64 s.bn, .int .i64 s.bg, .int .i64 s.most])
   have e6 := set_same7 (.slice (some ⟨gN, 0, none⟩) nN cN) (.int .i64 s.rn) (.int .i64 s.rg) (.slice (some ⟨gB, 0, none⟩) nB cB) (.int .i64 s.bn) (.int .i64 s.bg) (.int .i64 s.most) BZ.out
   have E6 := A_ e6
   clear e6
   go_wp2
   refine ret_named (w4.setCells (w.heap.size + 1 + 1) 0 [.slice (some ⟨gN, 0, none⟩) nN cN, .int .i64 s.rn, .int .i64 s.rg, .slice (some ⟨gB, 0, none⟩) nB cB, .int .i64 s.bn, .int .i64 s.bg, .int .i64 s.most]) rfl (fun Wf hWf => ?_)
   obtain ⟨r0, r1, r2, r3, r4, r5, r6⟩ := box7 (show Wf.heap[w.heap.size + 1 + 1]? = some (.cells #[.slice (some ⟨gN, 0, none⟩) nN cN, .int .i64 s.rn, .int .i64 s.rg, .slice (some ⟨gB, 0, none⟩) nB cB, .int .i64 s.bn, .int .i64 s.bg, .int .i64 s.most] 51 (0, 0)) from by rw [hWf]; exact E6.out)
   refine bodyPost_ret (v := .tuple #[.agg #[.slice (some ⟨gN, 0, none⟩) nN cN, .int .i64 s.rn, .int .i64 s.rg, .slice (some ⟨gB, 0, none⟩) nB cB, .int .i64 s.bn, .int .i64 s.bg, .int .i64 s.most], .int .i64 fe]) (by simp [results, Try.results93, go_sem, r0, r1, r2, r3, r4, r5, r6]) rfl ?_
   have HC : RowKit.Below w.heap.size w Wf := by rw [hWf]; exact HBF.out
   have HA : RefIs b ⟨gN, cN, rsN, gB, cB, rsB⟩ s Wf := by rw [hWf]; exact HRF.out
   refine ⟨⟨gN, cN, rsN, gB, cB, rsB⟩, ?_, HA, HC⟩
   rw [HNN.out.1, HNN.out.2]
set_option maxHeartbeats 2000000 in
set_option maxRecDepth 100000 in
theorem ref_setroot (b : Nat → Prop) (R : RL) (s : WS) (n g : Int) (w : World) (h : RefIs b R s w) (h9 : R.rsN.length ≤ 90000) : Calls Try.prog 95 #[.agg (R.cells s), .agg #[.int .i64 n, .int .i64 g]] w fun e w' => ∃ R', e = .returned (.tuple #[.agg (R'.cells (rootW s n g)), .int .i64 (rootE s n g)]) ∧ RefIs b R' (rootW s n g) w' ∧ RowKit.Below w.heap.size w w' := by
 have hu28 := Try.underlying28
 have hu35 := Try.underlying35
 have hu46 := Try.underlying46
 have hu49 := Try.underlying49
 have hu51 := Try.underlying51
 have hu69 := Try.underlying69
 obtain ⟨gN, cN, rsN, gB, cB, rsB⟩ := R
 have hlen : s.now.length = rsN.length := by rw [← h.2.1, List.length_map]
 have H0 := A_ h
 simp only [RL.cells] at h9 ⊢
 obtain ⟨nN, hnN⟩ : ∃ nN, nN = rsN.length := ⟨_, rfl⟩
 obtain ⟨nB, hnB⟩ : ∃ nB, nB = rsB.length := ⟨_, rfl⟩
 have HNN := A_ (And.intro hnN hnB)
 have KF := A_ (fun (W : World) (hb : RowKit.Below w.heap.size w W) => ref_find b _ s n g W (h.below hb) h9)
 simp only [RL.cells] at KF
 rw [← hnN] at h9 hlen
 rw [← hnN, ← hnB] at KF
 rw [← hnN, ← hnB]
 have HB3 := A_ (below_alloc (below_alloc (below_alloc (RowKit.Below.refl w.heap.size w) (.cells #[.slice (some ⟨gN, 0, none⟩) nN cN, .int .i64 s.rn, .int .i64 s.rg, .slice (some ⟨gB, 0, none⟩) nB cB, .int .i64 s.bn, .int .i64 s.bg, .int .i64 s.most] 51)) (.cells #[.int .i64 n, .int .i64 g] 28)) (.cells #[.slice none 0 0, .int .i64 0, .int .i64 0, .slice none 0 0, .int .i64 0, .int .i64 0, .int .i64 0] 51))
 have BX := A_ (blk_alloc (blk_alloc (blk_new w (.cells #[.slice (some ⟨gN, 0, none⟩) nN cN, .int .i64 s.rn, .int .i64 s.rg, .slice (some ⟨gB, 0, none⟩) nB cB, .int .i64 s.bn, .int .i64 s.bg, .int .i64 s.most] 51)) (.cells #[.int .i64 n, .int .i64 g] 28)) (.cells #[.slice none 0 0, .int .i64 0, .int .i64 0, .slice none 0 0, .int .i64 0, .int .i64 0, .int .i64 0] 51))
 have BN := A_ (blk_alloc (blk_new (w.alloc (.cells #[.slice (some ⟨gN, 0, none⟩) nN cN, .int .i64 s.rn, .int .i64 s.rg, .slice (some ⟨gB, 0, none⟩) nB cB, .int .i64 s.bn, .int .i64 s.bg, .int .i64 s.most] 51)) (.cells #[.int .i64 n, .int .i64 g] 28)) (.cells #[.slice none 0 0, .int .i64 0, .int .i64 0, .slice none 0 0, .int .i64 0, .int .i64 0, .int .i64 0] 51))
 have BZ := A_ (blk_new ((w.alloc (.cells #[.slice (some ⟨gN, 0, none⟩) nN cN, .int .i64 s.rn, .int .i64 s.rg, .slice (some ⟨gB, 0, none⟩) nB cB, .int .i64 s.bn, .int .i64 s.bg, .int .i64 s.most] 51)).alloc (.cells #[.int .i64 n, .int .i64 g] 28)) (.cells #[.slice none 0 0, .int .i64 0, .int .i64 0, .slice none 0 0, .int .i64 0, .int .i64 0, .int .i64 0] 51))
 simp only [World.size_alloc] at BN BZ
 obtain ⟨u0, u1, u2, u3, u4, u5, u6⟩ := box7 BX.out
 obtain ⟨z0, z1⟩ := box2 BN.out
 clear h hnN hnB
 by_cases hz : findE s n g = 0
 · have hd : rootW s n g = { s with rn := n, rg := g } := by unfold rootW; rw [if_pos (.inl hz)]
   have he : rootE s n g = 0 := by unfold rootE; split; rfl; exact hz
   rw [hd, he]
   rw [hz] at KF
   clear hz hd he
   go_enter Try.func95, Try.ntmps95
   go_wp2_with fail
   refine Calls.mono (KF.out _ HB3.out) ?_
   rintro e w4 ⟨rfl, hb⟩
   have HB4 := A_ (below_step HB3.out hb)
   replace BX := A_ (blk_below BX.out hb)
   replace BN := A_ (blk_below BN.out hb)
   replace BZ := A_ (blk_below BZ.out hb)
   have HR4 := A_ (H0.out.below HB4.out)
   clear hb KF u0 u1 u2 u3 u4 u5 u6 z0 z1
   obtain ⟨u0, u1, u2, u3, u4, u5, u6⟩ := box7 BX.out
   obtain ⟨z0, z1⟩ := box2 BN.out
   have hlx := blk_lt BX.out
   have hln := blk_lt BN.out
   have fx := blk_frozen BX.out
   have fx1 := fx 1
   have fx2 := fx 2
   have hrx := heap_setCell_same _ w.heap.size 1 _ 51 (.int .i64 n) BX.out
   have hrx2 := heap_setCell_same _ w.heap.size 2 _ 51 (.int .i64 g) hrx
   have BZR := A_ (show ((w4.setCell ⟨w.heap.size, 1, none⟩ (.int .i64 n)).setCell ⟨w.heap.size, 2, none⟩ (.int .i64 g)).heap[w.heap.size + 1 + 1]? = _ from (RowKit.Below.heap_setCell _ ⟨w.heap.size, 2, none⟩ _ (w.heap.size + 1 + 1) (by show w.heap.size + 1 + 1 ≠ w.heap.size; omega)).trans ((RowKit.Below.heap_setCell _ ⟨w.heap.size, 1, none⟩ _ (w.heap.size + 1 + 1) (by show w.heap.size + 1 + 1 ≠ w.heap.size; omega)).trans BZ.out))
   have HBR := A_ (show RowKit.Below w.heap.size w ((w4.setCell ⟨w.heap.size, 1, none⟩ (.int .i64 n)).setCell ⟨w.heap.size, 2, none⟩ (.int .i64 g)) from (HB4.out.setCell (p := ⟨w.heap.size, 1, none⟩) (Nat.le_refl _) _).setCell (p := ⟨w.heap.size, 2, none⟩) (Nat.le_refl _) _)
   have HRR := A_ (show RefIs b ⟨gN, cN, rsN, gB, cB, rsB⟩ { s with rn := n, rg := g } ((w4.setCell ⟨w.heap.size, 1, none⟩ (.int .i64 n)).setCell ⟨w.heap.size, 2, none⟩ (.int .i64 g)) from H0.out.below HBR.out)
   clear fx hrx hrx2
   obtain ⟨t0, t1, t2, t3, t4, t5, t6⟩ := box7 BZR.out
   obtain ⟨fq0, fq1, fq2, fq3, fq4, fq5, fq6⟩ := frz7 BZR.out
   have hzl := blk_lt BZR.out
   have HBF := A_ (show RowKit.Below w.heap.size w (((w4.setCell ⟨w.heap.size, 1, none⟩ (.int .i64 n)).setCell ⟨w.heap.size, 2, none⟩ (.int .i64 g)).setCells (w.heap.size + 1 + 1) 0 [.slice (some ⟨gN, 0, none⟩) nN cN, .int .i64 n, .int .i64 g, .slice (some ⟨gB, 0, none⟩) nB cB, .int .i64 s.bn, .int .i64 s.bg, .int .i64 s.most]) from HBR.out.trans (below_setcells (b := w.heap.size) (g := w.heap.size + 1 + 1) (by omega) 0 _))
   have HRF := A_ (HRR.out.box BZR.out (by decide) (by decide) 0 [.slice (some ⟨gN, 0, none⟩) nN cN, .int .i64 n, .int .i64 g, .slice (some ⟨gB, 0, none⟩) nB cB, .int .i64 s.bn, .int .i64 s.bg, .int .i64 s.most])
   have e6 := set_same7 (.slice (some ⟨gN, 0, none⟩) nN cN) (.int .i64 n) (.int .i64 g) (.slice (some ⟨gB, 0, none⟩) nB cB) (.int .i64 s.bn) (.int .i64 s.bg) (.int .i64 s.most) BZR.out
   have E6 := A_ e6
   clear e6
   go_wp2
   refine ret_named ((w4.setCells (w.heap.size) 1 [.int .i64 n, .int .i64 g]).setCells (w.heap.size + 1 + 1) 0 [.slice (some ⟨gN, 0, none⟩) nN cN, .int .i64 n, .int .i64 g, .slice (some ⟨gB, 0, none⟩) nB cB, .int .i64 s.bn, .int .i64 s.bg, .int .i64 s.most]) rfl (fun Wf hWf => ?_)
   obtain ⟨r0, r1, r2, r3, r4, r5, r6⟩ := box7 (show Wf.heap[w.heap.size + 1 + 1]? = some (.cells #[.slice (some ⟨gN, 0, none⟩) nN cN, .int .i64 n, .int .i64 g, .slice (some ⟨gB, 0, none⟩) nB cB, .int .i64 s.bn, .int .i64 s.bg, .int .i64 s.most] 51 (0, 0)) from by rw [hWf]; exact E6.out)
   refine bodyPost_ret (v := .tuple #[.agg #[.slice (some ⟨gN, 0, none⟩) nN cN, .int .i64 n, .int .i64 g, .slice (some ⟨gB, 0, none⟩) nB cB, .int .i64 s.bn, .int .i64 s.bg, .int .i64 s.most], .int .i64 0]) (by simp [results, Try.results95, go_sem, r0, r1, r2, r3, r4, r5, r6]) rfl ?_
   have HC : RowKit.Below w.heap.size w Wf := by rw [hWf]; exact HBF.out
   have HA : RefIs b ⟨gN, cN, rsN, gB, cB, rsB⟩ { s with rn := n, rg := g } Wf := by rw [hWf]; exact HRF.out
   refine ⟨⟨gN, cN, rsN, gB, cB, rsB⟩, ?_, HA, HC⟩
   rw [HNN.out.1, HNN.out.2]
 · by_cases hr : n = 0 ∧ g = 0
   · obtain ⟨rfl, rfl⟩ := hr
     have hd : rootW s 0 0 = { s with rn := 0, rg := 0 } := by unfold rootW; rw [if_pos (.inr ⟨rfl, rfl⟩)]
     have he : rootE s 0 0 = 0 := by unfold rootE; rw [if_pos ⟨rfl, rfl⟩]
     rw [hd, he]
     obtain ⟨fe, hfe⟩ : ∃ fe, fe = findE s 0 0 := ⟨_, rfl⟩
     rw [← hfe] at KF hz
     have hfb : (fe != 0) = true := by simpa using hz
     clear hz hd he hfe
     go_enter Try.func95, Try.ntmps95
     go_wp2_with fail
     refine Calls.mono (KF.out _ HB3.out) ?_
     rintro e w4 ⟨rfl, hb⟩
     have HB4 := A_ (below_step HB3.out hb)
     replace BX := A_ (blk_below BX.out hb)
     replace BN := A_ (blk_below BN.out hb)
     replace BZ := A_ (blk_below BZ.out hb)
     have HR4 := A_ (H0.out.below HB4.out)
     clear hb KF u0 u1 u2 u3 u4 u5 u6 z0 z1
     obtain ⟨u0, u1, u2, u3, u4, u5, u6⟩ := box7 BX.out
     obtain ⟨z0, z1⟩ := box2 BN.out
     have hlx := blk_lt BX.out
     have hln := blk_lt BN.out
     have fx := blk_frozen BX.out
     have fx1 := fx 1
     have fx2 := fx 2
     have hrx := heap_setCell_same _ w.heap.size 1 _ 51 (.int .i64 0) BX.out
     have hrx2 := heap_setCell_same _ w.heap.size 2 _ 51 (.int .i64 0) hrx
     have BZR := A_ (show ((w4.setCell ⟨w.heap.size, 1, none⟩ (.int .i64 0)).setCell ⟨w.heap.size, 2, none⟩ (.int .i64 0)).heap[w.heap.size + 1 + 1]? = _ from (RowKit.Below.heap_setCell _ ⟨w.heap.size, 2, none⟩ _ (w.heap.size + 1 + 1) (by show w.heap.size + 1 + 1 ≠ w.heap.size; omega)).trans ((RowKit.Below.heap_setCell _ ⟨w.heap.size, 1, none⟩ _ (w.heap.size + 1 + 1) (by show w.heap.size + 1 + 1 ≠ w.heap.size; omega)).trans BZ.out))
     have HBR := A_ (show RowKit.Below w.heap.size w ((w4.setCell ⟨w.heap.size, 1, none⟩ (.int .i64 0)).setCell ⟨w.heap.size, 2, none⟩ (.int .i64 0)) from (HB4.out.setCell (p := ⟨w.heap.size, 1, none⟩) (Nat.le_refl _) _).setCell (p := ⟨w.heap.size, 2, none⟩) (Nat.le_refl _) _)
     have HRR := A_ (show RefIs b ⟨gN, cN, rsN, gB, cB, rsB⟩ { s with rn := 0, rg := 0 } ((w4.setCell ⟨w.heap.size, 1, none⟩ (.int .i64 0)).setCell ⟨w.heap.size, 2, none⟩ (.int .i64 0)) from H0.out.below HBR.out)
     clear fx hrx hrx2
     obtain ⟨t0, t1, t2, t3, t4, t5, t6⟩ := box7 BZR.out
     obtain ⟨fq0, fq1, fq2, fq3, fq4, fq5, fq6⟩ := frz7 BZR.out
     have hzl := blk_lt BZR.out
     have HBF := A_ (show RowKit.Below w.heap.size w (((w4.setCell ⟨w.heap.size, 1, none⟩ (.int .i64 0)).setCell ⟨w.heap.size, 2, none⟩ (.int .i64 0)).setCells (w.heap.size + 1 + 1) 0 [.slice (some ⟨gN, 0, none⟩) nN cN, .int .i64 0, .int .i64 0, .slice (some ⟨gB, 0, none⟩) nB cB, .int .i64 s.bn, .int .i64 s.bg, .int .i64 s.most]) from HBR.out.trans (below_setcells (b := w.heap.size) (g := w.heap.size + 1 + 1) (by omega) 0 _))
     have HRF := A_ (HRR.out.box BZR.out (by decide) (by decide) 0 [.slice (some ⟨gN, 0, none⟩) nN cN, .int .i64 0, .int .i64 0, .slice (some ⟨gB, 0, none⟩) nB cB, .int .i64 s.bn, .int .i64 s.bg, .int .i64 s.most])
     have e6 := set_same7 (.slice (some ⟨gN, 0, none⟩) nN cN) (.int .i64 0) (.int .i64 0) (.slice (some ⟨gB, 0, none⟩) nB cB) (.int .i64 s.bn) (.int .i64 s.bg) (.int .i64 s.most) BZR.out
     have E6 := A_ e6
     clear e6
     go_wp2
     refine ret_named ((w4.setCells (w.heap.size) 1 [.int .i64 0, .int .i64 0]).setCells (w.heap.size + 1 + 1) 0 [.slice (some ⟨gN, 0, none⟩) nN cN, .int .i64 0, .int .i64 0, .slice (some ⟨gB, 0, none⟩) nB cB, .int .i64 s.bn, .int .i64 s.bg, .int .i64 s.most]) rfl (fun Wf hWf => ?_)
     obtain ⟨r0, r1, r2, r3, r4, r5, r6⟩ := box7 (show Wf.heap[w.heap.size + 1 + 1]? = some (.cells #[.slice (some ⟨gN, 0, none⟩) nN cN, .int .i64 0, .int .i64 0, .slice (some ⟨gB, 0, none⟩) nB cB, .int .i64 s.bn, .int .i64 s.bg, .int .i64 s.most] 51 (0, 0)) from by rw [hWf]; exact E6.out)
     refine bodyPost_ret (v := .tuple #[.agg #[.slice (some ⟨gN, 0, none⟩) nN cN, .int .i64 0, .int .i64 0, .slice (some ⟨gB, 0, none⟩) nB cB, .int .i64 s.bn, .int .i64 s.bg, .int .i64 s.most], .int .i64 0]) (by simp [results, Try.results95, go_sem, r0, r1, r2, r3, r4, r5, r6]) rfl ?_
     have HC : RowKit.Below w.heap.size w Wf := by rw [hWf]; exact HBF.out
     have HA : RefIs b ⟨gN, cN, rsN, gB, cB, rsB⟩ { s with rn := 0, rg := 0 } Wf := by rw [hWf]; exact HRF.out
     refine ⟨⟨gN, cN, rsN, gB, cB, rsB⟩, ?_, HA, HC⟩
     rw [HNN.out.1, HNN.out.2]
   · have hd : rootW s n g = s := by unfold rootW; rw [if_neg (fun h => h.elim hz hr)]
     have he : rootE s n g = findE s n g := by unfold rootE; rw [if_neg hr]
     rw [hd, he]
     obtain ⟨fe, hfe⟩ : ∃ fe, fe = findE s n g := ⟨_, rfl⟩
     rw [← hfe] at KF hz ⊢
     have hfb : (fe != 0) = true := by simpa using hz
     have hrb : (!n == 0 || !g == 0) = true := by
      cases h1 : n == 0 <;> cases h2 : g == 0 <;> simp_all
     clear hz hd he hfe hr
     go_enter Try.func95, Try.ntmps95
     go_wp2_with fail
     refine Calls.mono (KF.out _ HB3.out) ?_
     rintro e w4 ⟨rfl, hb⟩
     have HB4 := A_ (below_step HB3.out hb)
     replace BX := A_ (blk_below BX.out hb)
     replace BN := A_ (blk_below BN.out hb)
     replace BZ := A_ (blk_below BZ.out hb)
     have HR4 := A_ (H0.out.below HB4.out)
     clear hb KF u0 u1 u2 u3 u4 u5 u6 z0 z1
     obtain ⟨u0, u1, u2, u3, u4, u5, u6⟩ := box7 BX.out
     obtain ⟨z0, z1⟩ := box2 BN.out
     have hlx := blk_lt BX.out
     have hln := blk_lt BN.out
     obtain ⟨t0, t1, t2, t3, t4, t5, t6⟩ := box7 BZ.out
     obtain ⟨fq0, fq1, fq2, fq3, fq4, fq5, fq6⟩ := frz7 BZ.out
     have hzl := blk_lt BZ.out
     have HBF := A_ (show RowKit.Below w.heap.size w (w4.setCells (w.heap.size + 1 + 1) 0 [.slice (some ⟨gN, 0, none⟩) nN cN, .int .i64 s.rn, .int .i64 s.rg, .slice (some ⟨gB, 0, none⟩) nB cB, .int .i64 s.bn, .int .i64 s.bg, .int .i64 s.most]) from HB4.out.trans (below_setcells (b := w.heap.size) (g := w.heap.size + 1 + 1) (by omega) 0 _))
     have HRF := A_ (HR4.out.box BZ.out (by decide) (by decide) 0 [.slice (some ⟨gN, 0, none⟩) nN cN, .int .i64 s.rn, .int .i64 s.rg, .slice (some ⟨gB, 0, none⟩) nB cB, .int .i64 s.bn, .int .i64 s.bg, .int .i64 s.most])
     have e6 := set_same7 (.slice (some ⟨gN, 0, none⟩) nN cN) (.int .i64 s.rn) (.int .i64 s.rg) (.slice (some ⟨gB, 0, none⟩) nB cB) (.int .i64 s.bn) (.int .i64 s.bg) (.int .i64 s.most) BZ.out
     have E6 := A_ e6
     clear e6
     go_wp2
     refine ret_named (w4.setCells (w.heap.size + 1 + 1) 0 [.slice (some ⟨gN, 0, none⟩) nN cN, .int .i64 s.rn, .int .i64 s.rg, .slice (some ⟨gB, 0, none⟩) nB cB, .int .i64 s.bn, .int .i64 s.bg, .int .i64 s.most]) rfl (fun Wf hWf => ?_)
     obtain ⟨r0, r1, r2, r3, r4, r5, r6⟩ := box7 (show Wf.heap[w.heap.size + 1 + 1]? = some (.cells #[.slice (some ⟨gN, 0, none⟩) nN cN, .int .i64 s.rn, .int .i64 s.rg, .slice (some ⟨gB, 0, none⟩) nB cB, .int .i64 s.bn, .int .i64 s.bg, .int .i64 s.most] 51 (0, 0)) from by rw [hWf]; exact E6.out)
     refine bodyPost_ret (v := .tuple #[.agg #[.slice (some ⟨gN, 0, none⟩) nN cN, .int .i64 s.rn, .int .i64 s.rg, .slice (some ⟨gB, 0, none⟩) nB cB, .int .i64 s.bn, .int .i64 s.bg, .int .i64 s.most], .int .i64 fe]) (by simp [results, Try.results95, go_sem, r0, r1, r2, r3, r4, r5, r6]) rfl ?_
     have HC : RowKit.Below w.heap.size w Wf := by rw [hWf]; exact HBF.out
     have HA : RefIs b ⟨gN, cN, rsN, gB, cB, rsB⟩ s Wf := by rw [hWf]; exact HRF.out
     refine ⟨⟨gN, cN, rsN, gB, cB, rsB⟩, ?_, HA, HC⟩
     rw [HNN.out.1, HNN.out.2]
def getR (s : WS) (n g : Int) : S35 := if findE s n g = 0 then (s.now.getD n.toNat z69).f2 else z35
set_option maxHeartbeats 2000000 in
set_option maxRecDepth 100000 in
theorem ref_get (b : Nat → Prop) (R : RL) (s : WS) (n g : Int) (w : World) (h : RefIs b R s w) (h9 : R.rsN.length ≤ 90000) : Calls Try.prog 94 #[.agg (R.cells s), .agg #[.int .i64 n, .int .i64 g]] w fun e w' => ∃ a4 n4 a5 n5, e = .returned (.tuple #[.agg #[.int .i64 (getR s n g).f0, .int .i64 (getR s n g).f1, .int .i64 (getR s n g).f2, .string (getR s n g).f3, .slice a4 (getR s n g).f4.length n4, .slice a5 (getR s n g).f5.length n5], .int .i64 (findE s n g)]) ∧ HasV (getR s n g) a4 n4 a5 n5 w' ∧ RowKit.Below w.heap.size w w' := by
 have hu28 := Try.underlying28
 have hu35 := Try.underlying35
 have hu46 := Try.underlying46
 have hu49 := Try.underlying49
 have hu51 := Try.underlying51
 have hu69 := Try.underlying69
 obtain ⟨gN, cN, rsN, gB, cB, rsB⟩ := R
 have hlen : s.now.length = rsN.length := by rw [← h.2.1, List.length_map]
 have H0 := A_ h
 simp only [RL.cells] at h9 ⊢
 obtain ⟨nN, hnN⟩ : ∃ nN, nN = rsN.length := ⟨_, rfl⟩
 obtain ⟨nB, hnB⟩ : ∃ nB, nB = rsB.length := ⟨_, rfl⟩
 have HNN := A_ (And.intro hnN hnB)
 have KF := A_ (fun (W : World) (hb : RowKit.Below w.heap.size w W) => ref_find b _ s n g W (h.below hb) h9)
 simp only [RL.cells] at KF
 rw [← hnN] at h9 hlen
 rw [← hnN, ← hnB] at KF
 rw [← hnN, ← hnB]
 have HB3 := A_ (below_alloc (below_alloc (below_alloc (RowKit.Below.refl w.heap.size w) (.cells #[.slice (some ⟨gN, 0, none⟩) nN cN, .int .i64 s.rn, .int .i64 s.rg, .slice (some ⟨gB, 0, none⟩) nB cB, .int .i64 s.bn, .int .i64 s.bg, .int .i64 s.most] 51)) (.cells #[.int .i64 n, .int .i64 g] 28)) (.cells #[.int .i64 0, .int .i64 0, .int .i64 0, .string ⟨#[]⟩, .slice none 0 0, .slice none 0 0] 35))
 have BX := A_ (blk_alloc (blk_alloc (blk_new w (.cells #[.slice (some ⟨gN, 0, none⟩) nN cN, .int .i64 s.rn, .int .i64 s.rg, .slice (some ⟨gB, 0, none⟩) nB cB, .int .i64 s.bn, .int .i64 s.bg, .int .i64 s.most] 51)) (.cells #[.int .i64 n, .int .i64 g] 28)) (.cells #[.int .i64 0, .int .i64 0, .int .i64 0, .string ⟨#[]⟩, .slice none 0 0, .slice none 0 0] 35))
 have BN := A_ (blk_alloc (blk_new (w.alloc (.cells #[.slice (some ⟨gN, 0, none⟩) nN cN, .int .i64 s.rn, .int .i64 s.rg, .slice (some ⟨gB, 0, none⟩) nB cB, .int .i64 s.bn, .int .i64 s.bg, .int .i64 s.most] 51)) (.cells #[.int .i64 n, .int .i64 g] 28)) (.cells #[.int .i64 0, .int .i64 0, .int .i64 0, .string ⟨#[]⟩, .slice none 0 0, .slice none 0 0] 35))
 have BZ := A_ (blk_new ((w.alloc (.cells #[.slice (some ⟨gN, 0, none⟩) nN cN, .int .i64 s.rn, .int .i64 s.rg, .slice (some ⟨gB, 0, none⟩) nB cB, .int .i64 s.bn, .int .i64 s.bg, .int .i64 s.most] 51)).alloc (.cells #[.int .i64 n, .int .i64 g] 28)) (.cells #[.int .i64 0, .int .i64 0, .int .i64 0, .string ⟨#[]⟩, .slice none 0 0, .slice none 0 0] 35))
 simp only [World.size_alloc] at BN BZ
 obtain ⟨u0, u1, u2, u3, u4, u5, u6⟩ := box7 BX.out
 obtain ⟨z0, z1⟩ := box2 BN.out
 clear h hnN hnB
 by_cases hz : findE s n g = 0
 · obtain ⟨i, rfl, hi1, hi2, hlv, hg⟩ := findE_zero hz
   have hd : getR s i g = (s.now.getD i z69).f2 := by unfold getR; rw [if_pos hz]; simp
   rw [hd, hz]
   rw [hz] at KF
   have hiN : i < nN := by omega
   obtain ⟨y, hy, hyx, hym, -⟩ := H0.out.slot i (by show i < rsN.length; rw [← HNN.out.1]; exact hiN)
   have HFY := A_ (H0.out.1.2 y hym)
   have HYC := A_ (fun (W : World) (hb : RowKit.Below w.heap.size w W) => (H0.out.below hb).slot i (by show i < rsN.length; rw [← HNN.out.1]; exact hiN))
   have HYE := A_ hy
   rw [← hyx]
   have HV := fun (W : World) (hb : RowKit.Below w.heap.size w W) => FV.has (FV.below HFY.out hb)
   obtain ⟨⟨y0, y1, yv⟩, a4, c4, a5, c5⟩ := y
   simp only [] at HV ⊢
   have HVA := A_ HV
   have hi9 : nN ≤ 9223372036854775807 := by omega
   have hil : (i : Int) < (nN : Int) := by omega
   clear hz hi1 hi2 hlv hg hd hy hyx hym HV
   go_enter Try.func94, Try.ntmps94
   go_wp2_with fail
   refine Calls.mono (KF.out _ HB3.out) ?_
   rintro e w4 ⟨rfl, hb⟩
   have HB4 := A_ (below_step HB3.out hb)
   replace BX := A_ (blk_below BX.out hb)
   replace BN := A_ (blk_below BN.out hb)
   replace BZ := A_ (blk_below BZ.out hb)
   have HR4 := A_ (H0.out.below HB4.out)
   clear hb KF u0 u1 u2 u3 u4 u5 u6 z0 z1
   obtain ⟨u0, u1, u2, u3, u4, u5, u6⟩ := box7 BX.out
   obtain ⟨z0, z1⟩ := box2 BN.out
   have hlx := blk_lt BX.out
   have hln := blk_lt BN.out
   obtain ⟨y', hy', -, -, s0, s1, s2, s3, s4, s5, s6, s7⟩ := HYC.out w4 HB4.out
   have hyy : y' = ⟨⟨y0, y1, yv⟩, a4, c4, a5, c5⟩ := hy'.trans HYE.out.symm
   subst hyy
   simp only [] at s0 s1 s2 s3 s4 s5 s6 s7
   clear hy'
   obtain ⟨t0, t1, t2, t3, t4, t5⟩ := box35 BZ.out
   have fzz := blk_frozen BZ.out
   have fq0 := fzz 0
   have fq1 := fzz 1
   have fq2 := fzz 2
   have fq3 := fzz 3
   have fq4 := fzz 4
   have fq5 := fzz 5
   have hzl := blk_lt BZ.out
   have HBF := A_ (show RowKit.Below w.heap.size w (w4.setCells (w.heap.size + 1 + 1) 0 [.int .i64 yv.f0, .int .i64 yv.f1, .int .i64 yv.f2, .string yv.f3, .slice a4 yv.f4.length c4, .slice a5 yv.f5.length c5]) from HB4.out.trans (below_setcells (b := w.heap.size) (g := w.heap.size + 1 + 1) (by omega) 0 _))
   have HVF := A_ (HVA.out _ HBF.out)
   have e0 := heap_setCell_same _ (w.heap.size + 1 + 1) 0 _ 35 (.int .i64 yv.f0) BZ.out
   have e1 := heap_setCell_same _ (w.heap.size + 1 + 1) 1 _ 35 (.int .i64 yv.f1) e0
   have e2 := heap_setCell_same _ (w.heap.size + 1 + 1) 2 _ 35 (.int .i64 yv.f2) e1
   have e3 := heap_setCell_same _ (w.heap.size + 1 + 1) 3 _ 35 (.string yv.f3) e2
   have e4 := heap_setCell_same _ (w.heap.size + 1 + 1) 4 _ 35 (.slice a4 yv.f4.length c4) e3
   have e5 := heap_setCell_same _ (w.heap.size + 1 + 1) 5 _ 35 (.slice a5 yv.f5.length c5) e4
   have E6 := A_ e5
   clear fzz e0 e1 e2 e3 e4 e5
   go_wp2
   obtain ⟨r0, r1, r2, r3, r4, r5⟩ := box35 (c0 := .int .i64 yv.f0) (c1 := .int .i64 yv.f1) (c2 := .int .i64 yv.f2) (c3 := .string yv.f3) (c4 := .slice a4 yv.f4.length c4) (c5 := .slice a5 yv.f5.length c5) E6.out
   refine bodyPost_ret (v := .tuple #[.agg #[.int .i64 yv.f0, .int .i64 yv.f1, .int .i64 yv.f2, .string yv.f3, .slice a4 yv.f4.length c4, .slice a5 yv.f5.length c5], .int .i64 0]) (by
    have r0' : ((((((w4.setCell ⟨w.heap.size + 1 + 1, 0, none⟩ (.int .i64 yv.f0)).setCell ⟨w.heap.size + 1 + 1, 1, none⟩ (.int .i64 yv.f1)).setCell ⟨w.heap.size + 1 + 1, 2, none⟩ (.int .i64 yv.f2)).setCell ⟨w.heap.size + 1 + 1, 3, none⟩ (.string yv.f3)).setCell ⟨w.heap.size + 1 + 1, 4, none⟩ (.slice a4 yv.f4.length c4)).setCell ⟨w.heap.size + 1 + 1, 5, none⟩ (.slice a5 yv.f5.length c5)).cell? ⟨w.heap.size + 1 + 1, 0, none⟩ = some (.int .i64 yv.f0) := r0
    have r1' : ((((((w4.setCell ⟨w.heap.size + 1 + 1, 0, none⟩ (.int .i64 yv.f0)).setCell ⟨w.heap.size + 1 + 1, 1, none⟩ (.int .i64 yv.f1)).setCell ⟨w.heap.size + 1 + 1, 2, none⟩ (.int .i64 yv.f2)).setCell ⟨w.heap.size + 1 + 1, 3, none⟩ (.string yv.f3)).setCell ⟨w.heap.size + 1 + 1, 4, none⟩ (.slice a4 yv.f4.length c4)).setCell ⟨w.heap.size + 1 + 1, 5, none⟩ (.slice a5 yv.f5.length c5)).cell? ⟨w.heap.size + 1 + 1, 1, none⟩ = some (.int .i64 yv.f1) := r1
    have r2' : ((((((w4.setCell ⟨w.heap.size + 1 + 1, 0, none⟩ (.int .i64 yv.f0)).setCell ⟨w.heap.size + 1 + 1, 1, none⟩ (.int .i64 yv.f1)).setCell ⟨w.heap.size + 1 + 1, 2, none⟩ (.int .i64 yv.f2)).setCell ⟨w.heap.size + 1 + 1, 3, none⟩ (.string yv.f3)).setCell ⟨w.heap.size + 1 + 1, 4, none⟩ (.slice a4 yv.f4.length c4)).setCell ⟨w.heap.size + 1 + 1, 5, none⟩ (.slice a5 yv.f5.length c5)).cell? ⟨w.heap.size + 1 + 1, 2, none⟩ = some (.int .i64 yv.f2) := r2
    have r3' : ((((((w4.setCell ⟨w.heap.size + 1 + 1, 0, none⟩ (.int .i64 yv.f0)).setCell ⟨w.heap.size + 1 + 1, 1, none⟩ (.int .i64 yv.f1)).setCell ⟨w.heap.size + 1 + 1, 2, none⟩ (.int .i64 yv.f2)).setCell ⟨w.heap.size + 1 + 1, 3, none⟩ (.string yv.f3)).setCell ⟨w.heap.size + 1 + 1, 4, none⟩ (.slice a4 yv.f4.length c4)).setCell ⟨w.heap.size + 1 + 1, 5, none⟩ (.slice a5 yv.f5.length c5)).cell? ⟨w.heap.size + 1 + 1, 3, none⟩ = some (.string yv.f3) := r3
    have r4' : ((((((w4.setCell ⟨w.heap.size + 1 + 1, 0, none⟩ (.int .i64 yv.f0)).setCell ⟨w.heap.size + 1 + 1, 1, none⟩ (.int .i64 yv.f1)).setCell ⟨w.heap.size + 1 + 1, 2, none⟩ (.int .i64 yv.f2)).setCell ⟨w.heap.size + 1 + 1, 3, none⟩ (.string yv.f3)).setCell ⟨w.heap.size + 1 + 1, 4, none⟩ (.slice a4 yv.f4.length c4)).setCell ⟨w.heap.size + 1 + 1, 5, none⟩ (.slice a5 yv.f5.length c5)).cell? ⟨w.heap.size + 1 + 1, 4, none⟩ = some (.slice a4 yv.f4.length c4) := r4
    have r5' : ((((((w4.setCell ⟨w.heap.size + 1 + 1, 0, none⟩ (.int .i64 yv.f0)).setCell ⟨w.heap.size + 1 + 1, 1, none⟩ (.int .i64 yv.f1)).setCell ⟨w.heap.size + 1 + 1, 2, none⟩ (.int .i64 yv.f2)).setCell ⟨w.heap.size + 1 + 1, 3, none⟩ (.string yv.f3)).setCell ⟨w.heap.size + 1 + 1, 4, none⟩ (.slice a4 yv.f4.length c4)).setCell ⟨w.heap.size + 1 + 1, 5, none⟩ (.slice a5 yv.f5.length c5)).cell? ⟨w.heap.size + 1 + 1, 5, none⟩ = some (.slice a5 yv.f5.length c5) := r5
    simp [results, Try.results94, go_sem, r0', r1', r2', r3', r4', r5']) rfl ⟨a4, c4, a5, c5, rfl, HVF.out, HBF.out⟩
 · have hd : getR s n g = z35 := by unfold getR; rw [if_neg hz]
   rw [hd]
   obtain ⟨fe, hfe⟩ : ∃ fe, fe = findE s n g := ⟨_, rfl⟩
   rw [← hfe] at KF hz ⊢
   have hfb : (fe != 0) = true := by simpa using hz
   have HVA := A_ (fun (W : World) (_ : RowKit.Below w.heap.size w W) => (show HasV z35 none 0 none 0 W from ⟨Nat.le_refl _, Kd.F_now (Kd.F_nil k35 _ (fun _ => True)), Nat.le_refl _, Kd.F_now (Kd.F_nil k89 _ (fun _ => True))⟩))
   clear hd hz hfe
   go_enter Try.func94, Try.ntmps94
   go_wp2_with fail
   refine Calls.mono (KF.out _ HB3.out) ?_
   rintro e w4 ⟨rfl, hb⟩
   have HB4 := A_ (below_step HB3.out hb)
   replace BX := A_ (blk_below BX.out hb)
   replace BN := A_ (blk_below BN.out hb)
   replace BZ := A_ (blk_below BZ.out hb)
   have HR4 := A_ (H0.out.below HB4.out)
   clear hb KF u0 u1 u2 u3 u4 u5 u6 z0 z1
   obtain ⟨u0, u1, u2, u3, u4, u5, u6⟩ := box7 BX.out
   obtain ⟨z0, z1⟩ := box2 BN.out
   have hlx := blk_lt BX.out
   have hln := blk_lt BN.out
   obtain ⟨t0, t1, t2, t3, t4, t5⟩ := box35 BZ.out
   have fzz := blk_frozen BZ.out
   have fq0 := fzz 0
   have fq1 := fzz 1
   have fq2 := fzz 2
   have fq3 := fzz 3
   have fq4 := fzz 4
   have fq5 := fzz 5
   have hzl := blk_lt BZ.out
   have HBF := A_ (show RowKit.Below w.heap.size w (w4.setCells (w.heap.size + 1 + 1) 0 [.int .i64 0, .int .i64 0, .int .i64 0, .string ⟨#[]⟩, .slice none 0 0, .slice none 0 0]) from HB4.out.trans (below_setcells (b := w.heap.size) (g := w.heap.size + 1 + 1) (by omega) 0 _))
   have HVF := A_ (HVA.out _ HBF.out)
   have e0 := heap_setCell_same _ (w.heap.size + 1 + 1) 0 _ 35 (.int .i64 0) BZ.out
   have e1 := heap_setCell_same _ (w.heap.size + 1 + 1) 1 _ 35 (.int .i64 0) e0
   have e2 := heap_setCell_same _ (w.heap.size + 1 + 1) 2 _ 35 (.int .i64 0) e1
   have e3 := heap_setCell_same _ (w.heap.size + 1 + 1) 3 _ 35 (.string ⟨#[]⟩) e2
   have e4 := heap_setCell_same _ (w.heap.size + 1 + 1) 4 _ 35 (.slice none 0 0) e3
   have e5 := heap_setCell_same _ (w.heap.size + 1 + 1) 5 _ 35 (.slice none 0 0) e4
   have E6 := A_ e5
   clear fzz e0 e1 e2 e3 e4 e5
   go_wp2
   obtain ⟨r0, r1, r2, r3, r4, r5⟩ := box35 (c0 := .int .i64 0) (c1 := .int .i64 0) (c2 := .int .i64 0) (c3 := .string ⟨#[]⟩) (c4 := .slice none 0 0) (c5 := .slice none 0 0) E6.out
   refine bodyPost_ret (v := .tuple #[.agg #[.int .i64 0, .int .i64 0, .int .i64 0, .string ⟨#[]⟩, .slice none 0 0, .slice none 0 0], .int .i64 fe]) (by
    have r0' : ((((((w4.setCell ⟨w.heap.size + 1 + 1, 0, none⟩ (.int .i64 0)).setCell ⟨w.heap.size + 1 + 1, 1, none⟩ (.int .i64 0)).setCell ⟨w.heap.size + 1 + 1, 2, none⟩ (.int .i64 0)).setCell ⟨w.heap.size + 1 + 1, 3, none⟩ (.string ⟨#[]⟩)).setCell ⟨w.heap.size + 1 + 1, 4, none⟩ (.slice none 0 0)).setCell ⟨w.heap.size + 1 + 1, 5, none⟩ (.slice none 0 0)).cell? ⟨w.heap.size + 1 + 1, 0, none⟩ = some (.int .i64 0) := r0
    have r1' : ((((((w4.setCell ⟨w.heap.size + 1 + 1, 0, none⟩ (.int .i64 0)).setCell ⟨w.heap.size + 1 + 1, 1, none⟩ (.int .i64 0)).setCell ⟨w.heap.size + 1 + 1, 2, none⟩ (.int .i64 0)).setCell ⟨w.heap.size + 1 + 1, 3, none⟩ (.string ⟨#[]⟩)).setCell ⟨w.heap.size + 1 + 1, 4, none⟩ (.slice none 0 0)).setCell ⟨w.heap.size + 1 + 1, 5, none⟩ (.slice none 0 0)).cell? ⟨w.heap.size + 1 + 1, 1, none⟩ = some (.int .i64 0) := r1
    have r2' : ((((((w4.setCell ⟨w.heap.size + 1 + 1, 0, none⟩ (.int .i64 0)).setCell ⟨w.heap.size + 1 + 1, 1, none⟩ (.int .i64 0)).setCell ⟨w.heap.size + 1 + 1, 2, none⟩ (.int .i64 0)).setCell ⟨w.heap.size + 1 + 1, 3, none⟩ (.string ⟨#[]⟩)).setCell ⟨w.heap.size + 1 + 1, 4, none⟩ (.slice none 0 0)).setCell ⟨w.heap.size + 1 + 1, 5, none⟩ (.slice none 0 0)).cell? ⟨w.heap.size + 1 + 1, 2, none⟩ = some (.int .i64 0) := r2
    have r3' : ((((((w4.setCell ⟨w.heap.size + 1 + 1, 0, none⟩ (.int .i64 0)).setCell ⟨w.heap.size + 1 + 1, 1, none⟩ (.int .i64 0)).setCell ⟨w.heap.size + 1 + 1, 2, none⟩ (.int .i64 0)).setCell ⟨w.heap.size + 1 + 1, 3, none⟩ (.string ⟨#[]⟩)).setCell ⟨w.heap.size + 1 + 1, 4, none⟩ (.slice none 0 0)).setCell ⟨w.heap.size + 1 + 1, 5, none⟩ (.slice none 0 0)).cell? ⟨w.heap.size + 1 + 1, 3, none⟩ = some (.string ⟨#[]⟩) := r3
    have r4' : ((((((w4.setCell ⟨w.heap.size + 1 + 1, 0, none⟩ (.int .i64 0)).setCell ⟨w.heap.size + 1 + 1, 1, none⟩ (.int .i64 0)).setCell ⟨w.heap.size + 1 + 1, 2, none⟩ (.int .i64 0)).setCell ⟨w.heap.size + 1 + 1, 3, none⟩ (.string ⟨#[]⟩)).setCell ⟨w.heap.size + 1 + 1, 4, none⟩ (.slice none 0 0)).setCell ⟨w.heap.size + 1 + 1, 5, none⟩ (.slice none 0 0)).cell? ⟨w.heap.size + 1 + 1, 4, none⟩ = some (.slice none 0 0) := r4
    have r5' : ((((((w4.setCell ⟨w.heap.size + 1 + 1, 0, none⟩ (.int .i64 0)).setCell ⟨w.heap.size + 1 + 1, 1, none⟩ (.int .i64 0)).setCell ⟨w.heap.size + 1 + 1, 2, none⟩ (.int .i64 0)).setCell ⟨w.heap.size + 1 + 1, 3, none⟩ (.string ⟨#[]⟩)).setCell ⟨w.heap.size + 1 + 1, 4, none⟩ (.slice none 0 0)).setCell ⟨w.heap.size + 1 + 1, 5, none⟩ (.slice none 0 0)).cell? ⟨w.heap.size + 1 + 1, 5, none⟩ = some (.slice none 0 0) := r5
    simp [results, Try.results94, go_sem, r0', r1', r2', r3', r4', r5']) rfl ⟨none, 0, none, 0, rfl, HVF.out, HBF.out⟩
set_option maxHeartbeats 4000000 in
set_option maxRecDepth 100000 in
theorem res141 (key : ByteArray) (w : World) : Calls Try.prog 141 #[.string key] w fun e w' => e = .returned (.bool (resK key)) ∧ w' = w := by
 go_enter Try.func141, Try.ntmps141
 go_wp2
 all_goals
  go_ret
  refine ⟨ret_b ?_, rfl⟩
  unfold resK
  first | (simp [*]; done) | (simp [*]; rw [Bool.eq_iff_iff]; simp)
theorem plain_typed60 (v : S35) (A4 : Option Addr) (c4 : Nat) (A5 : Option Addr) (c5 : Nat) (W : World) (hf : fewV v) (h : HasV v A4 c4 A5 c5 W) : Calls Try.prog 60 #[.agg #[.int .i64 v.f0, .int .i64 v.f1, .int .i64 v.f2, .string v.f3, .slice A4 v.f4.length c4, .slice A5 v.f5.length c5]] W fun e w' => ∃ a4 n4 a5 n5, e = .returned (.agg #[.int .i64 (plain v).f0, .int .i64 (plain v).f1, .int .i64 (plain v).f2, .string (plain v).f3, .slice a4 (plain v).f4.length n4, .slice a5 (plain v).f5.length n5]) ∧ FV (RowB w') (plain v) a4 n4 a5 n5 w' ∧ RowKit.Below W.heap.size W w' := by
 refine (rplain_all v A4 c4 A5 c5 W hf h.1 h.2.1 h.2.2.1 h.2.2.2).mono ?_
 rintro e w' ⟨v4, v5, rfl, r4, r5, hb⟩
 obtain ⟨a, n, rfl, h1, h2⟩ := Kd.V_mono (base := W.heap.size) (ok' := RowB w') (Kd.R_V (Kd.R_bound r4)) (fun k hk => typed_of (fun q hq => by rw [show (35 :: k35.E) = [35, 35, 89] from rfl] at hq; simpa using hq) hk.2.2.2)
 obtain ⟨a', n', rfl, h3, h4⟩ := Kd.V_mono (base := W.heap.size) (ok' := RowB w') (Kd.R_V (Kd.R_bound r5)) (fun k hk => typed_of (fun q hq => by rw [show (89 :: k89.E) = [89, 35, 89] from rfl] at hq; simp at hq; omega) hk.2.2.2)
 exact ⟨a, n, a', n', rfl, ⟨h1, h2, h3, h4⟩, hb⟩
theorem plain_is8 (v : S35) : (plain v).f0 = 8 ↔ v.f0 = 8 := by
 rw [plain_eq]
 split
 · simp
 split
 · simp
 split
 · simp
 split
 · simp
 split
 · simp
 split
 · simp
 · rename_i h; simp [z35, h]
set_option maxHeartbeats 4000000 in
set_option maxRecDepth 100000 in
theorem ref_put (b : Nat → Prop) (R : RL) (s : WS) (n g : Int) (v : S35) (A4 : Option Addr) (c4 : Nat) (A5 : Option Addr) (c5 : Nat) (w : World) (h : RefIs b R s w) (h0 : ∀ k, w.heap.size ≤ k → b k) (h9 : R.rsN.length ≤ 90000) (hv : HasV v A4 c4 A5 c5 w) (hfv : fewV v) (hsv : szV v) : Calls Try.prog 92 #[.agg (R.cells s), .agg #[.int .i64 n, .int .i64 g], .agg #[.int .i64 v.f0, .int .i64 v.f1, .int .i64 v.f2, .string v.f3, .slice A4 v.f4.length c4, .slice A5 v.f5.length c5]] w fun e w' => ∃ R', e = .returned (.tuple #[.agg (R'.cells (putW s n g v)), .int .i64 (putE s n g v)]) ∧ RefIs b R' (putW s n g v) w' ∧ RowKit.Below w.heap.size w w' := by
 have hu33 := Try.underlying33
 have hu89 := Try.underlying89
 have hu28 := Try.underlying28
 have hu35 := Try.underlying35
 have hu46 := Try.underlying46
 have hu49 := Try.underlying49
 have hu51 := Try.underlying51
 have hu69 := Try.underlying69
 obtain ⟨gN, cN, rsN, gB, cB, rsB⟩ := R
 have hlen : s.now.length = rsN.length := by rw [← h.2.1, List.length_map]
 have H0 := A_ h
 simp only [RL.cells] at h9 ⊢
 obtain ⟨nN, hnN⟩ : ∃ nN, nN = rsN.length := ⟨_, rfl⟩
 obtain ⟨nB, hnB⟩ : ∃ nB, nB = rsB.length := ⟨_, rfl⟩
 have HNN := A_ (And.intro hnN hnB)
 have KF := A_ (fun (W : World) (hb : RowKit.Below w.heap.size w W) => ref_find b _ s n g W (h.below hb) h9)
 have KC := A_ (fun (W : World) (hb : RowKit.Below w.heap.size w W) => rcheck_calls v A4 c4 A5 c5 true W hsv (hv.below hb).1 (hv.below hb).2.1 (hv.below hb).2.2.1 (hv.below hb).2.2.2)
 have KP := A_ (fun (W : World) (hb : RowKit.Below w.heap.size w W) => plain_typed60 v A4 c4 A5 c5 W hfv (hv.below hb))
 have HPF := A_ (plain_few v hfv)
 have HP8 := A_ (plain_is8 v)
 simp only [RL.cells] at KF
 rw [← hnN] at h9 hlen
 rw [← hnN, ← hnB] at KF
 rw [← hnN, ← hnB]
 have HB3 := A_ (below_alloc (below_alloc (below_alloc (below_alloc (RowKit.Below.refl w.heap.size w) (.cells #[.slice (some ⟨gN, 0, none⟩) nN cN, .int .i64 s.rn, .int .i64 s.rg, .slice (some ⟨gB, 0, none⟩) nB cB, .int .i64 s.bn, .int .i64 s.bg, .int .i64 s.most] 51)) (.cells #[.int .i64 n, .int .i64 g] 28)) (.cells #[.int .i64 v.f0, .int .i64 v.f1, .int .i64 v.f2, .string v.f3, .slice A4 v.f4.length c4, .slice A5 v.f5.length c5] 35)) (.cells #[.slice none 0 0, .int .i64 0, .int .i64 0, .slice none 0 0, .int .i64 0, .int .i64 0, .int .i64 0] 51))
 have BX := A_ (blk_alloc (blk_alloc (blk_alloc (blk_new w (.cells #[.slice (some ⟨gN, 0, none⟩) nN cN, .int .i64 s.rn, .int .i64 s.rg, .slice (some ⟨gB, 0, none⟩) nB cB, .int .i64 s.bn, .int .i64 s.bg, .int .i64 s.most] 51)) (.cells #[.int .i64 n, .int .i64 g] 28)) (.cells #[.int .i64 v.f0, .int .i64 v.f1, .int .i64 v.f2, .string v.f3, .slice A4 v.f4.length c4, .slice A5 v.f5.length c5] 35)) (.cells #[.slice none 0 0, .int .i64 0, .int .i64 0, .slice none 0 0, .int .i64 0, .int .i64 0, .int .i64 0] 51))
 have BN := A_ (blk_alloc (blk_alloc (blk_new (w.alloc (.cells #[.slice (some ⟨gN, 0, none⟩) nN cN, .int .i64 s.rn, .int .i64 s.rg, .slice (some ⟨gB, 0, none⟩) nB cB, .int .i64 s.bn, .int .i64 s.bg, .int .i64 s.most] 51)) (.cells #[.int .i64 n, .int .i64 g] 28)) (.cells #[.int .i64 v.f0, .int .i64 v.f1, .int .i64 v.f2, .string v.f3, .slice A4 v.f4.length c4, .slice A5 v.f5.length c5] 35)) (.cells #[.slice none 0 0, .int .i64 0, .int .i64 0, .slice none 0 0, .int .i64 0, .int .i64 0, .int .i64 0] 51))
 have BV := A_ (blk_alloc (blk_new ((w.alloc (.cells #[.slice (some ⟨gN, 0, none⟩) nN cN, .int .i64 s.rn, .int .i64 s.rg, .slice (some ⟨gB, 0, none⟩) nB cB, .int .i64 s.bn, .int .i64 s.bg, .int .i64 s.most] 51)).alloc (.cells #[.int .i64 n, .int .i64 g] 28)) (.cells #[.int .i64 v.f0, .int .i64 v.f1, .int .i64 v.f2, .string v.f3, .slice A4 v.f4.length c4, .slice A5 v.f5.length c5] 35)) (.cells #[.slice none 0 0, .int .i64 0, .int .i64 0, .slice none 0 0, .int .i64 0, .int .i64 0, .int .i64 0] 51))
 have BZ := A_ (blk_new (((w.alloc (.cells #[.slice (some ⟨gN, 0, none⟩) nN cN, .int .i64 s.rn, .int .i64 s.rg, .slice (some ⟨gB, 0, none⟩) nB cB, .int .i64 s.bn, .int .i64 s.bg, .int .i64 s.most] 51)).alloc (.cells #[.int .i64 n, .int .i64 g] 28)).alloc (.cells #[.int .i64 v.f0, .int .i64 v.f1, .int .i64 v.f2, .string v.f3, .slice A4 v.f4.length c4, .slice A5 v.f5.length c5] 35)) (.cells #[.slice none 0 0, .int .i64 0, .int .i64 0, .slice none 0 0, .int .i64 0, .int .i64 0, .int .i64 0] 51))
 simp only [World.size_alloc] at BN BZ BV
 obtain ⟨u0, u1, u2, u3, u4, u5, u6⟩ := box7 BX.out
 obtain ⟨z0, z1⟩ := box2 BN.out
 obtain ⟨v0, v1, v2, v3, v4, v5⟩ := box35 BV.out
 obtain ⟨pe, hpe⟩ : ∃ pe, pe = putE s n g v := ⟨_, rfl⟩
 obtain ⟨sp, hsp⟩ : ∃ sp, sp = putW s n g v := ⟨_, rfl⟩
 rw [← hpe, ← hsp]
 have HPE := A_ (And.intro hpe hsp)
 clear h hnN hnB hv hfv hsv hpe hsp
 by_cases hz : findE s n g = 0
 case neg =>
  obtain ⟨fe, hfe⟩ : ∃ fe, fe = findE s n g := ⟨_, rfl⟩
  have hpe : pe = fe := HPE.out.1.trans (by unfold putE; rw [if_pos hz, hfe])
  have hsp : sp = s := HPE.out.2.trans (by unfold putW; rw [← HPE.out.1, hpe, hfe, if_neg hz])
  subst hpe
  rw [hsp]
  rw [← hfe] at KF hz
  have hfb : (pe != 0) = true := by simpa using hz
  clear hz hfe hsp HPE KC KP
  go_enter Try.func92, Try.ntmps92
  go_wp2_with fail
  refine Calls.mono (KF.out _ HB3.out) ?_
  rintro e w4 ⟨rfl, hb⟩
  have HB4 := A_ (below_step HB3.out hb)
  replace BX := A_ (blk_below BX.out hb)
  replace BN := A_ (blk_below BN.out hb)
  replace BV := A_ (blk_below BV.out hb)
  replace BZ := A_ (blk_below BZ.out hb)
  clear hb KF
  clear u0 u1 u2 u3 u4 u5 u6 z0 z1 v0 v1 v2 v3 v4 v5
  obtain ⟨u0, u1, u2, u3, u4, u5, u6⟩ := box7 BX.out
  obtain ⟨z0, z1⟩ := box2 BN.out
  obtain ⟨v0, v1, v2, v3, v4, v5⟩ := box35 BV.out
  have hlx := blk_lt BX.out
  have hln := blk_lt BN.out
  have hlv := blk_lt BV.out
  have HRE := A_ (H0.out.below HB4.out)
  obtain ⟨t0, t1, t2, t3, t4, t5, t6⟩ := box7 BZ.out
  obtain ⟨fq0, fq1, fq2, fq3, fq4, fq5, fq6⟩ := frz7 BZ.out
  have hzl := blk_lt BZ.out
  have HBF := A_ (show RowKit.Below w.heap.size w (w4.setCells (w.heap.size + 1 + 1 + 1) 0 [.slice (some ⟨gN, 0, none⟩) nN cN, .int .i64 s.rn, .int .i64 s.rg, .slice (some ⟨gB, 0, none⟩) nB cB, .int .i64 s.bn, .int .i64 s.bg, .int .i64 s.most]) from HB4.out.trans (below_setcells (b := w.heap.size) (g := w.heap.size + 1 + 1 + 1) (by omega) 0 _))
  have HRF := A_ (HRE.out.box BZ.out (by decide) (by decide) 0 [.slice (some ⟨gN, 0, none⟩) nN cN, .int .i64 s.rn, .int .i64 s.rg, .slice (some ⟨gB, 0, none⟩) nB cB, .int .i64 s.bn, .int .i64 s.bg, .int .i64 s.most])
  have e6 := set_same7 (.slice (some ⟨gN, 0, none⟩) nN cN) (.int .i64 s.rn) (.int .i64 s.rg) (.slice (some ⟨gB, 0, none⟩) nB cB) (.int .i64 s.bn) (.int .i64 s.bg) (.int .i64 s.most) BZ.out
  have E6 := A_ e6
  clear e6
  go_wp2
  refine ret_named (w4.setCells (w.heap.size + 1 + 1 + 1) 0 [.slice (some ⟨gN, 0, none⟩) nN cN, .int .i64 s.rn, .int .i64 s.rg, .slice (some ⟨gB, 0, none⟩) nB cB, .int .i64 s.bn, .int .i64 s.bg, .int .i64 s.most]) rfl (fun Wf hWf => ?_)
  obtain ⟨r0, r1, r2, r3, r4, r5, r6⟩ := box7 (show Wf.heap[w.heap.size + 1 + 1 + 1]? = some (.cells #[.slice (some ⟨gN, 0, none⟩) nN cN, .int .i64 s.rn, .int .i64 s.rg, .slice (some ⟨gB, 0, none⟩) nB cB, .int .i64 s.bn, .int .i64 s.bg, .int .i64 s.most] 51 (0, 0)) from by rw [hWf]; exact E6.out)
  refine bodyPost_ret (v := .tuple #[.agg #[.slice (some ⟨gN, 0, none⟩) nN cN, .int .i64 s.rn, .int .i64 s.rg, .slice (some ⟨gB, 0, none⟩) nB cB, .int .i64 s.bn, .int .i64 s.bg, .int .i64 s.most], .int .i64 pe]) (by simp [results, Try.results92, go_sem, r0, r1, r2, r3, r4, r5, r6]) rfl ?_
  have HC : RowKit.Below w.heap.size w Wf := by rw [hWf]; exact HBF.out
  have HA : RefIs b ⟨gN, cN, rsN, gB, cB, rsB⟩ s Wf := by rw [hWf]; exact HRF.out
  refine ⟨⟨gN, cN, rsN, gB, cB, rsB⟩, ?_, HA, HC⟩
  rw [HNN.out.1, HNN.out.2]
 case pos =>
  rw [hz] at KF
  obtain ⟨ce, hce⟩ : ∃ ce, ce = chkV v true 0 := ⟨_, rfl⟩
  rw [← hce] at KC
  by_cases hc : ce = 0
  case neg =>
   have hpe : pe = ce := HPE.out.1.trans (by unfold putE; rw [if_neg (by simp [hz]), ← hce, if_pos hc])
   have hsp : sp = s := HPE.out.2.trans (by unfold putW; rw [← HPE.out.1, hpe, if_neg hc])
   subst hpe
   rw [hsp]
   have hcb : (pe != 0) = true := by simpa using hc
   clear hz hc hce hsp HPE KP
   go_enter Try.func92, Try.ntmps92
   go_wp2_with fail
   refine Calls.mono (KF.out _ HB3.out) ?_
   rintro e w4 ⟨rfl, hb⟩
   have HB4 := A_ (below_step HB3.out hb)
   replace BX := A_ (blk_below BX.out hb)
   replace BN := A_ (blk_below BN.out hb)
   replace BV := A_ (blk_below BV.out hb)
   replace BZ := A_ (blk_below BZ.out hb)
   clear hb KF
   clear u0 u1 u2 u3 u4 u5 u6 z0 z1 v0 v1 v2 v3 v4 v5
   obtain ⟨u0, u1, u2, u3, u4, u5, u6⟩ := box7 BX.out
   obtain ⟨z0, z1⟩ := box2 BN.out
   obtain ⟨v0, v1, v2, v3, v4, v5⟩ := box35 BV.out
   have hlx := blk_lt BX.out
   have hln := blk_lt BN.out
   have hlv := blk_lt BV.out
   go_wp2_with fail
   refine Calls.mono (KC.out w4 HB4.out) ?_
   rintro e w5 ⟨rfl, hb⟩
   have HB5 := A_ (below_step HB4.out hb)
   replace BX := A_ (blk_below BX.out hb)
   replace BN := A_ (blk_below BN.out hb)
   replace BV := A_ (blk_below BV.out hb)
   replace BZ := A_ (blk_below BZ.out hb)
   clear hb KC
   clear u0 u1 u2 u3 u4 u5 u6 z0 z1 v0 v1 v2 v3 v4 v5 hlx hln hlv
   obtain ⟨u0, u1, u2, u3, u4, u5, u6⟩ := box7 BX.out
   obtain ⟨z0, z1⟩ := box2 BN.out
   obtain ⟨v0, v1, v2, v3, v4, v5⟩ := box35 BV.out
   have hlx := blk_lt BX.out
   have hln := blk_lt BN.out
   have hlv := blk_lt BV.out
   have HRE := A_ (H0.out.below HB5.out)
   obtain ⟨t0, t1, t2, t3, t4, t5, t6⟩ := box7 BZ.out
   obtain ⟨fq0, fq1, fq2, fq3, fq4, fq5, fq6⟩ := frz7 BZ.out
   have hzl := blk_lt BZ.out
   have HBF := A_ (show RowKit.Below w.heap.size w (w5.setCells (w.heap.size + 1 + 1 + 1) 0 [.slice (some ⟨gN, 0, none⟩) nN cN, .int .i64 s.rn, .int .i64 s.rg, .slice (some ⟨gB, 0, none⟩) nB cB, .int .i64 s.bn, .int .i64 s.bg, .int .i64 s.most]) from HB5.out.trans (below_setcells (b := w.heap.size) (g := w.heap.size + 1 + 1 + 1) (by omega) 0 _))
   have HRF := A_ (HRE.out.box BZ.out (by decide) (by decide) 0 [.slice (some ⟨gN, 0, none⟩) nN cN, .int .i64 s.rn, .int .i64 s.rg, .slice (some ⟨gB, 0, none⟩) nB cB, .int .i64 s.bn, .int .i64 s.bg, .int .i64 s.most])
   have e6 := set_same7 (.slice (some ⟨gN, 0, none⟩) nN cN) (.int .i64 s.rn) (.int .i64 s.rg) (.slice (some ⟨gB, 0, none⟩) nB cB) (.int .i64 s.bn) (.int .i64 s.bg) (.int .i64 s.most) BZ.out
   have E6 := A_ e6
   clear e6
   go_wp2
   refine ret_named (w5.setCells (w.heap.size + 1 + 1 + 1) 0 [.slice (some ⟨gN, 0, none⟩) nN cN, .int .i64 s.rn, .int .i64 s.rg, .slice (some ⟨gB, 0, none⟩) nB cB, .int .i64 s.bn, .int .i64 s.bg, .int .i64 s.most]) rfl (fun Wf hWf => ?_)
   obtain ⟨r0, r1, r2, r3, r4, r5, r6⟩ := box7 (show Wf.heap[w.heap.size + 1 + 1 + 1]? = some (.cells #[.slice (some ⟨gN, 0, none⟩) nN cN, .int .i64 s.rn, .int .i64 s.rg, .slice (some ⟨gB, 0, none⟩) nB cB, .int .i64 s.bn, .int .i64 s.bg, .int .i64 s.most] 51 (0, 0)) from by rw [hWf]; exact E6.out)
   refine bodyPost_ret (v := .tuple #[.agg #[.slice (some ⟨gN, 0, none⟩) nN cN, .int .i64 s.rn, .int .i64 s.rg, .slice (some ⟨gB, 0, none⟩) nB cB, .int .i64 s.bn, .int .i64 s.bg, .int .i64 s.most], .int .i64 pe]) (by simp [results, Try.results92, go_sem, r0, r1, r2, r3, r4, r5, r6]) rfl ?_
   have HC : RowKit.Below w.heap.size w Wf := by rw [hWf]; exact HBF.out
   have HA : RefIs b ⟨gN, cN, rsN, gB, cB, rsB⟩ s Wf := by rw [hWf]; exact HRF.out
   refine ⟨⟨gN, cN, rsN, gB, cB, rsB⟩, ?_, HA, HC⟩
   rw [HNN.out.1, HNN.out.2]
  case pos =>
   subst hc
   have hpw : pe = if resV (plain v) = true then 11 else 0 := HPE.out.1.trans (by unfold putE; rw [if_neg (by simp [hz]), ← hce, if_neg (by simp)])
   obtain ⟨p, hp⟩ : ∃ p, p = plain v := ⟨_, rfl⟩
   rw [← hp] at HPF HP8 hpw
   have HPP := A_ hp
   simp only [← hp] at KP
   obtain ⟨ND, hND⟩ : ∃ ND, ND = p.f5.length := ⟨_, rfl⟩
   have HND := A_ hND
   have HNM := A_ (show ND ≤ 90000 by rw [hND]; exact (fewV_at HPF.out).2.1)
   cases hrv : resV p
   case true =>
    rw [hrv, if_pos rfl] at hpw
    have hsp : sp = s := HPE.out.2.trans (by unfold putW; rw [← HPE.out.1, hpw, if_neg (by decide)])
    subst hpw
    rw [hsp]
    have h8 : v.f0 = 8 := HP8.out.1 (by unfold resV at hrv; simp at hrv; exact hrv.1)
    have h8b : (v.f0 == 8) = true := by simp [h8]
    have HRV := A_ (show ∃ j, j < ND ∧ resK (p.f5.getD j z89).f0 = true from by
     unfold resV resI at hrv
     simp only [Bool.and_eq_true, List.any_eq_true] at hrv
     obtain ⟨_, x, hx, hk⟩ := hrv
     obtain ⟨j, hj⟩ := List.getElem?_of_mem hx
     have hjl := (List.getElem?_eq_some_iff.1 hj).1
     exact ⟨j, by omega, by rw [List.getD_eq_getElem?_getD, hj]; exact hk⟩)
    clear hz hce hp hsp h8 HPE hrv hND
    go_enter Try.func92, Try.ntmps92
    go_wp2_with fail
    refine Calls.mono (KF.out _ HB3.out) ?_
    rintro e w4 ⟨rfl, hb⟩
    have HB4 := A_ (below_step HB3.out hb)
    replace BX := A_ (blk_below BX.out hb)
    replace BN := A_ (blk_below BN.out hb)
    replace BV := A_ (blk_below BV.out hb)
    replace BZ := A_ (blk_below BZ.out hb)
    clear hb KF
    clear u0 u1 u2 u3 u4 u5 u6 z0 z1 v0 v1 v2 v3 v4 v5
    obtain ⟨u0, u1, u2, u3, u4, u5, u6⟩ := box7 BX.out
    obtain ⟨z0, z1⟩ := box2 BN.out
    obtain ⟨v0, v1, v2, v3, v4, v5⟩ := box35 BV.out
    have hlx := blk_lt BX.out
    have hln := blk_lt BN.out
    have hlv := blk_lt BV.out
    go_wp2_with fail
    refine Calls.mono (KC.out w4 HB4.out) ?_
    rintro e w5 ⟨rfl, hb⟩
    have HB5 := A_ (below_step HB4.out hb)
    replace BX := A_ (blk_below BX.out hb)
    replace BN := A_ (blk_below BN.out hb)
    replace BV := A_ (blk_below BV.out hb)
    replace BZ := A_ (blk_below BZ.out hb)
    clear hb KC
    clear u0 u1 u2 u3 u4 u5 u6 z0 z1 v0 v1 v2 v3 v4 v5 hlx hln hlv
    obtain ⟨u0, u1, u2, u3, u4, u5, u6⟩ := box7 BX.out
    obtain ⟨z0, z1⟩ := box2 BN.out
    obtain ⟨v0, v1, v2, v3, v4, v5⟩ := box35 BV.out
    have hlx := blk_lt BX.out
    have hln := blk_lt BN.out
    have hlv := blk_lt BV.out
    go_wp2_with fail
    refine Calls.mono (KP.out w5 HB5.out) ?_
    rintro e w6 ⟨a4, n4, a5, n5, rfl, hpv, hb0⟩
    rw [← HND.out]
    have hb := below_step hb0 (below_alloc (RowKit.Below.refl _ w6) (.cells #[.int .i64 p.f0, .int .i64 p.f1, .int .i64 p.f2, .string p.f3, .slice a4 p.f4.length n4, .slice a5 ND n5] 35))
    have HB6 := A_ (below_step HB5.out hb)
    have BP := A_ (blk_new w6 (.cells #[.int .i64 p.f0, .int .i64 p.f1, .int .i64 p.f2, .string p.f3, .slice a4 p.f4.length n4, .slice a5 ND n5] 35))
    have HPV := A_ (FT.keep (B := 0) (y := ⟨⟨g, true, p⟩, a4, n4, a5, n5⟩) hpv (KeepU.of_below (Nat.zero_le _) (below_alloc (RowKit.Below.refl _ w6) (.cells #[.int .i64 p.f0, .int .i64 p.f1, .int .i64 p.f2, .string p.f3, .slice a4 p.f4.length n4, .slice a5 ND n5] 35))))
    replace BX := A_ (blk_below BX.out hb)
    replace BN := A_ (blk_below BN.out hb)
    replace BV := A_ (blk_below BV.out hb)
    replace BZ := A_ (blk_below BZ.out hb)
    clear hb hb0 hpv KP
    have hszp : w6.heap.size < (w6.alloc (.cells #[.int .i64 p.f0, .int .i64 p.f1, .int .i64 p.f2, .string p.f3, .slice a4 p.f4.length n4, .slice a5 ND n5] 35)).heap.size := by simp
    clear u0 u1 u2 u3 u4 u5 u6 z0 z1 v0 v1 v2 v3 v4 v5 hlx hln hlv
    obtain ⟨u0, u1, u2, u3, u4, u5, u6⟩ := box7 BX.out
    obtain ⟨z0, z1⟩ := box2 BN.out
    obtain ⟨v0, v1, v2, v3, v4, v5⟩ := box35 BV.out
    have hlx := blk_lt BX.out
    have hln := blk_lt BN.out
    have hlv := blk_lt BV.out
    go_upto_block 0 with fail
    generalize hw7 : w6.alloc (.cells #[.int .i64 p.f0, .int .i64 p.f1, .int .i64 p.f2, .string p.f3, .slice a4 p.f4.length n4, .slice a5 ND n5] 35) = w7 at *
    generalize hbp : w6.heap.size = bp at *
    clear hw7 hbp u0 u1 u2 u3 u4 u5 u6 z0 z1 v0 v1 v2 v3 v4 v5 hlx hln hlv
    have HW7 := A_ (RowKit.Below.refl w7.heap.size w7)
    go_wp2
    go_loopw [11] (fun i_ wr => ∃ k : Nat, k ≤ ND ∧ i_ = .int .i64 k ∧ Aside0 (RowKit.Below w7.heap.size w7 wr) ∧ Aside0 (∀ j, j < k → ¬ resK (p.f5.getD j z89).f0 = true)) (fun i_ _ => ND - (intOf i_).toNat)
    case atStart => exact ⟨0, Nat.zero_le _, rfl, HW7, ⟨fun j hj => by omega⟩⟩
    case round =>
     clear HW7
     obtain ⟨k, hk, rfl, HBW, HNO⟩ := hrel
     replace BP := A_ (blk_below BP.out HBW.out)
     obtain ⟨q0, q1, q2, q3, q4, q5⟩ := box35 BP.out
     have hlp := blk_lt BP.out
     by_cases hlt : k < ND
     · obtain ⟨ad, Q4, q4', Q5, q5', hA, y0, -⟩ := at_T89 (Kd.C_below (FV.has HPV.out).2.2.2 HBW.out) (k : Int) (by omega) (by have := HND.out; show (k : Int) < (p.f5.length : Int); omega)
       have hA' : a5 = some ad := hA
       subst hA'
       have y0' : wr.cell? (ad.add (k * 7)) = some (.string (p.f5.getD k z89).f0) := by simpa [rd_T89] using y0
       have BVW := blk_below BV.out HBW.out
       obtain ⟨v0, v1, v2, v3, v4, v5⟩ := box35 BVW
       have hlv := blk_lt BVW
       have hwk : wrap64 ((k : Int) + 1) = (k : Int) + 1 := by have := HNM.out; unfold wrap64; omega
       have HWK := A_ hwk
       have hNm : ND ≤ 9223372036854775807 := by have := HNM.out; omega
       have KR := A_ (res141 (p.f5.getD k z89).f0 wr)
       obtain ⟨key, hkey⟩ : ∃ key, key = (p.f5.getD k z89).f0 := ⟨_, rfl⟩
       rw [← hkey] at y0' KR
       obtain ⟨rk, hrk⟩ : ∃ rk, rk = resK key := ⟨_, rfl⟩
       rw [← hrk] at KR
       have HKR := A_ (hrk.trans (by rw [hkey]))
       clear y0 hwk hkey hrk hA BVW
       go_wp2_with fail
       refine Calls.mono KR.out ?_
       rintro e w8 ⟨rfl, rfl⟩
       clear KR
       cases rk
       case false =>
        have HNO2 := A_ (show ∀ j, j < k + 1 → ¬ resK (p.f5.getD j z89).f0 = true from fun j hj => by
         by_cases hjk : j < k
         · exact HNO.out j hjk
         · obtain rfl : j = k := by omega
           rw [← HKR.out]
           simp)
        go_wp2
        exact ⟨⟨k + 1, by omega, by first | (rw [HWK.out]; simp; done) | (simp; done), HBW, HNO2⟩, by first | (rw [HWK.out]; simp [intOf]; omega) | (simp [intOf]; omega)⟩
       case true =>
        have HBr := A_ (below_step HB6.out HBW.out)
        replace BX := A_ (blk_below BX.out HBW.out)
        replace BZ := A_ (blk_below BZ.out HBW.out)
        obtain ⟨u0, u1, u2, u3, u4, u5, u6⟩ := box7 BX.out
        have hlx := blk_lt BX.out
        have HRE := A_ (H0.out.below HBr.out)
        obtain ⟨t0, t1, t2, t3, t4, t5, t6⟩ := box7 BZ.out
        obtain ⟨fq0, fq1, fq2, fq3, fq4, fq5, fq6⟩ := frz7 BZ.out
        have hzl := blk_lt BZ.out
        have HBF := A_ (show RowKit.Below w.heap.size w (w8.setCells (w.heap.size + 1 + 1 + 1) 0 [.slice (some ⟨gN, 0, none⟩) nN cN, .int .i64 s.rn, .int .i64 s.rg, .slice (some ⟨gB, 0, none⟩) nB cB, .int .i64 s.bn, .int .i64 s.bg, .int .i64 s.most]) from HBr.out.trans (below_setcells (b := w.heap.size) (g := w.heap.size + 1 + 1 + 1) (by omega) 0 _))
        have HRF := A_ (HRE.out.box BZ.out (by decide) (by decide) 0 [.slice (some ⟨gN, 0, none⟩) nN cN, .int .i64 s.rn, .int .i64 s.rg, .slice (some ⟨gB, 0, none⟩) nB cB, .int .i64 s.bn, .int .i64 s.bg, .int .i64 s.most])
        have e6 := set_same7 (.slice (some ⟨gN, 0, none⟩) nN cN) (.int .i64 s.rn) (.int .i64 s.rg) (.slice (some ⟨gB, 0, none⟩) nB cB) (.int .i64 s.bn) (.int .i64 s.bg) (.int .i64 s.most) BZ.out
        have E6 := A_ e6
        clear e6
        go_wp2
        refine ret_named (w8.setCells (w.heap.size + 1 + 1 + 1) 0 [.slice (some ⟨gN, 0, none⟩) nN cN, .int .i64 s.rn, .int .i64 s.rg, .slice (some ⟨gB, 0, none⟩) nB cB, .int .i64 s.bn, .int .i64 s.bg, .int .i64 s.most]) rfl (fun Wf hWf => ?_)
        obtain ⟨r0, r1, r2, r3, r4, r5, r6⟩ := box7 (show Wf.heap[w.heap.size + 1 + 1 + 1]? = some (.cells #[.slice (some ⟨gN, 0, none⟩) nN cN, .int .i64 s.rn, .int .i64 s.rg, .slice (some ⟨gB, 0, none⟩) nB cB, .int .i64 s.bn, .int .i64 s.bg, .int .i64 s.most] 51 (0, 0)) from by rw [hWf]; exact E6.out)
        refine bodyPost_ret (v := .tuple #[.agg #[.slice (some ⟨gN, 0, none⟩) nN cN, .int .i64 s.rn, .int .i64 s.rg, .slice (some ⟨gB, 0, none⟩) nB cB, .int .i64 s.bn, .int .i64 s.bg, .int .i64 s.most], .int .i64 11]) (by simp [results, Try.results92, go_sem, r0, r1, r2, r3, r4, r5, r6]) rfl ?_
        have HC : RowKit.Below w.heap.size w Wf := by rw [hWf]; exact HBF.out
        have HA : RefIs b ⟨gN, cN, rsN, gB, cB, rsB⟩ s Wf := by rw [hWf]; exact HRF.out
        refine ⟨⟨gN, cN, rsN, gB, cB, rsB⟩, ?_, HA, HC⟩
        rw [HNN.out.1, HNN.out.2]
     · obtain rfl : ND = k := by omega
       exfalso
       obtain ⟨j, hj, hk2⟩ := HRV.out
       exact HNO.out j (by omega) hk2
   case false =>
    rw [hrv, if_neg (by simp)] at hpw
    have hsp : sp = { s with now := s.now.set n.toNat ⟨g, true, p⟩ } := HPE.out.2.trans (by unfold putW; rw [← HPE.out.1, hpw, if_pos rfl, hp])
    subst hpw
    obtain ⟨i, hni, hi1, hi2, hlv, hg⟩ := findE_zero hz
    subst hni
    rw [Int.toNat_natCast] at hsp
    have HSP := A_ hsp
    have HIN := A_ (show i < nN by omega)
    have HS2 := A_ (show sp.rn = s.rn ∧ sp.rg = s.rg ∧ sp.bn = s.bn ∧ sp.bg = s.bg ∧ sp.most = s.most by rw [hsp]; exact ⟨rfl, rfl, rfl, rfl, rfl⟩)
    by_cases h8 : v.f0 = 8
    · have h8b : (v.f0 == 8) = true := by simp [h8]
      have HNR := A_ (show ∀ j, j < ND → resK (p.f5.getD j z89).f0 = false from fun j hj => by
       unfold resV resI at hrv
       rw [HP8.out.2 h8] at hrv
       simp only [decide_true, Bool.true_and] at hrv
       have h := List.any_eq_false.1 hrv _ (getD_mem p.f5 j (by omega) z89)
       simpa using h)
      clear hz hce hp hsp h8 HPE hrv hND hi1 hi2 hlv hg
      go_enter Try.func92, Try.ntmps92
      go_wp2_with fail
      refine Calls.mono (KF.out _ HB3.out) ?_
      rintro e w4 ⟨rfl, hb⟩
      have HB4 := A_ (below_step HB3.out hb)
      replace BX := A_ (blk_below BX.out hb)
      replace BN := A_ (blk_below BN.out hb)
      replace BV := A_ (blk_below BV.out hb)
      replace BZ := A_ (blk_below BZ.out hb)
      clear hb KF
      clear u0 u1 u2 u3 u4 u5 u6 z0 z1 v0 v1 v2 v3 v4 v5
      obtain ⟨u0, u1, u2, u3, u4, u5, u6⟩ := box7 BX.out
      obtain ⟨z0, z1⟩ := box2 BN.out
      obtain ⟨v0, v1, v2, v3, v4, v5⟩ := box35 BV.out
      have hlx := blk_lt BX.out
      have hln := blk_lt BN.out
      have hlv := blk_lt BV.out
      go_wp2_with fail
      refine Calls.mono (KC.out w4 HB4.out) ?_
      rintro e w5 ⟨rfl, hb⟩
      have HB5 := A_ (below_step HB4.out hb)
      replace BX := A_ (blk_below BX.out hb)
      replace BN := A_ (blk_below BN.out hb)
      replace BV := A_ (blk_below BV.out hb)
      replace BZ := A_ (blk_below BZ.out hb)
      clear hb KC
      clear u0 u1 u2 u3 u4 u5 u6 z0 z1 v0 v1 v2 v3 v4 v5 hlx hln hlv
      obtain ⟨u0, u1, u2, u3, u4, u5, u6⟩ := box7 BX.out
      obtain ⟨z0, z1⟩ := box2 BN.out
      obtain ⟨v0, v1, v2, v3, v4, v5⟩ := box35 BV.out
      have hlx := blk_lt BX.out
      have hln := blk_lt BN.out
      have hlv := blk_lt BV.out
      go_wp2_with fail
      refine Calls.mono (KP.out w5 HB5.out) ?_
      rintro e w6 ⟨a4, n4, a5, n5, rfl, hpv, hb0⟩
      rw [← HND.out]
      have hb := below_step hb0 (below_alloc (RowKit.Below.refl _ w6) (.cells #[.int .i64 p.f0, .int .i64 p.f1, .int .i64 p.f2, .string p.f3, .slice a4 p.f4.length n4, .slice a5 ND n5] 35))
      have HB6 := A_ (below_step HB5.out hb)
      have BP := A_ (blk_new w6 (.cells #[.int .i64 p.f0, .int .i64 p.f1, .int .i64 p.f2, .string p.f3, .slice a4 p.f4.length n4, .slice a5 ND n5] 35))
      have HPV := A_ (FT.keep (B := 0) (y := ⟨⟨g, true, p⟩, a4, n4, a5, n5⟩) hpv (KeepU.of_below (Nat.zero_le _) (below_alloc (RowKit.Below.refl _ w6) (.cells #[.int .i64 p.f0, .int .i64 p.f1, .int .i64 p.f2, .string p.f3, .slice a4 p.f4.length n4, .slice a5 ND n5] 35))))
      replace BX := A_ (blk_below BX.out hb)
      replace BN := A_ (blk_below BN.out hb)
      replace BV := A_ (blk_below BV.out hb)
      replace BZ := A_ (blk_below BZ.out hb)
      clear hb hb0 hpv KP
      have hszp : w6.heap.size < (w6.alloc (.cells #[.int .i64 p.f0, .int .i64 p.f1, .int .i64 p.f2, .string p.f3, .slice a4 p.f4.length n4, .slice a5 ND n5] 35)).heap.size := by simp
      clear u0 u1 u2 u3 u4 u5 u6 z0 z1 v0 v1 v2 v3 v4 v5 hlx hln hlv
      obtain ⟨u0, u1, u2, u3, u4, u5, u6⟩ := box7 BX.out
      obtain ⟨z0, z1⟩ := box2 BN.out
      obtain ⟨v0, v1, v2, v3, v4, v5⟩ := box35 BV.out
      have hlx := blk_lt BX.out
      have hln := blk_lt BN.out
      have hlv := blk_lt BV.out
      go_upto_block 0 with fail
      generalize hw7 : w6.alloc (.cells #[.int .i64 p.f0, .int .i64 p.f1, .int .i64 p.f2, .string p.f3, .slice a4 p.f4.length n4, .slice a5 ND n5] 35) = w7 at *
      generalize hbp : w6.heap.size = bp at *
      clear hw7 hbp u0 u1 u2 u3 u4 u5 u6 z0 z1 v0 v1 v2 v3 v4 v5 hlx hln hlv
      have HW7 := A_ (RowKit.Below.refl w7.heap.size w7)
      go_wp2
      go_loopw [11] (fun i_ wr => ∃ k : Nat, k ≤ ND ∧ i_ = .int .i64 k ∧ Aside0 (RowKit.Below w7.heap.size w7 wr)) (fun i_ _ => ND - (intOf i_).toNat)
      case atStart => exact ⟨0, Nat.zero_le _, rfl, HW7⟩
      case round =>
       clear HW7
       obtain ⟨k, hk, rfl, HBW⟩ := hrel
       replace BP := A_ (blk_below BP.out HBW.out)
       obtain ⟨q0, q1, q2, q3, q4, q5⟩ := box35 BP.out
       have hlp := blk_lt BP.out
       by_cases hlt : k < ND
       · obtain ⟨ad, Q4, q4', Q5, q5', hA, y0, -⟩ := at_T89 (Kd.C_below (FV.has HPV.out).2.2.2 HBW.out) (k : Int) (by omega) (by have := HND.out; show (k : Int) < (p.f5.length : Int); omega)
         have hA' : a5 = some ad := hA
         subst hA'
         have y0' : wr.cell? (ad.add (k * 7)) = some (.string (p.f5.getD k z89).f0) := by simpa [rd_T89] using y0
         have BVW := blk_below BV.out HBW.out
         obtain ⟨v0, v1, v2, v3, v4, v5⟩ := box35 BVW
         have hlv := blk_lt BVW
         have hwk : wrap64 ((k : Int) + 1) = (k : Int) + 1 := by have := HNM.out; unfold wrap64; omega
         have HWK := A_ hwk
         have hNm : ND ≤ 9223372036854775807 := by have := HNM.out; omega
         have KR := A_ (res141 (p.f5.getD k z89).f0 wr)
         obtain ⟨key, hkey⟩ : ∃ key, key = (p.f5.getD k z89).f0 := ⟨_, rfl⟩
         rw [← hkey] at y0' KR
         obtain ⟨rk, hrk⟩ : ∃ rk, rk = resK key := ⟨_, rfl⟩
         rw [← hrk] at KR
         have HKR := A_ (hrk.trans (by rw [hkey]))
         clear y0 hwk hkey hrk hA BVW
         go_wp2_with fail
         refine Calls.mono KR.out ?_
         rintro e w8 ⟨rfl, rfl⟩
         clear KR
         cases rk
         case false =>
          go_wp2
          exact ⟨⟨k + 1, by omega, by first | (rw [HWK.out]; simp; done) | (simp; done), HBW⟩, by first | (rw [HWK.out]; simp [intOf]; omega) | (simp [intOf]; omega)⟩
         case true =>
          exact absurd HKR.out.symm (by rw [HNR.out k hlt]; simp)
       · obtain rfl : ND = k := by omega
         have HBr := A_ (below_step HB6.out HBW.out)
         replace BX := A_ (blk_below BX.out HBW.out)
         replace BN := A_ (blk_below BN.out HBW.out)
         replace BZ := A_ (blk_below BZ.out HBW.out)
         have HPR := A_ (FT.keep (B := 0) HPV.out (KeepU.of_below (Nat.zero_le _) HBW.out))
         obtain ⟨u0, u1, u2, u3, u4, u5, u6⟩ := box7 BX.out
         obtain ⟨z0, z1⟩ := box2 BN.out
         have hlx := blk_lt BX.out
         have hln := blk_lt BN.out
         have KW := A_ (ref_with b ⟨gN, cN, rsN, gB, cB, rsB⟩ s i ⟨⟨g, true, p⟩, a4, n4, a5, n5⟩ wr (H0.out.below HBr.out) (fun k hk => h0 k (Nat.le_trans HBr.out.size hk)) (by show rsN.length ≤ 90000; rw [← HNN.out.1]; exact h9) (by show i < rsN.length; rw [← HNN.out.1]; exact HIN.out) HPR.out)
         simp only [RL.cells] at KW
         rw [← HNN.out.1, ← HNN.out.2, ← HSP.out, ← HND.out] at KW
         go_wp2_with fail
         refine Calls.mono KW.out ?_
         rintro e w9 ⟨R2, rfl, hR2, hb⟩
         have HB9 := A_ (below_step HBr.out hb)
         replace BZ := A_ (blk_below BZ.out hb)
         have HR2 := A_ hR2
         obtain ⟨m1, hm1⟩ : ∃ m1, m1 = R2.rsN.length := ⟨_, rfl⟩
         obtain ⟨m2, hm2⟩ : ∃ m2, m2 = R2.rsB.length := ⟨_, rfl⟩
         have HM := A_ (And.intro hm1 hm2)
         rw [← hm1, ← hm2]
         clear hb KW hR2 hm1 hm2 u0 u1 u2 u3 u4 u5 u6 z0 z1 hlx hln
         obtain ⟨t0, t1, t2, t3, t4, t5, t6⟩ := box7 BZ.out
         obtain ⟨fq0, fq1, fq2, fq3, fq4, fq5, fq6⟩ := frz7 BZ.out
         have hzl := blk_lt BZ.out
         have HBF := A_ (show RowKit.Below w.heap.size w (w9.setCells (w.heap.size + 1 + 1 + 1) 0 [.slice (some ⟨R2.gN, 0, none⟩) m1 R2.cN, .int .i64 s.rn, .int .i64 s.rg, .slice (some ⟨R2.gB, 0, none⟩) m2 R2.cB, .int .i64 s.bn, .int .i64 s.bg, .int .i64 s.most]) from HB9.out.trans (below_setcells (b := w.heap.size) (g := w.heap.size + 1 + 1 + 1) (by omega) 0 _))
         have HRF := A_ (HR2.out.box BZ.out (by decide) (by decide) 0 [.slice (some ⟨R2.gN, 0, none⟩) m1 R2.cN, .int .i64 s.rn, .int .i64 s.rg, .slice (some ⟨R2.gB, 0, none⟩) m2 R2.cB, .int .i64 s.bn, .int .i64 s.bg, .int .i64 s.most])
         have e6 := set_same7 (.slice (some ⟨R2.gN, 0, none⟩) m1 R2.cN) (.int .i64 s.rn) (.int .i64 s.rg) (.slice (some ⟨R2.gB, 0, none⟩) m2 R2.cB) (.int .i64 s.bn) (.int .i64 s.bg) (.int .i64 s.most) BZ.out
         have E6 := A_ e6
         clear e6
         go_wp2
         refine ret_named (w9.setCells (w.heap.size + 1 + 1 + 1) 0 [.slice (some ⟨R2.gN, 0, none⟩) m1 R2.cN, .int .i64 s.rn, .int .i64 s.rg, .slice (some ⟨R2.gB, 0, none⟩) m2 R2.cB, .int .i64 s.bn, .int .i64 s.bg, .int .i64 s.most]) rfl (fun Wf hWf => ?_)
         obtain ⟨r0, r1, r2, r3, r4, r5, r6⟩ := box7 (show Wf.heap[w.heap.size + 1 + 1 + 1]? = some (.cells #[.slice (some ⟨R2.gN, 0, none⟩) m1 R2.cN, .int .i64 s.rn, .int .i64 s.rg, .slice (some ⟨R2.gB, 0, none⟩) m2 R2.cB, .int .i64 s.bn, .int .i64 s.bg, .int .i64 s.most] 51 (0, 0)) from by rw [hWf]; exact E6.out)
         refine bodyPost_ret (v := .tuple #[.agg #[.slice (some ⟨R2.gN, 0, none⟩) m1 R2.cN, .int .i64 s.rn, .int .i64 s.rg, .slice (some ⟨R2.gB, 0, none⟩) m2 R2.cB, .int .i64 s.bn, .int .i64 s.bg, .int .i64 s.most], .int .i64 0]) (by simp [results, Try.results92, go_sem, r0, r1, r2, r3, r4, r5, r6]) rfl ?_
         have HC : RowKit.Below w.heap.size w Wf := by rw [hWf]; exact HBF.out
         have HA : RefIs b R2 sp Wf := by rw [hWf]; exact HRF.out
         refine ⟨R2, ?_, HA, HC⟩
         rw [HM.out.1, HM.out.2, HS2.out.1, HS2.out.2.1, HS2.out.2.2.1, HS2.out.2.2.2.1, HS2.out.2.2.2.2]
    · have h8b : (v.f0 == 8) = false := by simpa using h8
      clear hz hce hp hsp h8 HPE hrv hND hi1 hi2 hlv hg
      go_enter Try.func92, Try.ntmps92
      go_wp2_with fail
      refine Calls.mono (KF.out _ HB3.out) ?_
      rintro e w4 ⟨rfl, hb⟩
      have HB4 := A_ (below_step HB3.out hb)
      replace BX := A_ (blk_below BX.out hb)
      replace BN := A_ (blk_below BN.out hb)
      replace BV := A_ (blk_below BV.out hb)
      replace BZ := A_ (blk_below BZ.out hb)
      clear hb KF
      clear u0 u1 u2 u3 u4 u5 u6 z0 z1 v0 v1 v2 v3 v4 v5
      obtain ⟨u0, u1, u2, u3, u4, u5, u6⟩ := box7 BX.out
      obtain ⟨z0, z1⟩ := box2 BN.out
      obtain ⟨v0, v1, v2, v3, v4, v5⟩ := box35 BV.out
      have hlx := blk_lt BX.out
      have hln := blk_lt BN.out
      have hlv := blk_lt BV.out
      go_wp2_with fail
      refine Calls.mono (KC.out w4 HB4.out) ?_
      rintro e w5 ⟨rfl, hb⟩
      have HB5 := A_ (below_step HB4.out hb)
      replace BX := A_ (blk_below BX.out hb)
      replace BN := A_ (blk_below BN.out hb)
      replace BV := A_ (blk_below BV.out hb)
      replace BZ := A_ (blk_below BZ.out hb)
      clear hb KC
      clear u0 u1 u2 u3 u4 u5 u6 z0 z1 v0 v1 v2 v3 v4 v5 hlx hln hlv
      obtain ⟨u0, u1, u2, u3, u4, u5, u6⟩ := box7 BX.out
      obtain ⟨z0, z1⟩ := box2 BN.out
      obtain ⟨v0, v1, v2, v3, v4, v5⟩ := box35 BV.out
      have hlx := blk_lt BX.out
      have hln := blk_lt BN.out
      have hlv := blk_lt BV.out
      go_wp2_with fail
      refine Calls.mono (KP.out w5 HB5.out) ?_
      rintro e w6 ⟨a4, n4, a5, n5, rfl, hpv, hb0⟩
      rw [← HND.out]
      have hb := below_step hb0 (below_alloc (RowKit.Below.refl _ w6) (.cells #[.int .i64 p.f0, .int .i64 p.f1, .int .i64 p.f2, .string p.f3, .slice a4 p.f4.length n4, .slice a5 ND n5] 35))
      have HB6 := A_ (below_step HB5.out hb)
      have BP := A_ (blk_new w6 (.cells #[.int .i64 p.f0, .int .i64 p.f1, .int .i64 p.f2, .string p.f3, .slice a4 p.f4.length n4, .slice a5 ND n5] 35))
      have HPV := A_ (FT.keep (B := 0) (y := ⟨⟨g, true, p⟩, a4, n4, a5, n5⟩) hpv (KeepU.of_below (Nat.zero_le _) (below_alloc (RowKit.Below.refl _ w6) (.cells #[.int .i64 p.f0, .int .i64 p.f1, .int .i64 p.f2, .string p.f3, .slice a4 p.f4.length n4, .slice a5 ND n5] 35))))
      replace BX := A_ (blk_below BX.out hb)
      replace BN := A_ (blk_below BN.out hb)
      replace BV := A_ (blk_below BV.out hb)
      replace BZ := A_ (blk_below BZ.out hb)
      clear hb hb0 hpv KP
      have hszp : w6.heap.size < (w6.alloc (.cells #[.int .i64 p.f0, .int .i64 p.f1, .int .i64 p.f2, .string p.f3, .slice a4 p.f4.length n4, .slice a5 ND n5] 35)).heap.size := by simp
      clear u0 u1 u2 u3 u4 u5 u6 z0 z1 v0 v1 v2 v3 v4 v5 hlx hln hlv
      obtain ⟨u0, u1, u2, u3, u4, u5, u6⟩ := box7 BX.out
      obtain ⟨z0, z1⟩ := box2 BN.out
      obtain ⟨v0, v1, v2, v3, v4, v5⟩ := box35 BV.out
      have hlx := blk_lt BX.out
      have hln := blk_lt BN.out
      have hlv := blk_lt BV.out
      go_upto_block 0 with fail
      generalize hw7 : w6.alloc (.cells #[.int .i64 p.f0, .int .i64 p.f1, .int .i64 p.f2, .string p.f3, .slice a4 p.f4.length n4, .slice a5 ND n5] 35) = w7 at *
      generalize hbp : w6.heap.size = bp at *
      clear hw7 hbp u0 u1 u2 u3 u4 u5 u6 z0 z1 v0 v1 v2 v3 v4 v5 hlx hln hlv
      have HW7 := A_ (RowKit.Below.refl w7.heap.size w7)
      go_wp2
      go_loopw [11] (fun i_ wr => ∃ k : Nat, k ≤ ND ∧ i_ = .int .i64 k ∧ Aside0 (RowKit.Below w7.heap.size w7 wr)) (fun i_ _ => ND - (intOf i_).toNat)
      case atStart => exact ⟨0, Nat.zero_le _, rfl, HW7⟩
      case round =>
       clear HW7
       obtain ⟨k, hk, rfl, HBW⟩ := hrel
       replace BP := A_ (blk_below BP.out HBW.out)
       obtain ⟨q0, q1, q2, q3, q4, q5⟩ := box35 BP.out
       have hlp := blk_lt BP.out
       by_cases hlt : k < ND
       · obtain ⟨ad, Q4, q4', Q5, q5', hA, y0, -⟩ := at_T89 (Kd.C_below (FV.has HPV.out).2.2.2 HBW.out) (k : Int) (by omega) (by have := HND.out; show (k : Int) < (p.f5.length : Int); omega)
         have hA' : a5 = some ad := hA
         subst hA'
         have y0' : wr.cell? (ad.add (k * 7)) = some (.string (p.f5.getD k z89).f0) := by simpa [rd_T89] using y0
         have BVW := blk_below BV.out HBW.out
         obtain ⟨v0, v1, v2, v3, v4, v5⟩ := box35 BVW
         have hlv := blk_lt BVW
         have hwk : wrap64 ((k : Int) + 1) = (k : Int) + 1 := by have := HNM.out; unfold wrap64; omega
         have HWK := A_ hwk
         have hNm : ND ≤ 9223372036854775807 := by have := HNM.out; omega
         have KR := A_ (res141 (p.f5.getD k z89).f0 wr)
         obtain ⟨key, hkey⟩ : ∃ key, key = (p.f5.getD k z89).f0 := ⟨_, rfl⟩
         rw [← hkey] at y0' KR
         obtain ⟨rk, hrk⟩ : ∃ rk, rk = resK key := ⟨_, rfl⟩
         rw [← hrk] at KR
         have HKR := A_ (hrk.trans (by rw [hkey]))
         clear y0 hwk hkey hrk hA BVW
         go_wp2
         exact ⟨⟨k + 1, by omega, by first | (rw [HWK.out]; simp; done) | (simp; done), HBW⟩, by first | (rw [HWK.out]; simp [intOf]; omega) | (simp [intOf]; omega)⟩
       · obtain rfl : ND = k := by omega
         have HBr := A_ (below_step HB6.out HBW.out)
         replace BX := A_ (blk_below BX.out HBW.out)
         replace BN := A_ (blk_below BN.out HBW.out)
         replace BZ := A_ (blk_below BZ.out HBW.out)
         have HPR := A_ (FT.keep (B := 0) HPV.out (KeepU.of_below (Nat.zero_le _) HBW.out))
         obtain ⟨u0, u1, u2, u3, u4, u5, u6⟩ := box7 BX.out
         obtain ⟨z0, z1⟩ := box2 BN.out
         have hlx := blk_lt BX.out
         have hln := blk_lt BN.out
         have KW := A_ (ref_with b ⟨gN, cN, rsN, gB, cB, rsB⟩ s i ⟨⟨g, true, p⟩, a4, n4, a5, n5⟩ wr (H0.out.below HBr.out) (fun k hk => h0 k (Nat.le_trans HBr.out.size hk)) (by show rsN.length ≤ 90000; rw [← HNN.out.1]; exact h9) (by show i < rsN.length; rw [← HNN.out.1]; exact HIN.out) HPR.out)
         simp only [RL.cells] at KW
         rw [← HNN.out.1, ← HNN.out.2, ← HSP.out, ← HND.out] at KW
         go_wp2_with fail
         refine Calls.mono KW.out ?_
         rintro e w9 ⟨R2, rfl, hR2, hb⟩
         have HB9 := A_ (below_step HBr.out hb)
         replace BZ := A_ (blk_below BZ.out hb)
         have HR2 := A_ hR2
         obtain ⟨m1, hm1⟩ : ∃ m1, m1 = R2.rsN.length := ⟨_, rfl⟩
         obtain ⟨m2, hm2⟩ : ∃ m2, m2 = R2.rsB.length := ⟨_, rfl⟩
         have HM := A_ (And.intro hm1 hm2)
         rw [← hm1, ← hm2]
         clear hb KW hR2 hm1 hm2 u0 u1 u2 u3 u4 u5 u6 z0 z1 hlx hln
         obtain ⟨t0, t1, t2, t3, t4, t5, t6⟩ := box7 BZ.out
         obtain ⟨fq0, fq1, fq2, fq3, fq4, fq5, fq6⟩ := frz7 BZ.out
         have hzl := blk_lt BZ.out
         have HBF := A_ (show RowKit.Below w.heap.size w (w9.setCells (w.heap.size + 1 + 1 + 1) 0 [.slice (some ⟨R2.gN, 0, none⟩) m1 R2.cN, .int .i64 s.rn, .int .i64 s.rg, .slice (some ⟨R2.gB, 0, none⟩) m2 R2.cB, .int .i64 s.bn, .int .i64 s.bg, .int .i64 s.most]) from HB9.out.trans (below_setcells (b := w.heap.size) (g := w.heap.size + 1 + 1 + 1) (by omega) 0 _))
         have HRF := A_ (HR2.out.box BZ.out (by decide) (by decide) 0 [.slice (some ⟨R2.gN, 0, none⟩) m1 R2.cN, .int .i64 s.rn, .int .i64 s.rg, .slice (some ⟨R2.gB, 0, none⟩) m2 R2.cB, .int .i64 s.bn, .int .i64 s.bg, .int .i64 s.most])
         have e6 := set_same7 (.slice (some ⟨R2.gN, 0, none⟩) m1 R2.cN) (.int .i64 s.rn) (.int .i64 s.rg) (.slice (some ⟨R2.gB, 0, none⟩) m2 R2.cB) (.int .i64 s.bn) (.int .i64 s.bg) (.int .i64 s.most) BZ.out
         have E6 := A_ e6
         clear e6
         go_wp2
         refine ret_named (w9.setCells (w.heap.size + 1 + 1 + 1) 0 [.slice (some ⟨R2.gN, 0, none⟩) m1 R2.cN, .int .i64 s.rn, .int .i64 s.rg, .slice (some ⟨R2.gB, 0, none⟩) m2 R2.cB, .int .i64 s.bn, .int .i64 s.bg, .int .i64 s.most]) rfl (fun Wf hWf => ?_)
         obtain ⟨r0, r1, r2, r3, r4, r5, r6⟩ := box7 (show Wf.heap[w.heap.size + 1 + 1 + 1]? = some (.cells #[.slice (some ⟨R2.gN, 0, none⟩) m1 R2.cN, .int .i64 s.rn, .int .i64 s.rg, .slice (some ⟨R2.gB, 0, none⟩) m2 R2.cB, .int .i64 s.bn, .int .i64 s.bg, .int .i64 s.most] 51 (0, 0)) from by rw [hWf]; exact E6.out)
         refine bodyPost_ret (v := .tuple #[.agg #[.slice (some ⟨R2.gN, 0, none⟩) m1 R2.cN, .int .i64 s.rn, .int .i64 s.rg, .slice (some ⟨R2.gB, 0, none⟩) m2 R2.cB, .int .i64 s.bn, .int .i64 s.bg, .int .i64 s.most], .int .i64 0]) (by simp [results, Try.results92, go_sem, r0, r1, r2, r3, r4, r5, r6]) rfl ?_
         have HC : RowKit.Below w.heap.size w Wf := by rw [hWf]; exact HBF.out
         have HA : RefIs b R2 sp Wf := by rw [hWf]; exact HRF.out
         refine ⟨R2, ?_, HA, HC⟩
         rw [HM.out.1, HM.out.2, HS2.out.1, HS2.out.2.1, HS2.out.2.2.1, HS2.out.2.2.2.1, HS2.out.2.2.2.2]
noncomputable def plainX (x : S69) (live : Bool) : S69 := if x.f1 = true ∧ live = true then ⟨x.f0, true, plain x.f2⟩ else ⟨x.f0, false, z35⟩
set_option maxHeartbeats 2000000 in
set_option maxRecDepth 100000 in
theorem ref_plain (x : S69) (live : Bool) (A4 : Option Addr) (c4 : Nat) (A5 : Option Addr) (c5 : Nat) (w : World) (hv : HasV x.f2 A4 c4 A5 c5 w) (hf : fewV x.f2) : Calls Try.prog 90 #[.agg #[.int .i64 x.f0, .bool x.f1, .int .i64 x.f2.f0, .int .i64 x.f2.f1, .int .i64 x.f2.f2, .string x.f2.f3, .slice A4 x.f2.f4.length c4, .slice A5 x.f2.f5.length c5], .bool live] w fun e w' => ∃ y : RS, e = .returned (.agg (encS y).toArray) ∧ y.x = plainX x live ∧ FT y w' ∧ RowKit.Below w.heap.size w w' := by
 have hu35 := Try.underlying35
 have hu69 := Try.underlying69
 have HB2 := A_ (below_alloc (below_alloc (RowKit.Below.refl w.heap.size w) (.cells #[.int .i64 x.f0, .bool x.f1, .int .i64 x.f2.f0, .int .i64 x.f2.f1, .int .i64 x.f2.f2, .string x.f2.f3, .slice A4 x.f2.f4.length c4, .slice A5 x.f2.f5.length c5] 69)) (.cells #[.int .i64 0, .bool false, .int .i64 0, .int .i64 0, .int .i64 0, .string ⟨#[]⟩, .slice none 0 0, .slice none 0 0] 69))
 have BX := A_ (blk_alloc (blk_new w (.cells #[.int .i64 x.f0, .bool x.f1, .int .i64 x.f2.f0, .int .i64 x.f2.f1, .int .i64 x.f2.f2, .string x.f2.f3, .slice A4 x.f2.f4.length c4, .slice A5 x.f2.f5.length c5] 69)) (.cells #[.int .i64 0, .bool false, .int .i64 0, .int .i64 0, .int .i64 0, .string ⟨#[]⟩, .slice none 0 0, .slice none 0 0] 69))
 have BZ := A_ (blk_new (w.alloc (.cells #[.int .i64 x.f0, .bool x.f1, .int .i64 x.f2.f0, .int .i64 x.f2.f1, .int .i64 x.f2.f2, .string x.f2.f3, .slice A4 x.f2.f4.length c4, .slice A5 x.f2.f5.length c5] 69)) (.cells #[.int .i64 0, .bool false, .int .i64 0, .int .i64 0, .int .i64 0, .string ⟨#[]⟩, .slice none 0 0, .slice none 0 0] 69))
 have KP := A_ (fun (W : World) (hb : RowKit.Below w.heap.size w W) => plain_typed60 x.f2 A4 c4 A5 c5 W hf (hv.below hb))
 simp only [World.size_alloc] at BZ
 clear hv hf
 obtain ⟨px, hpx⟩ : ∃ px, px = plainX x live := ⟨_, rfl⟩
 rw [← hpx]
 have HPX := A_ hpx
 clear hpx
 have dead : ¬ (x.f1 = true ∧ live = true) → px = ⟨x.f0, false, z35⟩ := fun h => HPX.out.trans (by unfold plainX; rw [if_neg h])
 obtain ⟨u0, u1, u2, u3, u4, u5, u6, u7⟩ := box8 BX.out
 have hs2 : ((w.alloc (.cells #[.int .i64 x.f0, .bool x.f1, .int .i64 x.f2.f0, .int .i64 x.f2.f1, .int .i64 x.f2.f2, .string x.f2.f3, .slice A4 x.f2.f4.length c4, .slice A5 x.f2.f5.length c5] 69)).alloc (.cells #[.int .i64 0, .bool false, .int .i64 0, .int .i64 0, .int .i64 0, .string ⟨#[]⟩, .slice none 0 0, .slice none 0 0] 69)).heap.size = w.heap.size + 2 := by simp
 cases hl : x.f1
 case false =>
  have hpd := A_ (dead (by rw [hl]; simp))
  rw [hl] at u1
  clear dead
  go_enter Try.func90, Try.ntmps90
  go_wp2
  have BR := blk_new (w.alloc (.cells #[.int .i64 x.f0, .bool false, .int .i64 x.f2.f0, .int .i64 x.f2.f1, .int .i64 x.f2.f2, .string x.f2.f3, .slice A4 x.f2.f4.length c4, .slice A5 x.f2.f5.length c5] 69)) (.cells #[.int .i64 x.f0, .bool false, .int .i64 0, .int .i64 0, .int .i64 0, .string ⟨#[]⟩, .slice none 0 0, .slice none 0 0] 69)
  simp only [World.size_alloc] at BR
  obtain ⟨r0, r1, r2, r3, r4, r5, r6, r7⟩ := box8 BR
  refine bodyPost_ret (v := .agg #[.int .i64 x.f0, .bool false, .int .i64 0, .int .i64 0, .int .i64 0, .string ⟨#[]⟩, .slice none 0 0, .slice none 0 0]) (by
   have r0' : ((w.alloc (.cells #[.int .i64 x.f0, .bool false, .int .i64 x.f2.f0, .int .i64 x.f2.f1, .int .i64 x.f2.f2, .string x.f2.f3, .slice A4 x.f2.f4.length c4, .slice A5 x.f2.f5.length c5] 69)).alloc (.cells #[.int .i64 x.f0, .bool false, .int .i64 0, .int .i64 0, .int .i64 0, .string ⟨#[]⟩, .slice none 0 0, .slice none 0 0] 69)).cell? ⟨w.heap.size + 1, 0, none⟩ = some (.int .i64 x.f0) := r0
   have r1' : ((w.alloc (.cells #[.int .i64 x.f0, .bool false, .int .i64 x.f2.f0, .int .i64 x.f2.f1, .int .i64 x.f2.f2, .string x.f2.f3, .slice A4 x.f2.f4.length c4, .slice A5 x.f2.f5.length c5] 69)).alloc (.cells #[.int .i64 x.f0, .bool false, .int .i64 0, .int .i64 0, .int .i64 0, .string ⟨#[]⟩, .slice none 0 0, .slice none 0 0] 69)).cell? ⟨w.heap.size + 1, 1, none⟩ = some (.bool false) := r1
   have r2' : ((w.alloc (.cells #[.int .i64 x.f0, .bool false, .int .i64 x.f2.f0, .int .i64 x.f2.f1, .int .i64 x.f2.f2, .string x.f2.f3, .slice A4 x.f2.f4.length c4, .slice A5 x.f2.f5.length c5] 69)).alloc (.cells #[.int .i64 x.f0, .bool false, .int .i64 0, .int .i64 0, .int .i64 0, .string ⟨#[]⟩, .slice none 0 0, .slice none 0 0] 69)).cell? ⟨w.heap.size + 1, 2, none⟩ = some (.int .i64 0) := r2
   have r3' : ((w.alloc (.cells #[.int .i64 x.f0, .bool false, .int .i64 x.f2.f0, .int .i64 x.f2.f1, .int .i64 x.f2.f2, .string x.f2.f3, .slice A4 x.f2.f4.length c4, .slice A5 x.f2.f5.length c5] 69)).alloc (.cells #[.int .i64 x.f0, .bool false, .int .i64 0, .int .i64 0, .int .i64 0, .string ⟨#[]⟩, .slice none 0 0, .slice none 0 0] 69)).cell? ⟨w.heap.size + 1, 3, none⟩ = some (.int .i64 0) := r3
   have r4' : ((w.alloc (.cells #[.int .i64 x.f0, .bool false, .int .i64 x.f2.f0, .int .i64 x.f2.f1, .int .i64 x.f2.f2, .string x.f2.f3, .slice A4 x.f2.f4.length c4, .slice A5 x.f2.f5.length c5] 69)).alloc (.cells #[.int .i64 x.f0, .bool false, .int .i64 0, .int .i64 0, .int .i64 0, .string ⟨#[]⟩, .slice none 0 0, .slice none 0 0] 69)).cell? ⟨w.heap.size + 1, 4, none⟩ = some (.int .i64 0) := r4
   have r5' : ((w.alloc (.cells #[.int .i64 x.f0, .bool false, .int .i64 x.f2.f0, .int .i64 x.f2.f1, .int .i64 x.f2.f2, .string x.f2.f3, .slice A4 x.f2.f4.length c4, .slice A5 x.f2.f5.length c5] 69)).alloc (.cells #[.int .i64 x.f0, .bool false, .int .i64 0, .int .i64 0, .int .i64 0, .string ⟨#[]⟩, .slice none 0 0, .slice none 0 0] 69)).cell? ⟨w.heap.size + 1, 5, none⟩ = some (.string ⟨#[]⟩) := r5
   have r6' : ((w.alloc (.cells #[.int .i64 x.f0, .bool false, .int .i64 x.f2.f0, .int .i64 x.f2.f1, .int .i64 x.f2.f2, .string x.f2.f3, .slice A4 x.f2.f4.length c4, .slice A5 x.f2.f5.length c5] 69)).alloc (.cells #[.int .i64 x.f0, .bool false, .int .i64 0, .int .i64 0, .int .i64 0, .string ⟨#[]⟩, .slice none 0 0, .slice none 0 0] 69)).cell? ⟨w.heap.size + 1, 6, none⟩ = some (.slice none 0 0) := r6
   have r7' : ((w.alloc (.cells #[.int .i64 x.f0, .bool false, .int .i64 x.f2.f0, .int .i64 x.f2.f1, .int .i64 x.f2.f2, .string x.f2.f3, .slice A4 x.f2.f4.length c4, .slice A5 x.f2.f5.length c5] 69)).alloc (.cells #[.int .i64 x.f0, .bool false, .int .i64 0, .int .i64 0, .int .i64 0, .string ⟨#[]⟩, .slice none 0 0, .slice none 0 0] 69)).cell? ⟨w.heap.size + 1, 7, none⟩ = some (.slice none 0 0) := r7
   simp [results, Try.results90, go_sem, r0', r1', r2', r3', r4', r5', r6', r7']) rfl ⟨⟨⟨x.f0, false, z35⟩, none, 0, none, 0⟩, rfl, hpd.out.symm, FV.nil _ _ _ rfl rfl, below_alloc (below_alloc (RowKit.Below.refl _ w) _) _⟩
 case true =>
  rw [hl] at u1
  cases live
  case false =>
   have hpd := A_ (dead (by simp))
   clear dead
   go_enter Try.func90, Try.ntmps90
   go_wp2
   have BR := blk_new (w.alloc (.cells #[.int .i64 x.f0, .bool true, .int .i64 x.f2.f0, .int .i64 x.f2.f1, .int .i64 x.f2.f2, .string x.f2.f3, .slice A4 x.f2.f4.length c4, .slice A5 x.f2.f5.length c5] 69)) (.cells #[.int .i64 x.f0, .bool false, .int .i64 0, .int .i64 0, .int .i64 0, .string ⟨#[]⟩, .slice none 0 0, .slice none 0 0] 69)
   simp only [World.size_alloc] at BR
   obtain ⟨r0, r1, r2, r3, r4, r5, r6, r7⟩ := box8 BR
   refine bodyPost_ret (v := .agg #[.int .i64 x.f0, .bool false, .int .i64 0, .int .i64 0, .int .i64 0, .string ⟨#[]⟩, .slice none 0 0, .slice none 0 0]) (by
    have r0' : ((w.alloc (.cells #[.int .i64 x.f0, .bool true, .int .i64 x.f2.f0, .int .i64 x.f2.f1, .int .i64 x.f2.f2, .string x.f2.f3, .slice A4 x.f2.f4.length c4, .slice A5 x.f2.f5.length c5] 69)).alloc (.cells #[.int .i64 x.f0, .bool false, .int .i64 0, .int .i64 0, .int .i64 0, .string ⟨#[]⟩, .slice none 0 0, .slice none 0 0] 69)).cell? ⟨w.heap.size + 1, 0, none⟩ = some (.int .i64 x.f0) := r0
    have r1' : ((w.alloc (.cells #[.int .i64 x.f0, .bool true, .int .i64 x.f2.f0, .int .i64 x.f2.f1, .int .i64 x.f2.f2, .string x.f2.f3, .slice A4 x.f2.f4.length c4, .slice A5 x.f2.f5.length c5] 69)).alloc (.cells #[.int .i64 x.f0, .bool false, .int .i64 0, .int .i64 0, .int .i64 0, .string ⟨#[]⟩, .slice none 0 0, .slice none 0 0] 69)).cell? ⟨w.heap.size + 1, 1, none⟩ = some (.bool false) := r1
    have r2' : ((w.alloc (.cells #[.int .i64 x.f0, .bool true, .int .i64 x.f2.f0, .int .i64 x.f2.f1, .int .i64 x.f2.f2, .string x.f2.f3, .slice A4 x.f2.f4.length c4, .slice A5 x.f2.f5.length c5] 69)).alloc (.cells #[.int .i64 x.f0, .bool false, .int .i64 0, .int .i64 0, .int .i64 0, .string ⟨#[]⟩, .slice none 0 0, .slice none 0 0] 69)).cell? ⟨w.heap.size + 1, 2, none⟩ = some (.int .i64 0) := r2
    have r3' : ((w.alloc (.cells #[.int .i64 x.f0, .bool true, .int .i64 x.f2.f0, .int .i64 x.f2.f1, .int .i64 x.f2.f2, .string x.f2.f3, .slice A4 x.f2.f4.length c4, .slice A5 x.f2.f5.length c5] 69)).alloc (.cells #[.int .i64 x.f0, .bool false, .int .i64 0, .int .i64 0, .int .i64 0, .string ⟨#[]⟩, .slice none 0 0, .slice none 0 0] 69)).cell? ⟨w.heap.size + 1, 3, none⟩ = some (.int .i64 0) := r3
    have r4' : ((w.alloc (.cells #[.int .i64 x.f0, .bool true, .int .i64 x.f2.f0, .int .i64 x.f2.f1, .int .i64 x.f2.f2, .string x.f2.f3, .slice A4 x.f2.f4.length c4, .slice A5 x.f2.f5.length c5] 69)).alloc (.cells #[.int .i64 x.f0, .bool false, .int .i64 0, .int .i64 0, .int .i64 0, .string ⟨#[]⟩, .slice none 0 0, .slice none 0 0] 69)).cell? ⟨w.heap.size + 1, 4, none⟩ = some (.int .i64 0) := r4
    have r5' : ((w.alloc (.cells #[.int .i64 x.f0, .bool true, .int .i64 x.f2.f0, .int .i64 x.f2.f1, .int .i64 x.f2.f2, .string x.f2.f3, .slice A4 x.f2.f4.length c4, .slice A5 x.f2.f5.length c5] 69)).alloc (.cells #[.int .i64 x.f0, .bool false, .int .i64 0, .int .i64 0, .int .i64 0, .string ⟨#[]⟩, .slice none 0 0, .slice none 0 0] 69)).cell? ⟨w.heap.size + 1, 5, none⟩ = some (.string ⟨#[]⟩) := r5
    have r6' : ((w.alloc (.cells #[.int .i64 x.f0, .bool true, .int .i64 x.f2.f0, .int .i64 x.f2.f1, .int .i64 x.f2.f2, .string x.f2.f3, .slice A4 x.f2.f4.length c4, .slice A5 x.f2.f5.length c5] 69)).alloc (.cells #[.int .i64 x.f0, .bool false, .int .i64 0, .int .i64 0, .int .i64 0, .string ⟨#[]⟩, .slice none 0 0, .slice none 0 0] 69)).cell? ⟨w.heap.size + 1, 6, none⟩ = some (.slice none 0 0) := r6
    have r7' : ((w.alloc (.cells #[.int .i64 x.f0, .bool true, .int .i64 x.f2.f0, .int .i64 x.f2.f1, .int .i64 x.f2.f2, .string x.f2.f3, .slice A4 x.f2.f4.length c4, .slice A5 x.f2.f5.length c5] 69)).alloc (.cells #[.int .i64 x.f0, .bool false, .int .i64 0, .int .i64 0, .int .i64 0, .string ⟨#[]⟩, .slice none 0 0, .slice none 0 0] 69)).cell? ⟨w.heap.size + 1, 7, none⟩ = some (.slice none 0 0) := r7
    simp [results, Try.results90, go_sem, r0', r1', r2', r3', r4', r5', r6', r7']) rfl ⟨⟨⟨x.f0, false, z35⟩, none, 0, none, 0⟩, rfl, hpd.out.symm, FV.nil _ _ _ rfl rfl, below_alloc (below_alloc (RowKit.Below.refl _ w) _) _⟩
  case true =>
   have hpl : px = ⟨x.f0, true, plain x.f2⟩ := HPX.out.trans (by unfold plainX; rw [if_pos ⟨hl, rfl⟩])
   obtain ⟨p, hp⟩ : ∃ p, p = plain x.f2 := ⟨_, rfl⟩
   rw [← hp] at hpl
   simp only [← hp] at KP
   have HPL := A_ hpl
   clear dead hpl hp
   rw [hl] at BX BZ HB2
   go_enter Try.func90, Try.ntmps90
   go_upto_region 3 with fail
   refine start_ (n := 7) (S := (fun w' => w'.cell? ⟨w.heap.size, 0, none⟩ = some (.int .i64 x.f0) ∧ w'.cell? ⟨w.heap.size, 1, none⟩ = some (.bool true) ∧ w'.cell? ⟨w.heap.size, 2, none⟩ = some (.int .i64 x.f2.f0) ∧ w'.cell? ⟨w.heap.size, 3, none⟩ = some (.int .i64 x.f2.f1) ∧ w'.cell? ⟨w.heap.size, 4, none⟩ = some (.int .i64 x.f2.f2) ∧ w'.cell? ⟨w.heap.size, 5, none⟩ = some (.string x.f2.f3) ∧ w'.cell? ⟨w.heap.size, 6, none⟩ = some (.slice A4 x.f2.f4.length c4) ∧ w'.cell? ⟨w.heap.size, 7, none⟩ = some (.slice A5 x.f2.f5.length c5))) (ds := [6]) #[false, false, false, false, false, false, false] (by kernel_rfl) rfl rfl (by refine ⟨?_, ?_, ?_, ?_, ?_, ?_, ?_, ?_⟩ <;> go_simp) (fun hHeld => ?_)
   have HH := A_ hHeld
   clear hHeld
   refine pu_ 0 15 ?_
   refine ta_ 1 16 HH.out ?_
   refine pu_ 2 17 ?_
   refine ta_ 3 18 HH.out ?_
   have hbd := HB2.out.drew
   refine on_ 4 (some 19) (fun K hK => ?_)
   refine cl_ Try.func60 #[.agg #[.int .i64 x.f2.f0, .int .i64 x.f2.f1, .int .i64 x.f2.f2, .string x.f2.f3, .slice A4 x.f2.f4.length c4, .slice A5 x.f2.f5.length c5]] ?_
   refine Calls.mono (KP.out _ hbd) ?_
   rintro e w3 ⟨a4, n4, a5, n5, rfl, hpv, hb_⟩
   refine ⟨_, rfl, ?_⟩
   refine hK.out _ _ ⟨up_ hb_.cell HH.out.1, up_ hb_.cell HH.out.2.1, up_ hb_.cell HH.out.2.2.1, up_ hb_.cell HH.out.2.2.2.1, up_ hb_.cell HH.out.2.2.2.2.1, up_ hb_.cell HH.out.2.2.2.2.2.1, up_ hb_.cell HH.out.2.2.2.2.2.2.1, up_ hb_.cell HH.out.2.2.2.2.2.2.2⟩ (fun hH2 => ?_)
   have HB3 := A_ (below_step hbd hb_)
   have BZ3 := A_ (blk_below (blk_drew BZ.out) hb_)
   have HPV := A_ hpv
   replace HH := A_ hH2
   clear hK K hH2 hb_ hbd KP hpv
   refine nm_ (some 19) ?_
   refine pu_ 5 20 ?_
   refine chain_ [6] _ _ _ _ (⟨_, _, rfl, rfl, rfl⟩) (by kernel_rfl) (by decide) ?_
   clear u0 u1 u2 u3 u4 u5 u6 u7 BX BZ
   obtain ⟨t0, t1, t2, t3, t4, t5, t6, t7⟩ := box8 BZ3.out
   obtain ⟨fq0, fq1, fq2, fq3, fq4, fq5, fq6⟩ := frz7 BZ3.out
   have fq7 := blk_frozen BZ3.out 7
   have hzl := blk_lt BZ3.out
   have HBF := A_ (show RowKit.Below w.heap.size w (w3.setCells (w.heap.size + 1) 0 [.int .i64 x.f0, .bool true, .int .i64 p.f0, .int .i64 p.f1, .int .i64 p.f2, .string p.f3, .slice a4 p.f4.length n4, .slice a5 p.f5.length n5]) from HB3.out.trans (below_setcells (b := w.heap.size) (g := w.heap.size + 1) (by omega) 0 _))
   have HVF := A_ (FT.keep (B := 0) (y := ⟨⟨x.f0, true, p⟩, a4, n4, a5, n5⟩) HPV.out (keepU_other BZ3.out (by decide) 0 [.int .i64 x.f0, .bool true, .int .i64 p.f0, .int .i64 p.f1, .int .i64 p.f2, .string p.f3, .slice a4 p.f4.length n4, .slice a5 p.f5.length n5]))
   have e7 := set_same8 (.int .i64 x.f0) (.bool true) (.int .i64 p.f0) (.int .i64 p.f1) (.int .i64 p.f2) (.string p.f3) (.slice a4 p.f4.length n4) (.slice a5 p.f5.length n5) BZ3.out
   have E6 := A_ e7
   clear e7
   go_wp2
   refine ret_named (w3.setCells (w.heap.size + 1) 0 [.int .i64 x.f0, .bool true, .int .i64 p.f0, .int .i64 p.f1, .int .i64 p.f2, .string p.f3, .slice a4 p.f4.length n4, .slice a5 p.f5.length n5]) rfl (fun Wf hWf => ?_)
   obtain ⟨r0, r1, r2, r3, r4, r5, r6, r7⟩ := box8 (show Wf.heap[w.heap.size + 1]? = some (.cells #[.int .i64 x.f0, .bool true, .int .i64 p.f0, .int .i64 p.f1, .int .i64 p.f2, .string p.f3, .slice a4 p.f4.length n4, .slice a5 p.f5.length n5] 69 (0, 0)) from by rw [hWf]; exact E6.out)
   refine bodyPost_ret (v := .agg #[.int .i64 x.f0, .bool true, .int .i64 p.f0, .int .i64 p.f1, .int .i64 p.f2, .string p.f3, .slice a4 p.f4.length n4, .slice a5 p.f5.length n5]) (by simp [results, Try.results90, go_sem, r0, r1, r2, r3, r4, r5, r6, r7]) rfl ?_
   subst hWf
   exact ⟨⟨⟨x.f0, true, p⟩, a4, n4, a5, n5⟩, rfl, HPL.out.symm, HVF.out, HBF.out⟩
def scT : Bool × List (List Nat × List Nat) := (true, [([], []), ([], []), ([0, 1], [0, 1]), ([2], [2]), ([3], [3]), ([], []), ([], []), ([5, 6], [5, 6]), ([7], [7]), ([8], [8]), ([4, 9], [4, 9]), ([10], [10]), ([11], [11]), ([11], [11]), ([12, 13, 11], [11, 12, 13]), ([14, 11], [11, 14]), ([15, 11], [11, 15]), ([11], [11]), ([11], [11]), ([17, 18, 11], [11, 17, 18]), ([19, 11], [11, 19]), ([20, 11], [11, 20]), ([16, 21, 11], [11, 16, 21]), ([11, 22], [11, 22]), ([23, 11], [23]), ([24], [24]), ([24], [24]), ([25, 26, 24], [24, 25, 26]), ([27, 24], [24, 27]), ([28, 24], [24, 28]), ([24], [24]), ([24], [24]), ([30, 31, 24], [24, 30, 31]), ([32, 24], [24, 32]), ([33, 24], [24, 33]), ([29, 34, 24], [24, 29, 34]), ([24, 35], [24, 35]), ([36, 24], [36]), ([37], [37]), ([37], [37]), ([38, 39, 37], [37, 38, 39]), ([40, 37], [37, 40]), ([41, 37], [37, 41]), ([37], [37]), ([37], [37]), ([43, 44, 37], [37, 43, 44]), ([45, 37], [37, 45]), ([46, 37], [37, 46]), ([42, 47, 37, 37], [37, 42, 47]), ([48, 37], [37, 48]), ([37, 49], [37, 49])])
def scB : List Nat := [0, 0, 3, 7, 15, 0, 0, 96, 224, 480, 1023, 2047, 4095, 4095, 16383, 32767, 65535, 4095, 4095, 397311, 921599, 1970175, 4194303, 8388607, 16777215, 33554431, 33554431, 134217727, 268435455, 536870911, 33554431, 33554431, 3254779903, 7549747199, 16139681791, 34359738367, 68719476735, 137438953471, 274877906943, 274877906943, 1099511627775, 2199023255551, 4398046511103, 274877906943, 274877906943, 26663156973567, 61847529062399, 132216273240063, 281474976710655, 562949953421311, 1125899906842623]
theorem sctab : rtab .any (opsOf Try.f32 6) = scT := by kernel_rfl
theorem scbits : waitsOk scT.2 scB = true := by kernel_rfl
set_option maxHeartbeats 8000000 in
set_option maxRecDepth 100000 in
theorem same_changes (l : List S67) (A0 : Option Addr) (c0 : Nat) (A1 : Option Addr) (c1 : Nat) (w : World) (hr0 : k67.C w A0 l.length l) (hr1 : k67.C w A1 l.length l) (hl9 : l.length ≤ 90000) :
 Calls Try.prog 32 #[.slice A0 l.length c0, .slice A1 l.length c1] w fun e w' => e = .returned (.bool true) ∧ RowKit.Below w.heap.size w w' := by
 have hu67 := Try.underlying67
 have hu60 := Try.underlying60
 have hu35 := Try.underlying35
 have H0 := A_ hr0
 have H1 := A_ hr1
 obtain ⟨N, hN⟩ : ∃ N, N = l.length := ⟨_, rfl⟩
 rw [← hN]
 have HN := A_ hN
 have HL := A_ (show N ≤ 90000 by omega)
 clear hr0 hr1 hN hl9
 go_enter Try.func32, Try.ntmps32
 go_wp2
 go_loopw [5] (fun i wr => ∃ k : Nat, k ≤ N ∧ i = .int .i64 k ∧ Aside0 (RowKit.Below w.heap.size w wr)) (fun i _ => N - (intOf i).toNat)
 case atStart => exact ⟨0, Nat.zero_le _, rfl, ⟨RowKit.Below.refl _ _⟩⟩
 case round =>
  obtain ⟨k, hk, rfl, HB⟩ := hrel
  by_cases hlt : k < N
  · obtain ⟨ad0, P4, p4, P5, p5, hA0, x0, x1, x2, x3, x4, x5, x6, x7, x8, lp4, gp4, lp5, gp5⟩ := at_T67 (Kd.C_below H0.out HB.out) (k : Int) (by omega) (by have := HN.out; omega)
    obtain ⟨ad1, Q4, q4, Q5, q5, hA1, z0, z1, z2, z3, z4, z5, z6, z7, z8, lq4, gq4, lq5, gq5⟩ := at_T67 (Kd.C_below H1.out HB.out) (k : Int) (by omega) (by have := HN.out; omega)
    subst hA0
    subst hA1
    simp only [rd_T67, Int.toNat_natCast] at x0 x1 x2 x3 x4 x5 x6 x7 x8 lp4 gp4 lp5 gp5 z0 z1 z2 z3 z4 z5 z6 z7 z8 lq4 gq4 lq5 gq5
    have hwk : wrap64 ((k : Int) + 1) = (k : Int) + 1 := by have := HL.out; unfold wrap64; omega
    have HWK := A_ hwk
    have hNm : N ≤ 9223372036854775807 := by have := HL.out; omega
    generalize l.getD k z67 = x at *
    have hA : (x.f0 != x.f0) = false := by simp
    have hB : (x.f1 != x.f1) = false := by simp
    have hC : (x.f2 != x.f2) = false := by simp
    have KA := K_equal x.f3 P4 p4 P5 p5 x.f3 Q4 q4 Q5 q5 wr.drew (HasV.below ⟨lp4, gp4, lp5, gp5⟩ (RowKit.Below.refl _ wr).drew) (HasV.below ⟨lq4, gq4, lq5, gq5⟩ (RowKit.Below.refl _ wr).drew)
    rw [eqB_true rfl] at KA
    have KA' := A_ KA
    clear hwk KA lp4 gp4 lp5 gp5 lq4 gq4 lq5 gq5
    go_upto_region 6 with fail
    refine start_ (n := 51) (S := (fun w' => w'.cell? (ad0.add (k * 9)) = some (.int .i64 x.f0) ∧ w'.cell? ⟨(ad0.add (k * 9)).block, (ad0.add (k * 9)).off + 1, none⟩ = some (.int .i64 x.f1) ∧ w'.cell? ⟨(ad0.add (k * 9)).block, (ad0.add (k * 9)).off + 2, none⟩ = some (.bool x.f2) ∧ w'.cell? ⟨(ad0.add (k * 9)).block, (ad0.add (k * 9)).off + 3, none⟩ = some (.int .i64 x.f3.f0) ∧ w'.cell? ⟨(ad0.add (k * 9)).block, (ad0.add (k * 9)).off + 4, none⟩ = some (.int .i64 x.f3.f1) ∧ w'.cell? ⟨(ad0.add (k * 9)).block, (ad0.add (k * 9)).off + 5, none⟩ = some (.int .i64 x.f3.f2) ∧ w'.cell? ⟨(ad0.add (k * 9)).block, (ad0.add (k * 9)).off + 6, none⟩ = some (.string x.f3.f3) ∧ w'.cell? ⟨(ad0.add (k * 9)).block, (ad0.add (k * 9)).off + 7, none⟩ = some (.slice P4 x.f3.f4.length p4) ∧ w'.cell? ⟨(ad0.add (k * 9)).block, (ad0.add (k * 9)).off + 8, none⟩ = some (.slice P5 x.f3.f5.length p5) ∧ w'.cell? (ad1.add (k * 9)) = some (.int .i64 x.f0) ∧ w'.cell? ⟨(ad1.add (k * 9)).block, (ad1.add (k * 9)).off + 1, none⟩ = some (.int .i64 x.f1) ∧ w'.cell? ⟨(ad1.add (k * 9)).block, (ad1.add (k * 9)).off + 2, none⟩ = some (.bool x.f2) ∧ w'.cell? ⟨(ad1.add (k * 9)).block, (ad1.add (k * 9)).off + 3, none⟩ = some (.int .i64 x.f3.f0) ∧ w'.cell? ⟨(ad1.add (k * 9)).block, (ad1.add (k * 9)).off + 4, none⟩ = some (.int .i64 x.f3.f1) ∧ w'.cell? ⟨(ad1.add (k * 9)).block, (ad1.add (k * 9)).off + 5, none⟩ = some (.int .i64 x.f3.f2) ∧ w'.cell? ⟨(ad1.add (k * 9)).block, (ad1.add (k * 9)).off + 6, none⟩ = some (.string x.f3.f3) ∧ w'.cell? ⟨(ad1.add (k * 9)).block, (ad1.add (k * 9)).off + 7, none⟩ = some (.slice Q4 x.f3.f4.length q4) ∧ w'.cell? ⟨(ad1.add (k * 9)).block, (ad1.add (k * 9)).off + 8, none⟩ = some (.slice Q5 x.f3.f5.length q5))) (ds := [48, 49, 50]) #[false, false, false, false, false, false, false, false, false, false, false, false, false, false, false, false, false, false, false, false, false, false, false, false, false, false, false, false, false, false, false, false, false, false, false, false, false, false, false, false, false, false, false, false, false, false, false, false, false, false, false] (by kernel_rfl) rfl rfl (by refine ⟨?_, ?_, ?_, ?_, ?_, ?_, ?_, ?_, ?_, ?_, ?_, ?_, ?_, ?_, ?_, ?_, ?_, ?_⟩ <;> go_simp) (fun hHeld => ?_)
    refine with_tabW sctab scbits (fun HT_ HW_ => ?_)
    have HH := A_ hHeld
    clear hHeld
    refine pu_ 0 17 ?_ (hc := any_of HT_.out (by kernel_rfl))
    refine pu_ 1 18 ?_ (hc := any_of HT_.out (by kernel_rfl))
    refine pu_ 2 19 ?_ (hc := any_of HT_.out (by kernel_rfl))
    refine pu_ 3 20 ?_ (hc := any_of HT_.out (by kernel_rfl))
    refine ta_ 4 21 HH.out ?_ (hc := take_ofW HT_.out HW_.out (by kernel_rfl))
    refine pu_ 5 22 ?_ (hc := any_of HT_.out (by kernel_rfl))
    refine pu_ 6 23 ?_ (hc := any_of HT_.out (by kernel_rfl))
    refine pu_ 7 24 ?_ (hc := any_of HT_.out (by kernel_rfl))
    refine pu_ 8 25 ?_ (hc := any_of HT_.out (by kernel_rfl))
    refine ta_ 9 26 HH.out ?_ (hc := take_ofW HT_.out HW_.out (by kernel_rfl))
    refine pu_ 10 27 ?_ (hc := any_of HT_.out (by kernel_rfl)) (hy := Or.inl ⟨by rfl, by intro w'; go_simp; (try simp only [hA]); with_reducible rfl⟩)
    refine pu_ 11 28 ?_ (hc := any_of HT_.out (by kernel_rfl))
    refine pu_ 12 29 ?_ (hc := any_of HT_.out (by kernel_rfl))
    refine pu_ 13 30 ?_ (hc := any_of HT_.out (by kernel_rfl))
    refine pu_ 14 31 ?_ (hc := any_of HT_.out (by kernel_rfl))
    refine pu_ 15 32 ?_ (hc := any_of HT_.out (by kernel_rfl))
    refine ta_ 16 33 HH.out ?_ (hc := take_ofW HT_.out HW_.out (by kernel_rfl))
    refine pu_ 17 34 ?_ (hc := any_of HT_.out (by kernel_rfl))
    refine pu_ 18 35 ?_ (hc := any_of HT_.out (by kernel_rfl))
    refine pu_ 19 36 ?_ (hc := any_of HT_.out (by kernel_rfl))
    refine pu_ 20 37 ?_ (hc := any_of HT_.out (by kernel_rfl))
    refine ta_ 21 38 HH.out ?_ (hc := take_ofW HT_.out HW_.out (by kernel_rfl))
    refine pu_ 22 39 ?_ (hc := any_of HT_.out (by kernel_rfl)) (hy := Or.inl ⟨by rfl, by intro w'; go_simp; (try simp only [hB]); with_reducible rfl⟩)
    refine pu_ 23 40 ?_ (hc := any_of HT_.out (by kernel_rfl))
    refine pu_ 24 41 ?_ (hc := any_of HT_.out (by kernel_rfl))
    refine pu_ 25 42 ?_ (hc := any_of HT_.out (by kernel_rfl))
    refine pu_ 26 43 ?_ (hc := any_of HT_.out (by kernel_rfl))
    refine pu_ 27 44 ?_ (hc := any_of HT_.out (by kernel_rfl))
    refine pu_ 28 45 ?_ (hc := any_of HT_.out (by kernel_rfl))
    refine ta_ 29 46 HH.out ?_ (hc := take_ofW HT_.out HW_.out (by kernel_rfl))
    refine pu_ 30 47 ?_ (hc := any_of HT_.out (by kernel_rfl))
    refine pu_ 31 48 ?_ (hc := any_of HT_.out (by kernel_rfl))
    refine pu_ 32 49 ?_ (hc := any_of HT_.out (by kernel_rfl))
    refine pu_ 33 50 ?_ (hc := any_of HT_.out (by kernel_rfl))
    refine ta_ 34 51 HH.out ?_ (hc := take_ofW HT_.out HW_.out (by kernel_rfl))
    refine pu_ 35 52 ?_ (hc := any_of HT_.out (by kernel_rfl)) (hy := Or.inl ⟨by rfl, by intro w'; go_simp; (try simp only [hC]); with_reducible rfl⟩)
    refine pu_ 36 53 ?_ (hc := any_of HT_.out (by kernel_rfl))
    refine pu_ 37 54 ?_ (hc := any_of HT_.out (by kernel_rfl))
    refine pu_ 38 55 ?_ (hc := any_of HT_.out (by kernel_rfl))
    refine pu_ 39 56 ?_ (hc := any_of HT_.out (by kernel_rfl))
    refine pu_ 40 57 ?_ (hc := any_of HT_.out (by kernel_rfl))
    refine pu_ 41 58 ?_ (hc := any_of HT_.out (by kernel_rfl))
    refine ta_ 42 59 HH.out ?_ (hc := take_ofW HT_.out HW_.out (by kernel_rfl))
    refine pu_ 43 60 ?_ (hc := any_of HT_.out (by kernel_rfl))
    refine pu_ 44 61 ?_ (hc := any_of HT_.out (by kernel_rfl))
    refine pu_ 45 62 ?_ (hc := any_of HT_.out (by kernel_rfl))
    refine pu_ 46 63 ?_ (hc := any_of HT_.out (by kernel_rfl))
    refine ta_ 47 64 HH.out ?_ (hc := take_ofW HT_.out HW_.out (by kernel_rfl))
    refine chain_ [48, 49, 50] _ _ _ _ (⟨_, _, rfl, rfl, ⟨_, _, rfl, rfl, ⟨_, _, rfl, rfl, rfl⟩⟩⟩) (by kernel_rfl) (by decide) ?_
    clear hNm x0 x1 x2 x3 x4 x5 x6 x7 x8 z0 z1 z2 z3 z4 z5 z6 z7 z8
    go_wp2_with fail
    refine Calls.mono KA'.out ?_
    rintro e w3 ⟨rfl, hb⟩
    have HB3 := A_ (HB.out.trans (((RowKit.Below.refl _ wr).drew.trans hb).mono HB.out.size))
    clear hb KA'
    go_wp2
    exact ⟨⟨k + 1, by omega, by first | (rw [HWK.out]; simp; done) | (simp; done), HB3⟩, by first | (rw [HWK.out]; simp [intOf]; omega) | (simp [intOf]; omega)⟩
  · obtain rfl : N = k := by omega
    go_wp2
    go_ret
    exact ⟨rfl, HB.out⟩
def PlX (x : S69) : Prop := plain x.f2 = x.f2 ∧ (x.f1 = false → x.f2 = z35)
def PlW (s : WS) : Prop := (∀ x ∈ s.now, PlX x) ∧ ∀ x ∈ s.base, PlX x
theorem plx_dead (g : Int) : PlX ⟨g, false, z35⟩ := ⟨plain_z35, fun _ => rfl⟩
theorem plx_null (g : Int) (b : Bool) : PlX ⟨g, b, z35⟩ := ⟨plain_z35, fun _ => rfl⟩
theorem plx_plain (g : Int) (v : S35) : PlX ⟨g, true, plain v⟩ := ⟨plain_idem v, fun h => by cases h⟩
theorem plx_at {l : List S69} (h : ∀ x ∈ l, PlX x) (i : Nat) : PlX (l.getD i z69) := by
 by_cases hi : i < l.length
 · exact h _ (getD_mem _ _ hi _)
 · rw [List.getD_eq_getElem?_getD, List.getElem?_eq_none (by omega)]
   exact plx_dead 0
theorem plx_set {l : List S69} {i : Nat} {y : S69} (h : ∀ x ∈ l, PlX x) (hy : PlX y) : ∀ x ∈ l.set i y, PlX x := fun x hx => by
 rcases List.mem_or_eq_of_mem_set hx with hx | rfl
 · exact h x hx
 · exact hy
theorem plw_alloc {s : WS} (h : PlW s) : PlW (allocS s) := by
 unfold allocS
 split
 · have ha := plx_at h.1 (leastN s.now)
   exact ⟨plx_set h.1 ⟨ha.1, fun e => by cases e⟩, h.2⟩
 split
 · exact h
 · refine ⟨fun x hx => ?_, h.2⟩
   rcases List.mem_append.1 hx with hx | hx
   · exact h.1 x hx
   · obtain rfl := List.mem_singleton.1 hx
     exact plx_null 0 true
theorem plw_put {s : WS} (h : PlW s) (n g : Int) (v : S35) : PlW (putW s n g v) := by
 unfold putW
 split
 · exact ⟨plx_set h.1 (plx_plain g v), h.2⟩
 · exact h
theorem plw_del {s : WS} (h : PlW s) (n g : Int) : PlW (delW s n g) := by
 unfold delW
 split
 · exact ⟨plx_set h.1 (plx_dead _), h.2⟩
 · exact h
theorem plw_root {s : WS} (h : PlW s) (n g : Int) : PlW (rootW s n g) := by unfold rootW; split <;> exact h
theorem plw_settle {s : WS} (h : PlW s) : PlW (settleW s) := ⟨h.1, h.1⟩
theorem plw_reset {s : WS} (h : PlW s) : PlW (resetW s) := ⟨h.2, h.2⟩
theorem plw_new (b : List S69) (rn rg most : Int) : PlW (newW b rn rg most) := by
 have hx : ∀ x ∈ newNow b, PlX x := fun x hx => by
  unfold newNow at hx
  obtain ⟨i, _, rfl⟩ := List.mem_map.1 hx
  unfold newS
  split
  · split
    · exact plx_plain _ _
    · exact plx_dead _
  · exact plx_dead 0
 exact ⟨hx, hx⟩
theorem plw_slots {s : WS} (h : PlW s) : s.now.map plainS = s.now := by
 have e : s.now.map plainS = s.now.map id := List.map_congr_left fun x hx => by
  unfold plainS
  rw [(h.1 x hx).1]
  rfl
 rw [e, List.map_id]
theorem plw_get {s : WS} (h : PlW s) (n g : Int) : getW s n g = getR s n g := by
 unfold getW getR
 split
 · exact (plx_at h.1 _).1
 · rfl
theorem alikeS_plx {a b : S69} (ha : PlX a) (hb : PlX b) : alikeS a b = alikeR a b := by unfold alikeS alikeR; rw [ha.1, hb.1]
set_option maxHeartbeats 16000000 in
set_option maxRecDepth 100000 in
theorem ref_changes (b : Nat → Prop) (R : RL) (s : WS) (w : World) (h : RefIs b R s w) (hp : PlW s) (h0 : 0 < R.rsN.length) (h9 : R.rsN.length ≤ 80000) (h9b : R.rsB.length ≤ 80000) :
 Calls Try.prog 34 #[.agg (R.cells s)] w fun e w' => ∃ g c n xs, e = .returned (.slice (some ⟨g, 0, none⟩) n c) ∧ n = xs.length ∧ xs.map strC = chgs s s.now.length ∧ CRow w.heap.size (.slice (some ⟨g, 0, none⟩) n c) xs w' ∧ RowKit.Below w.heap.size w w' := by
 have hu46 := Try.underlying46
 have hu49 := Try.underlying49
 have hu51 := Try.underlying51
 have hu60 := Try.underlying60
 have hu67 := Try.underlying67
 have hu69 := Try.underlying69
 obtain ⟨i0, hi0, hz0, hz1, hz2⟩ := info_parts info67
 have HI := A_ (And.intro hi0 (And.intro hz0 (And.intro hz1 hz2)))
 clear hi0 hz0 hz1 hz2
 have hlen : s.now.length = R.rsN.length := by rw [← h.2.1, List.length_map]
 have hlenB : s.base.length = R.rsB.length := by rw [← h.2.2.2.1, List.length_map]
 have hgN := h.1.lt.2
 have hgB := h.2.2.1.lt.2
 have H := A_ h
 have HP := A_ hp
 obtain ⟨gN, cN, rsN, gB, cB, rsB⟩ := R
 simp only [RL.cells] at h0 h9 h9b hlen hlenB hgN hgB ⊢
 obtain ⟨nN, hnN⟩ : ∃ nN, nN = rsN.length := ⟨_, rfl⟩
 obtain ⟨nB, hnB⟩ : ∃ nB, nB = rsB.length := ⟨_, rfl⟩
 rw [← hnN] at hlen h9 h0
 rw [← hnB] at hlenB h9b
 rw [← hnN, ← hnB]
 have HNN := A_ (And.intro hnN (And.intro hnB (And.intro hlen hlenB)))
 have HL := A_ (And.intro h9 h9b)
 have HG := A_ (And.intro hgN hgB)
 have HB2 := A_ (below_alloc (below_alloc (RowKit.Below.refl w.heap.size w) (.cells #[.slice (some ⟨gN, 0, none⟩) nN cN, .int .i64 s.rn, .int .i64 s.rg, .slice (some ⟨gB, 0, none⟩) nB cB, .int .i64 s.bn, .int .i64 s.bg, .int .i64 s.most] 51)) (.cells #[] 67))
 have BX2 := A_ (blk_alloc (blk_new w (.cells #[.slice (some ⟨gN, 0, none⟩) nN cN, .int .i64 s.rn, .int .i64 s.rg, .slice (some ⟨gB, 0, none⟩) nB cB, .int .i64 s.bn, .int .i64 s.bg, .int .i64 s.most] 51)) (.cells #[] 67))
 have OW := A_ (World.ownsRow_lit (base := w.heap.size + 1) (e := 67) (size := 9) ((w.alloc (.cells #[.slice (some ⟨gN, 0, none⟩) nN cN, .int .i64 s.rn, .int .i64 s.rg, .slice (some ⟨gB, 0, none⟩) nB cB, .int .i64 s.bn, .int .i64 s.bg, .int .i64 s.most] 51))) #[] 0 (by simp) (by simp [maxLen]) (by simp))
 simp only [World.size_alloc] at OW
 have H00 := A_ h0
 clear h hp hnN hnB hlen hlenB h9 h9b hgN hgB h0
 obtain ⟨u0, -, -, -, -, -, -⟩ := box7 BX2.out
 go_enter Try.func34, Try.ntmps34
 go_wp2
 clear u0
 go_loopw [3, 4] (fun v3 i wr => ∃ (k g c n : Nat) (xs : List (Nat × RS)), 1 ≤ k ∧ k ≤ nN ∧ v3 = .slice (some ⟨g, 0, none⟩) n c ∧ i = .int .i64 k ∧ Aside0 (n = xs.length) ∧ Aside0 (RowKit.Below w.heap.size w wr) ∧ Aside0 (wr.heap[w.heap.size]? = some (.cells #[.slice (some ⟨gN, 0, none⟩) nN cN, .int .i64 s.rn, .int .i64 s.rg, .slice (some ⟨gB, 0, none⟩) nB cB, .int .i64 s.bn, .int .i64 s.bg, .int .i64 s.most] 51 (0, 0))) ∧ Aside0 (CRow (w.heap.size + 1) (.slice (some ⟨g, 0, none⟩) n c) xs wr) ∧ Aside0 (xs.map strC = chgs s k)) (fun _ i _ => nN - (intOf i).toNat)
 case atStart =>
  exact ⟨1, _, _, 0, [], Nat.le_refl _, H00.out, rfl, rfl, ⟨rfl⟩, HB2, BX2, ⟨⟨OW.out, fun x hx => by simp at hx⟩⟩, ⟨by rw [chgs_succ]; simp [chgs, chgAt]⟩⟩
 case round =>
  clear HB2 BX2 OW
  obtain ⟨k, g, c, n, xs, hk1, hk, rfl, rfl, HNX, HB, BX, HC, HPS⟩ := hrel
  obtain ⟨u0, u1, u2, u3, u4, u5, u6⟩ := box7 BX.out
  have hlt0 : w.heap.size < wr.heap.size := blk_lt BX.out
  by_cases hlt : k < nN
  · have HR := A_ (H.out.below HB.out)
    obtain ⟨y, hy, hyx, hym, s0, s1, s2, s3, s4, s5, s6, s7⟩ := HR.out.slot k (by show k < rsN.length; have := HNN.out.1; omega)
    have FY := A_ (HR.out.1.2 y hym)
    have HYX := A_ hyx
    have PX := A_ (show PlX y.x from by rw [hyx]; exact plx_at HP.out.1 k)
    have PLY := A_ (show plainS (s.now.getD k z69) = y.x from by rw [← hyx]; unfold plainS; rw [PX.out.1])
    have hwk : wrap64 ((k : Int) + 1) = (k : Int) + 1 := by have := HL.out.1; unfold wrap64; omega
    have HWK := A_ hwk
    have hNm : nN ≤ 9223372036854775807 := by have := HL.out.1; omega
    have hNb : nB ≤ 9223372036854775807 := by have := HL.out.2; omega
    have hgNr : gN < wr.heap.size := Nat.lt_of_lt_of_le HG.out.1 HB.out.size
    have hgBr : gB < wr.heap.size := Nat.lt_of_lt_of_le HG.out.2 HB.out.size
    have hbA := below_alloc (RowKit.Below.refl _ wr) (.cells #[.int .i64 y.x.f0, .bool y.x.f1, .int .i64 y.x.f2.f0, .int .i64 y.x.f2.f1, .int .i64 y.x.f2.f2, .string y.x.f2.f3, .slice y.a4 y.x.f2.f4.length y.c4, .slice y.a5 y.x.f2.f5.length y.c5] 69)
    have BY := A_ (blk_new wr (.cells #[.int .i64 y.x.f0, .bool y.x.f1, .int .i64 y.x.f2.f0, .int .i64 y.x.f2.f1, .int .i64 y.x.f2.f2, .string y.x.f2.f3, .slice y.a4 y.x.f2.f4.length y.c4, .slice y.a5 y.x.f2.f5.length y.c5] 69))
    simp only [] at s0 s1 s2 s3 s4 s5 s6 s7
    clear hwk hy hyx hym
    by_cases hbl : k < nB
    · have hB : decide ((k : Int) < (nB : Int)) = true := by simp; omega
      obtain ⟨z, hz, hzm, z0, z1, z2, z3, z4, z5, z6, z7⟩ := HR.out.2.2.1.own.at k (by show k < rsB.length; have := HNN.out.2.1; omega)
      have FZ := A_ (HR.out.2.2.1.2 z hzm)
      have HZX := A_ (show z.x = s.base.getD k z69 from by rw [← HR.out.2.2.2.1, hz, List.getD_eq_getElem?_getD, List.getD_eq_getElem?_getD, List.getElem?_map, List.getElem?_eq_getElem (by have := HNN.out.2.1; show k < rsB.length; omega)]; rfl)
      have PZ := A_ (show PlX z.x from by rw [HZX.out]; exact plx_at HP.out.2 k)
      have KA := A_ (alike_calls97 y.x z.x y.a4 y.c4 y.a5 y.c5 z.a4 z.c4 z.a5 z.c5 ((wr.alloc (.cells #[.int .i64 y.x.f0, .bool y.x.f1, .int .i64 y.x.f2.f0, .int .i64 y.x.f2.f1, .int .i64 y.x.f2.f2, .string y.x.f2.f3, .slice y.a4 y.x.f2.f4.length y.c4, .slice y.a5 y.x.f2.f5.length y.c5] 69)).drew) (HasV.below (FV.has FY.out) hbA.drew) (HasV.below (FV.has FZ.out) hbA.drew))
      obtain ⟨q, hq⟩ : ∃ q, q = alikeR y.x z.x := ⟨_, rfl⟩
      rw [← hq] at KA
      have HQ := A_ (show chgAt s k = !q from by unfold chgAt; rw [← HYX.out, ← HZX.out, alikeS_plx PX.out PZ.out, ← hq, decide_eq_true (show k ≠ 0 by omega), decide_eq_true (show k < s.base.length by have := HNN.out.2.2.2; omega)]; simp)
      simp only [] at z0 z1 z2 z3 z4 z5 z6 z7
      clear hq hz hzm
      go_upto_region 6 with fail
      refine start_ (n := 16) (S := (fun w' => w'.cell? ⟨w.heap.size, 3, none⟩ = some (.slice (some ⟨gB, 0, none⟩) nB cB) ∧ w'.cell? ⟨wr.heap.size, 0, none⟩ = some (.int .i64 y.x.f0) ∧ w'.cell? ⟨wr.heap.size, 1, none⟩ = some (.bool y.x.f1) ∧ w'.cell? ⟨wr.heap.size, 2, none⟩ = some (.int .i64 y.x.f2.f0) ∧ w'.cell? ⟨wr.heap.size, 3, none⟩ = some (.int .i64 y.x.f2.f1) ∧ w'.cell? ⟨wr.heap.size, 4, none⟩ = some (.int .i64 y.x.f2.f2) ∧ w'.cell? ⟨wr.heap.size, 5, none⟩ = some (.string y.x.f2.f3) ∧ w'.cell? ⟨wr.heap.size, 6, none⟩ = some (.slice y.a4 y.x.f2.f4.length y.c4) ∧ w'.cell? ⟨wr.heap.size, 7, none⟩ = some (.slice y.a5 y.x.f2.f5.length y.c5) ∧ w'.cell? ⟨gB, k * 8, none⟩ = some (.int .i64 z.x.f0) ∧ w'.cell? ⟨gB, k * 8 + 1, none⟩ = some (.bool z.x.f1) ∧ w'.cell? ⟨gB, k * 8 + 2, none⟩ = some (.int .i64 z.x.f2.f0) ∧ w'.cell? ⟨gB, k * 8 + 3, none⟩ = some (.int .i64 z.x.f2.f1) ∧ w'.cell? ⟨gB, k * 8 + 4, none⟩ = some (.int .i64 z.x.f2.f2) ∧ w'.cell? ⟨gB, k * 8 + 5, none⟩ = some (.string z.x.f2.f3) ∧ w'.cell? ⟨gB, k * 8 + 6, none⟩ = some (.slice z.a4 z.x.f2.f4.length z.c4) ∧ w'.cell? ⟨gB, k * 8 + 7, none⟩ = some (.slice z.a5 z.x.f2.f5.length z.c5))) (ds := [14, 15]) #[false, false, false, false, false, false, false, false, false, false, false, false, false, false, false, false] (by kernel_rfl) rfl rfl (by refine ⟨?_, ?_, ?_, ?_, ?_, ?_, ?_, ?_, ?_, ?_, ?_, ?_, ?_, ?_, ?_, ?_, ?_⟩ <;> go_simp) (fun hHeld => ?_)
      have HH := A_ hHeld
      clear hHeld
      refine pu_ 0 21 ?_
      refine pu_ 1 22 ?_
      refine pu_ 2 23 ?_
      refine ta_ 3 24 HH.out ?_
      refine pu_ 4 25 ?_
      refine pu_ 5 26 ?_ (hy := Or.inl ⟨by rfl, by intro w'; go_simp; (try simp only [hB]); with_reducible rfl⟩)
      refine pu_ 6 27 ?_
      refine ta_ 7 28 HH.out ?_
      refine pu_ 8 29 ?_
      refine pu_ 9 30 ?_
      refine ta_ 10 31 HH.out ?_
      refine pu_ 11 32 ?_
      refine pu_ 12 33 ?_
      refine ta_ 13 34 HH.out ?_
      refine chain_ [14, 15] _ _ _ _ (⟨_, _, rfl, rfl, ⟨_, _, rfl, rfl, rfl⟩⟩) (by kernel_rfl) (by decide) ?_
      clear u0 u1 u2 u3 u4 u5 u6 s0 s1 s2 s3 s4 s5 s6 s7 z0 z1 z2 z3 z4 z5 z6 z7 hB hNb
      cases q
      · have HCH := A_ HQ.out
        simp only [Bool.not_false] at HCH
        go_wp2_with fail
        refine Calls.mono KA.out ?_
        rintro e w4 ⟨rfl, hb⟩
        have hb4 := hbA.drew.trans (hb.mono hbA.drew.size)
        have BYp := A_ (blk_below (blk_drew BY.out) hb)
        have BXp := A_ (blk_below BX.out hb4)
        have HBp := A_ (HB.out.trans (hb4.mono HB.out.size))
        have HCp := A_ (HC.out.below hb4)
        have FYp := A_ (FY.out.keep (KeepU.of_below (Nat.le_refl _) hb4))
        clear hb hb4 hbA KA BY BX HB HC FY HR FZ hgNr hgBr HQ
        obtain ⟨w3, hw3⟩ : ∃ w3, w3 = w4 := ⟨_, rfl⟩
        have BY3 := BYp
        have BX3 := BXp
        have HB3 := HBp
        have HC3 := HCp
        have FY3 := FYp
        rw [← hw3] at BY3 BX3 HB3 HC3 FY3
        rw [← hw3]
        clear hw3 BYp BXp HBp HCp FYp
        obtain ⟨p0, p1, p2, p3, p4, p5, p6, p7⟩ := box8 BY3.out
        have hlw3 : wr.heap.size < w3.heap.size := blk_lt BY3.out
        have HOA := A_ (show (w3.alloc (.cells #[.int .i64 (k : Int), .int .i64 y.x.f0, .bool (!y.x.f1), .int .i64 y.x.f2.f0, .int .i64 y.x.f2.f1, .int .i64 y.x.f2.f2, .string y.x.f2.f3, .slice y.a4 y.x.f2.f4.length y.c4, .slice y.a5 y.x.f2.f5.length y.c5] 67)).ownsRow (w.heap.size + 1) 67 9 (.slice (some ⟨g, 0, none⟩) n c) n (flatC xs) from by have h1 := HC3.out.1; rw [← HNX.out] at h1; exact World.ownsRow.alloc h1 _)
        have HSA := A_ (show w.heap.size + 1 ≤ (w3.alloc (.cells #[.int .i64 (k : Int), .int .i64 y.x.f0, .bool (!y.x.f1), .int .i64 y.x.f2.f0, .int .i64 y.x.f2.f1, .int .i64 y.x.f2.f2, .string y.x.f2.f3, .slice y.a4 y.x.f2.f4.length y.c4, .slice y.a5 y.x.f2.f5.length y.c5] 67)).heap.size by rw [World.size_alloc]; omega)
        have HBA := A_ (below_alloc HB3.out (.cells #[.int .i64 (k : Int), .int .i64 y.x.f0, .bool (!y.x.f1), .int .i64 y.x.f2.f0, .int .i64 y.x.f2.f1, .int .i64 y.x.f2.f2, .string y.x.f2.f3, .slice y.a4 y.x.f2.f4.length y.c4, .slice y.a5 y.x.f2.f5.length y.c5] 67))
        have FYA := A_ (FY3.out.keep (KeepU.of_below (Nat.le_refl _) (below_alloc (RowKit.Below.refl _ w3) (.cells #[.int .i64 (k : Int), .int .i64 y.x.f0, .bool (!y.x.f1), .int .i64 y.x.f2.f0, .int .i64 y.x.f2.f1, .int .i64 y.x.f2.f2, .string y.x.f2.f3, .slice y.a4 y.x.f2.f4.length y.c4, .slice y.a5 y.x.f2.f5.length y.c5] 67))))
        have HCA := A_ (HC3.out.below (below_alloc (RowKit.Below.refl _ w3) (.cells #[.int .i64 (k : Int), .int .i64 y.x.f0, .bool (!y.x.f1), .int .i64 y.x.f2.f0, .int .i64 y.x.f2.f1, .int .i64 y.x.f2.f2, .string y.x.f2.f3, .slice y.a4 y.x.f2.f4.length y.c4, .slice y.a5 y.x.f2.f5.length y.c5] 67)))
        have BXA := A_ (blk_alloc BX3.out (.cells #[.int .i64 (k : Int), .int .i64 y.x.f0, .bool (!y.x.f1), .int .i64 y.x.f2.f0, .int .i64 y.x.f2.f1, .int .i64 y.x.f2.f2, .string y.x.f2.f3, .slice y.a4 y.x.f2.f4.length y.c4, .slice y.a5 y.x.f2.f5.length y.c5] 67))
        have HN9 := A_ (show n ≤ 90000 from by have h1 := chgs_len s k; rw [← HPS.out, List.length_map] at h1; have := HNX.out; have := HL.out; omega)
        clear HC3 HB3 BX3 FY3 BY3
        go_wp2_with (first | ((with_reducible refine gate_dst (N := 48) rfl ?_); refine wpList_append_own (w3.alloc (.cells #[.int .i64 (k : Int), .int .i64 y.x.f0, .bool (!y.x.f1), .int .i64 y.x.f2.f0, .int .i64 y.x.f2.f1, .int .i64 y.x.f2.f2, .string y.x.f2.f3, .slice y.a4 y.x.f2.f4.length y.c4, .slice y.a5 y.x.f2.f5.length y.c5] 67)) rfl (.tmp 37) (.tmp 47) 60 rfl (w.heap.size + 1) 67 i0 (.agg #[.int .i64 0, .int .i64 0, .bool false, .int .i64 0, .int .i64 0, .int .i64 0, .string ⟨#[]⟩, .slice none 0 0, .slice none 0 0]) 9 112 Try.underlying60 HI.out.1 HI.out.2.1 HI.out.2.2.1 HI.out.2.2.2 rfl (by decide) (.slice (some ⟨g, 0, none⟩) n c) n (flatC xs) rfl HOA.out ⟨w3.heap.size, 0, none⟩ 1 1 [.int .i64 (k : Int), .int .i64 y.x.f0, .bool (!y.x.f1), .int .i64 y.x.f2.f0, .int .i64 y.x.f2.f1, .int .i64 y.x.f2.f2, .string y.x.f2.f3, .slice y.a4 y.x.f2.f4.length y.c4, .slice y.a5 y.x.f2.f5.length y.c5] rfl rfl (cells_new _ _ _) (by simp [Value.oneCell']) (by have := HN9.out; simp only [maxLen]; omega) (by have := HN9.out; omega) HSA.out ?_))
        intro v' w8 hown hgrow _
        obtain ⟨g', c', rfl⟩ := ownsRow_succ hown
        have hgb : ∀ r, (Value.slice (some ⟨g, 0, none⟩) n c).ownBlock = some r → w.heap.size + 1 ≤ r := fun r hr => own_base HOA.out r hr
        have HKU := KeepU.grown (B := w.heap.size + 1) hgrow HOA.out (Nat.le_refl _) HSA.out (by decide)
        have HC8 := A_ (show CRow (w.heap.size + 1) (.slice (some ⟨g', 0, none⟩) (n + 1) c') (xs ++ [(k, y)]) w8 from ⟨by rw [List.length_append, flatC_snoc, ← HNX.out]; exact hown, fun q hq => by
         rcases List.mem_append.1 hq with hq | hq
         · exact (HCA.out.2 q hq).keep HKU
         · obtain rfl := List.mem_singleton.1 hq
           exact FYA.out.keep HKU⟩)
        have HB8 := A_ (HBA.out.trans ((RowKit.Below.refl w.heap.size (w3.alloc (.cells #[.int .i64 (k : Int), .int .i64 y.x.f0, .bool (!y.x.f1), .int .i64 y.x.f2.f0, .int .i64 y.x.f2.f1, .int .i64 y.x.f2.f2, .string y.x.f2.f3, .slice y.a4 y.x.f2.f4.length y.c4, .slice y.a5 y.x.f2.f5.length y.c5] 67))).grown hgrow HBA.out.size (fun r hr => by have := hgb r hr; omega)))
        have BX8 := A_ ((hgrow.block w.heap.size (blk_lt BXA.out) (fun e => by have := hgb _ e.symm; omega)).trans BXA.out)
        have HNX8 := A_ (show n + 1 = (xs ++ [(k, y)]).length by rw [List.length_append, ← HNX.out]; rfl)
        have HPS8 := A_ (show (xs ++ [(k, y)]).map strC = chgs s (k + 1) from by rw [chgs_succ, HCH.out, if_pos rfl, List.map_append, HPS.out, PLY.out]; rfl)
        clear hown hgrow hgb HKU p0 p1 p2 p3 p4 p5 p6 p7 hlw3
        go_wp2
        exact ⟨⟨k + 1, g', c', n + 1, _, by omega, by omega, rfl, by first | (rw [HWK.out]; simp; done) | (simp; done), HNX8, HB8, BX8, HC8, HPS8⟩, by first | (rw [HWK.out]; simp [intOf]; omega) | (simp [intOf]; omega)⟩
      · have HCH := A_ HQ.out
        simp only [Bool.not_true] at HCH
        go_wp2_with fail
        refine Calls.mono KA.out ?_
        rintro e w4 ⟨rfl, hb⟩
        have hb4 := hbA.drew.trans (hb.mono hbA.drew.size)
        have BXp := A_ (blk_below BX.out hb4)
        have HBp := A_ (HB.out.trans (hb4.mono HB.out.size))
        have HCp := A_ (HC.out.below hb4)
        have HPSp := A_ (show xs.map strC = chgs s (k + 1) from by rw [chgs_succ, HCH.out, HPS.out]; simp)
        clear hb hb4 hbA KA BY BX HB HC FY HR FZ hgNr hgBr hlt0 HQ HPS
        go_wp2
        exact ⟨⟨k + 1, g, c, n, _, by omega, by omega, rfl, by first | (rw [HWK.out]; simp; done) | (simp; done), HNX, HBp, BXp, HCp, HPSp⟩, by first | (rw [HWK.out]; simp [intOf]; omega) | (simp [intOf]; omega)⟩
    · have hB : decide ((k : Int) < (nB : Int)) = false := by simp; omega
      have HCH := A_ (show chgAt s k = true from by unfold chgAt; rw [decide_eq_true (show k ≠ 0 by omega), decide_eq_false (show ¬ k < s.base.length by have := HNN.out.2.2.2; omega)]; simp)
      go_upto_region 6 with fail
      refine start_ (n := 16) (S := (fun w' => w'.cell? ⟨w.heap.size, 3, none⟩ = some (.slice (some ⟨gB, 0, none⟩) nB cB))) (ds := [15]) #[false, false, false, false, false, false, false, false, false, false, false, false, false, false, false, false] (by kernel_rfl) rfl rfl (by go_simp) (fun hHeld => ?_)
      have HH := A_ hHeld
      clear hHeld
      refine pu_ 0 21 ?_
      refine pu_ 1 22 ?_
      refine pu_ 2 23 ?_
      refine ta_ 3 24 HH.out ?_
      refine pu_ 4 25 ?_
      refine pu_ 5 26 ?_ (hy := Or.inl ⟨by rfl, by intro w'; go_simp; (try simp only [hB]); with_reducible rfl⟩)
      refine pu_ 6 27 ?_
      refine pu_ 7 28 ?_ (hy := Or.inr ⟨by rfl, rfl⟩)
      refine pu_ 8 29 ?_ (hy := Or.inr ⟨by rfl, rfl⟩)
      refine pu_ 9 30 ?_ (hy := Or.inr ⟨by rfl, rfl⟩)
      refine pu_ 10 31 ?_ (hy := Or.inr ⟨by rfl, rfl⟩)
      refine pu_ 11 32 ?_ (hy := Or.inr ⟨by rfl, rfl⟩)
      refine pu_ 12 33 ?_ (hy := Or.inr ⟨by rfl, rfl⟩)
      refine pu_ 13 34 ?_ (hy := Or.inr ⟨by rfl, rfl⟩)
      refine pu_ 14 35 ?_ (hy := Or.inr ⟨by rfl, rfl⟩)
      refine chain_ [15] _ _ _ _ (⟨_, _, rfl, rfl, rfl⟩) (by kernel_rfl) (by decide) ?_
      have BYp := A_ (blk_drew BY.out)
      have BXp := A_ (blk_below BX.out hbA.drew)
      have HBp := A_ (HB.out.trans (hbA.drew.mono HB.out.size))
      have HCp := A_ (HC.out.below hbA.drew)
      have FYp := A_ (FY.out.keep (KeepU.of_below (Nat.le_refl _) hbA.drew))
      clear u0 u1 u2 u3 u4 u5 u6 s0 s1 s2 s3 s4 s5 s6 s7 hB hNb hbA BY BX HB HC FY HR hgNr hgBr
      obtain ⟨w3, hw3⟩ : ∃ w3, w3 = (wr.alloc (.cells #[.int .i64 y.x.f0, .bool y.x.f1, .int .i64 y.x.f2.f0, .int .i64 y.x.f2.f1, .int .i64 y.x.f2.f2, .string y.x.f2.f3, .slice y.a4 y.x.f2.f4.length y.c4, .slice y.a5 y.x.f2.f5.length y.c5] 69)).drew := ⟨_, rfl⟩
      have BY3 := BYp
      have BX3 := BXp
      have HB3 := HBp
      have HC3 := HCp
      have FY3 := FYp
      rw [← hw3] at BY3 BX3 HB3 HC3 FY3
      rw [← hw3]
      clear hw3 BYp BXp HBp HCp FYp
      obtain ⟨p0, p1, p2, p3, p4, p5, p6, p7⟩ := box8 BY3.out
      have hlw3 : wr.heap.size < w3.heap.size := blk_lt BY3.out
      have HOA := A_ (show (w3.alloc (.cells #[.int .i64 (k : Int), .int .i64 y.x.f0, .bool (!y.x.f1), .int .i64 y.x.f2.f0, .int .i64 y.x.f2.f1, .int .i64 y.x.f2.f2, .string y.x.f2.f3, .slice y.a4 y.x.f2.f4.length y.c4, .slice y.a5 y.x.f2.f5.length y.c5] 67)).ownsRow (w.heap.size + 1) 67 9 (.slice (some ⟨g, 0, none⟩) n c) n (flatC xs) from by have h1 := HC3.out.1; rw [← HNX.out] at h1; exact World.ownsRow.alloc h1 _)
      have HSA := A_ (show w.heap.size + 1 ≤ (w3.alloc (.cells #[.int .i64 (k : Int), .int .i64 y.x.f0, .bool (!y.x.f1), .int .i64 y.x.f2.f0, .int .i64 y.x.f2.f1, .int .i64 y.x.f2.f2, .string y.x.f2.f3, .slice y.a4 y.x.f2.f4.length y.c4, .slice y.a5 y.x.f2.f5.length y.c5] 67)).heap.size by rw [World.size_alloc]; omega)
      have HBA := A_ (below_alloc HB3.out (.cells #[.int .i64 (k : Int), .int .i64 y.x.f0, .bool (!y.x.f1), .int .i64 y.x.f2.f0, .int .i64 y.x.f2.f1, .int .i64 y.x.f2.f2, .string y.x.f2.f3, .slice y.a4 y.x.f2.f4.length y.c4, .slice y.a5 y.x.f2.f5.length y.c5] 67))
      have FYA := A_ (FY3.out.keep (KeepU.of_below (Nat.le_refl _) (below_alloc (RowKit.Below.refl _ w3) (.cells #[.int .i64 (k : Int), .int .i64 y.x.f0, .bool (!y.x.f1), .int .i64 y.x.f2.f0, .int .i64 y.x.f2.f1, .int .i64 y.x.f2.f2, .string y.x.f2.f3, .slice y.a4 y.x.f2.f4.length y.c4, .slice y.a5 y.x.f2.f5.length y.c5] 67))))
      have HCA := A_ (HC3.out.below (below_alloc (RowKit.Below.refl _ w3) (.cells #[.int .i64 (k : Int), .int .i64 y.x.f0, .bool (!y.x.f1), .int .i64 y.x.f2.f0, .int .i64 y.x.f2.f1, .int .i64 y.x.f2.f2, .string y.x.f2.f3, .slice y.a4 y.x.f2.f4.length y.c4, .slice y.a5 y.x.f2.f5.length y.c5] 67)))
      have BXA := A_ (blk_alloc BX3.out (.cells #[.int .i64 (k : Int), .int .i64 y.x.f0, .bool (!y.x.f1), .int .i64 y.x.f2.f0, .int .i64 y.x.f2.f1, .int .i64 y.x.f2.f2, .string y.x.f2.f3, .slice y.a4 y.x.f2.f4.length y.c4, .slice y.a5 y.x.f2.f5.length y.c5] 67))
      have HN9 := A_ (show n ≤ 90000 from by have h1 := chgs_len s k; rw [← HPS.out, List.length_map] at h1; have := HNX.out; have := HL.out; omega)
      clear HC3 HB3 BX3 FY3 BY3
      go_wp2_with (first | ((with_reducible refine gate_dst (N := 48) rfl ?_); refine wpList_append_own (w3.alloc (.cells #[.int .i64 (k : Int), .int .i64 y.x.f0, .bool (!y.x.f1), .int .i64 y.x.f2.f0, .int .i64 y.x.f2.f1, .int .i64 y.x.f2.f2, .string y.x.f2.f3, .slice y.a4 y.x.f2.f4.length y.c4, .slice y.a5 y.x.f2.f5.length y.c5] 67)) rfl (.tmp 37) (.tmp 47) 60 rfl (w.heap.size + 1) 67 i0 (.agg #[.int .i64 0, .int .i64 0, .bool false, .int .i64 0, .int .i64 0, .int .i64 0, .string ⟨#[]⟩, .slice none 0 0, .slice none 0 0]) 9 112 Try.underlying60 HI.out.1 HI.out.2.1 HI.out.2.2.1 HI.out.2.2.2 rfl (by decide) (.slice (some ⟨g, 0, none⟩) n c) n (flatC xs) rfl HOA.out ⟨w3.heap.size, 0, none⟩ 1 1 [.int .i64 (k : Int), .int .i64 y.x.f0, .bool (!y.x.f1), .int .i64 y.x.f2.f0, .int .i64 y.x.f2.f1, .int .i64 y.x.f2.f2, .string y.x.f2.f3, .slice y.a4 y.x.f2.f4.length y.c4, .slice y.a5 y.x.f2.f5.length y.c5] rfl rfl (cells_new _ _ _) (by simp [Value.oneCell']) (by have := HN9.out; simp only [maxLen]; omega) (by have := HN9.out; omega) HSA.out ?_))
      intro v' w8 hown hgrow _
      obtain ⟨g', c', rfl⟩ := ownsRow_succ hown
      have hgb : ∀ r, (Value.slice (some ⟨g, 0, none⟩) n c).ownBlock = some r → w.heap.size + 1 ≤ r := fun r hr => own_base HOA.out r hr
      have HKU := KeepU.grown (B := w.heap.size + 1) hgrow HOA.out (Nat.le_refl _) HSA.out (by decide)
      have HC8 := A_ (show CRow (w.heap.size + 1) (.slice (some ⟨g', 0, none⟩) (n + 1) c') (xs ++ [(k, y)]) w8 from ⟨by rw [List.length_append, flatC_snoc, ← HNX.out]; exact hown, fun q hq => by
       rcases List.mem_append.1 hq with hq | hq
       · exact (HCA.out.2 q hq).keep HKU
       · obtain rfl := List.mem_singleton.1 hq
         exact FYA.out.keep HKU⟩)
      have HB8 := A_ (HBA.out.trans ((RowKit.Below.refl w.heap.size (w3.alloc (.cells #[.int .i64 (k : Int), .int .i64 y.x.f0, .bool (!y.x.f1), .int .i64 y.x.f2.f0, .int .i64 y.x.f2.f1, .int .i64 y.x.f2.f2, .string y.x.f2.f3, .slice y.a4 y.x.f2.f4.length y.c4, .slice y.a5 y.x.f2.f5.length y.c5] 67))).grown hgrow HBA.out.size (fun r hr => by have := hgb r hr; omega)))
      have BX8 := A_ ((hgrow.block w.heap.size (blk_lt BXA.out) (fun e => by have := hgb _ e.symm; omega)).trans BXA.out)
      have HNX8 := A_ (show n + 1 = (xs ++ [(k, y)]).length by rw [List.length_append, ← HNX.out]; rfl)
      have HPS8 := A_ (show (xs ++ [(k, y)]).map strC = chgs s (k + 1) from by rw [chgs_succ, HCH.out, if_pos rfl, List.map_append, HPS.out, PLY.out]; rfl)
      clear hown hgrow hgb HKU p0 p1 p2 p3 p4 p5 p6 p7 hlw3
      go_wp2
      exact ⟨⟨k + 1, g', c', n + 1, _, by omega, by omega, rfl, by first | (rw [HWK.out]; simp; done) | (simp; done), HNX8, HB8, BX8, HC8, HPS8⟩, by first | (rw [HWK.out]; simp [intOf]; omega) | (simp [intOf]; omega)⟩
  · obtain rfl : nN = k := by omega
    have HPS2 := A_ (show xs.map strC = chgs s s.now.length from by rw [HPS.out]; congr 1; exact HNN.out.2.2.1.symm)
    have HC2 := A_ (CRow.lower HC.out (Nat.le_succ _))
    clear HPS HC
    go_wp2
    go_ret
    exact ⟨g, c, n, xs, rfl, HNX.out, HPS2.out, HC2.out, HB.out⟩
set_option maxHeartbeats 2000000 in
set_option maxRecDepth 100000 in
theorem ref_dirty (b : Nat → Prop) (R : RL) (s : WS) (w : World) (h : RefIs b R s w) (hp : PlW s) (h0 : 0 < R.rsN.length) (h9 : R.rsN.length ≤ 80000) (h9b : R.rsB.length ≤ 80000) :
 Calls Try.prog 36 #[.agg (R.cells s)] w fun e w' => e = .returned (.bool (dirtyB s)) ∧ RowKit.Below w.heap.size w w' := by
 have hu49 := Try.underlying49
 have hu51 := Try.underlying51
 have hu28 := Try.underlying28
 have hu60 := Try.underlying60
 have hb1 := below_alloc (RowKit.Below.refl w.heap.size w) (.cells #[.slice (some ⟨R.gN, 0, none⟩) R.rsN.length R.cN, .int .i64 s.rn, .int .i64 s.rg, .slice (some ⟨R.gB, 0, none⟩) R.rsB.length R.cB, .int .i64 s.bn, .int .i64 s.bg, .int .i64 s.most] 51)
 have KC := A_ (ref_changes b R s _ (h.below hb1) hp h0 h9 h9b)
 have HB1 := A_ hb1
 have BX := A_ (blk_new w (.cells #[.slice (some ⟨R.gN, 0, none⟩) R.rsN.length R.cN, .int .i64 s.rn, .int .i64 s.rg, .slice (some ⟨R.gB, 0, none⟩) R.rsB.length R.cB, .int .i64 s.bn, .int .i64 s.bg, .int .i64 s.most] 51))
 obtain ⟨r, hr⟩ : ∃ r, r = dirtyB s := ⟨_, rfl⟩
 rw [← hr]
 have HR := A_ hr
 clear h hp h0 h9 h9b hb1 hr
 simp only [RL.cells] at KC ⊢
 obtain ⟨u0, u1, u2, u3, u4, u5, u6⟩ := box7 BX.out
 go_enter Try.func36, Try.ntmps36
 go_wp2_with fail
 refine Calls.mono KC.out ?_
 rintro e w1 ⟨g, c, n, xs, rfl, hn, hxs, hC, hb⟩
 have HB2 := A_ (below_step HB1.out hb)
 replace BX := A_ (blk_below BX.out hb)
 have HX := A_ (And.intro hn hxs)
 clear hb hC hn hxs KC u0 u1 u2 u3 u4 u5 u6
 obtain ⟨u0, u1, u2, u3, u4, u5, u6⟩ := box7 BX.out
 have hlx := blk_lt BX.out
 by_cases hz : n = 0
 · subst hz
   have hE : r = (!(s.rn == s.bn) || !(s.rg == s.bg)) := by
    have h0 : chgs s s.now.length = [] := by rw [← HX.out.2, List.length_eq_zero_iff.1 HX.out.1.symm]; rfl
    rw [HR.out]
    unfold dirtyB
    rw [h0]
    simp
   have HE := A_ hE
   clear hE HR
   go_wp2
   go_ret
   exact ⟨ret_b (by rw [HE.out]), HB2.out⟩
 · have hE : r = true := by
    have h0 : (chgs s s.now.length).isEmpty = false := by
     rw [← HX.out.2]
     cases xs with
     | nil => exact absurd HX.out.1 hz
     | cons a l => rfl
    rw [HR.out]
    unfold dirtyB
    rw [h0]
    rfl
   subst hE
   have hn0 : 0 < n := by omega
   have hn1 : decide ((0 : Int) < (n : Int)) = true := by simp; omega
   clear hz HR
   go_wp2
   go_ret
   exact ⟨rfl, HB2.out⟩
end Go.Proofs.Ytogpnkkoablmiaa.V
end
