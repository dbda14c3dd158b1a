/- Parts of the proof: what the theorem reaches, put together by a program of this session. -/
import Derived.Lib.AppendIntMem
import Derived.Lib.OwnBridge
import Derived.WalkLawsBesides
import Derived.Test.YtogpnkkoablmiaaBY10
import Derived.Test.YtogpnkkoablmiaaBY14
section
namespace Go.Proofs.Ytogpnkkoablmiaa.V
open Go.Shelf Go.RowKit Go.Lib Go.Sort Go.Proofs.Ytogpnkkoablmiaa.Q Go.Proofs.YtogpnkkoablmiaaW.PrintWords Go.Proofs.YtogpnkkoablmiaaW.PrintLast Go.Proofs.YtogpnkkoablmiaaW.PrintMore
set_option linter.unusedVariables false
set_option linter.unusedSimpArgs false
theorem bless : ∀ (x y : List UInt8), Op.bytesLess x y = decide (x < y)
 | [], [] => by simp [Op.bytesLess]
 | _ :: _, [] => by simp [Op.bytesLess]
 | [], _ :: _ => by simp [Op.bytesLess]
 | a :: x, b :: y => by
   rw [Op.bytesLess, bless x y]
   by_cases h1 : a < b
   · simp [h1, List.cons_lt_cons_iff]
   · by_cases h2 : b < a
     · have : a ≠ b := by rintro rfl; exact h1 h2
       simp [h1, h2, List.cons_lt_cons_iff, this]
     · have : a = b := by
        apply UInt8.toNat_inj.1
        simp only [UInt8.lt_iff_toNat_lt] at h1 h2
        omega
       subst this
       simp [h1, List.cons_lt_cons_iff]
theorem ltK_eq (a b : ByteArray) : ltK a b = ltStr a.toList b.toList := by rw [ltK, bless]; rfl
theorem ltK_swo : SWO (fun x y : RP => ltK x.p.f0 y.p.f0) where
 irrefl x := by rw [ltK_eq]; exact swo_ltStr.irrefl _
 trans x y z := by rw [ltK_eq, ltK_eq, ltK_eq]; exact swo_ltStr.trans _ _ _
 ntrans x y z := by rw [ltK_eq, ltK_eq, ltK_eq]; exact swo_ltStr.ntrans _ _ _
def cmpK (a b : ByteArray) : Int := if ltK a b = true then -1 else if ltK b a = true then 1 else 0
def cfK (x y : RP) : Int := cmpK x.p.f0 y.p.f0
theorem cfK_lt : ltOf cfK = fun x y : RP => ltK x.p.f0 y.p.f0 := by
 funext x y
 unfold ltOf cfK cmpK
 cases h1 : ltK x.p.f0 y.p.f0 <;> cases h2 : ltK y.p.f0 x.p.f0 <;> rfl
theorem ltK_asymm {a b : ByteArray} (h : ltK a b = true) : ltK b a = false := by
 rw [ltK_eq] at h ⊢
 exact SWO.asymmA swo_ltStr h
theorem ltK_tri (a b : ByteArray) : ltK a b = true ∨ a = b ∨ ltK b a = true := by
 cases h1 : ltK a b with
 | true => exact .inl rfl
 | false =>
   cases h2 : ltK b a with
   | true => exact .inr (.inr rfl)
   | false =>
     refine .inr (.inl (ba_inj ?_))
     rw [ltK, bless] at h1 h2
     exact List.le_antisymm (of_decide_eq_false h2) (of_decide_eq_false h1)
set_option maxHeartbeats 4000000 in
theorem cmpStr_calls (a b : ByteArray) (w : World) : Calls Try.prog 156 #[.string a, .string b] w fun e w' => e = .returned (.int .i64 (cmpK a b)) ∧ w' = w := by
 have HC := Aside0.mk (show cmpK a b = if ltK a b = true then -1 else if ltK b a = true then 1 else 0 from rfl)
 generalize cmpK a b = c at *
 have e178 : ∀ (s : ByteArray) (w : World), Calls Try.prog 178 #[.string s] w fun e w' => e = .returned (.bool false) ∧ w' = w := by
  intro s w
  go_enter Try.func178, Try.ntmps178
  go_wp2
  go_ret
  simp
 have E := Aside0.mk e178
 clear e178
 rcases ltK_tri a b with h2 | rfl | h2
 · have hb1 : Op.bytesLess a.toList b.toList = true := h2
   have HX := Aside0.mk h2
   clear h2
   go_enter Try.func156, Try.ntmps156
   go_wp2_with (go_at_call 178; refine Calls.mono (E.out _ _) ?_; rintro e w1 ⟨rfl, rfl⟩)
   go_ret
   exact ⟨ret_i (by rw [HC.out, HX.out]; rfl), rfl⟩
 · have h2 : ltK a a = false := by rw [ltK_eq]; exact swo_ltStr.irrefl _
   have hb1 : Op.bytesLess a.toList a.toList = false := h2
   have HX := Aside0.mk h2
   clear h2
   go_enter Try.func156, Try.ntmps156
   go_wp2_with (go_at_call 178; refine Calls.mono (E.out _ _) ?_; rintro e w1 ⟨rfl, rfl⟩)
   go_ret
   exact ⟨ret_i (by rw [HC.out, HX.out]; rfl), rfl⟩
 · have h3 := ltK_asymm h2
   have hb1 : Op.bytesLess a.toList b.toList = false := h3
   have hne : ¬ a.toList = b.toList := fun h => by
    obtain rfl := ba_inj h
    rw [h3] at h2
    cases h2
   have hne2 : (a.toList == b.toList) = false := by simp [hne]
   have HX := Aside0.mk (And.intro h2 h3)
   clear h2 h3
   go_enter Try.func156, Try.ntmps156
   go_wp2_with (go_at_call 178; refine Calls.mono (E.out _ _) ?_; rintro e w1 ⟨rfl, rfl⟩)
   go_ret
   exact ⟨ret_i (by rw [HC.out, HX.out.1, HX.out.2]; rfl), rfl⟩
theorem grow_two (w : World) (o1 o2 : Obj) : (w.alloc o1).alloc o2 = grow (w.drewN 0) #[o1, o2] := by
 rw [alloc_eq_grow, alloc_eq_grow, grow_grow]; rfl
set_option maxHeartbeats 4000000 in
theorem clo155 (x y : RP) (w : World) : Calls Try.prog 155 #[.agg (encP x).toArray, .agg (encP y).toArray] w fun e w' => e = .returned (.int .i64 (cfK x y)) ∧ ∃ q os', w' = grow (w.drewN q) os' := by
 have HC := Aside0.mk (cmpStr_calls x.p.f0 y.p.f0)
 have HK := Aside0.mk (show cfK x y = cmpK x.p.f0 y.p.f0 from rfl)
 generalize cfK x y = c at *
 generalize cmpK x.p.f0 y.p.f0 = c' at *
 unfold encP
 go_enter Try.func155, Try.ntmps155
 go_wp2_with (go_at_call 156; refine Calls.mono (HC.out _) ?_; rintro e w1 ⟨rfl, rfl⟩)
 go_ret
 exact ⟨ret_i HK.out.symm, 0, _, grow_two _ _ _⟩
theorem cmpLays155 (blk off size : Nat) (w : World) : CmpLays Try.prog 155 #[] encP 7 cfK blk off size w := fun m os dk hs x y => clo155 x y _
def sameK (x y : RP) : Bool := decide (x.p.f0.data = y.p.f0.data)
def EqLays (P : Program) (g : Nat) (cb : Array Value) (enc : RP → List Value) (k : Nat) (ef : RP → RP → Bool) (blk off size : Nat) (w : World) : Prop :=
 ∀ (m : Nat) (os : Array Obj) (dk : Array RP), dk.size = size → ∀ x y : RP,
  Calls P g (#[.agg (enc x).toArray, .agg (enc y).toArray] ++ cb) (sortWorldK enc k w blk off m dk os) fun e w' => e = .returned (.bool (ef x y)) ∧ ∃ q os', w' = grow ((sortWorldK enc k w blk off m dk os).drewN q) os'
theorem swk_eqf {P : Program} {enc : RP → List Value} {k : Nat} {w0 W : World} {blk off : Nat} {dk : Array RP} {g : Nat} {cb : Array Value} {ef : RP → RP → Bool} {size : Nat} (h : SWK enc k w0 blk off dk W) (hC : EqLays P g cb enc k ef blk off size w0) (hs : dk.size = size) (x y : RP) (n : Nat) (os : Array Obj) :
 Calls P g (#[.agg (enc x).toArray, .agg (enc y).toArray] ++ cb) (grow (W.drewN n) os) fun e w' => e = .returned (.bool (ef x y)) ∧ ∃ q os', w' = grow ((grow (W.drewN n) os).drewN q) os' := by
 obtain ⟨m, os0, hw⟩ := h.grown n os
 rw [hw]
 exact hC m os0 dk hs x y
set_option maxHeartbeats 4000000 in
theorem clo158 (x y : RP) (w : World) : Calls Try.prog 158 #[.agg (encP x).toArray, .agg (encP y).toArray] w fun e w' => e = .returned (.bool (sameK x y)) ∧ ∃ q os', w' = grow (w.drewN q) os' := by
 have HK := Aside0.mk (show sameK x y = decide (x.p.f0.data = y.p.f0.data) from rfl)
 generalize sameK x y = c at *
 unfold encP
 by_cases h : x.p.f0 = y.p.f0
 · have HR := Aside0.mk (show c = true by rw [HK.out, h]; simp)
   rw [h]
   clear h HK
   go_enter Try.func158, Try.ntmps158
   go_wp2
   go_ret
   exact ⟨by rw [HR.out]; first | rfl | simp, 0, _, grow_two _ _ _⟩
 · have HR := Aside0.mk (show c = false by rw [HK.out]; exact decide_eq_false (fun e => h (ByteArray.ext e)))
   have h' : ¬ x.p.f0.toList = y.p.f0.toList := fun e => h (ba_inj e)
   clear h HK
   go_enter Try.func158, Try.ntmps158
   go_wp2
   go_ret
   exact ⟨by rw [HR.out]; first | rfl | simp [*], 0, _, grow_two _ _ _⟩
theorem eqLays158 (blk off size : Nat) (w : World) : EqLays Try.prog 158 #[] encP 7 sameK blk off size w := fun m os dk hs x y => clo158 x y _
noncomputable def compI (ef : RP → RP → Bool) (d : Array RP) (r : Nat) : List RP := ((List.range r).filter (fun j => decide (j = 0) || !(ef d[j]! d[j - 1]!))).map (fun j => d[j]!)
theorem compI_succ (ef : RP → RP → Bool) (d : Array RP) (r : Nat) : compI ef d (r + 1) = if (decide (r = 0) || !(ef d[r]! d[r - 1]!)) = true then compI ef d r ++ [d[r]!] else compI ef d r := by
 unfold compI
 rw [List.range_succ, List.filter_append, List.map_append]
 cases h : (decide (r = 0) || !(ef d[r]! d[r - 1]!))
 · simp only [List.filter_cons, h]; simp
 · simp only [List.filter_cons, h]; simp
theorem compI_all (ef : RP → RP → Bool) (d : Array RP) : ∀ r, (∀ j, 0 < j → j < r → ef d[j]! d[j - 1]! = false) → compI ef d r = seg d 0 r := by
 intro r
 induction r with
 | zero => intro _; rw [seg_nil d (Nat.le_refl 0)]; rfl
 | succ r ih =>
   intro h
   rw [compI_succ, ih (fun j h1 h2 => h j h1 (by omega)), seg_app d (show 0 ≤ r by omega) (show r ≤ r + 1 by omega), seg_one, if_pos]
   by_cases h0 : r = 0
   · simp [h0]
   · rw [h r (by omega) (by omega)]; simp
structure CI (ef : RP → RP → Bool) (d : Array RP) (r kk : Nat) (dk : Array RP) : Prop where
 size : dk.size = d.size
 lt : kk < r
 low : seg dk 0 kk = compI ef d r
 high : ∀ t, kk ≤ t → dk[t]! = d[t]!
theorem CI.start {ef : RP → RP → Bool} {d : Array RP} {k : Nat} (h0 : 0 < k) (h : ∀ j, 0 < j → j < k → ef d[j]! d[j - 1]! = false) (hd : ef d[k]! d[k - 1]! = true) : CI ef d (k + 1) k d :=
 ⟨rfl, by omega, by rw [compI_succ, if_neg (by simp [hd]; omega), compI_all ef d k h], fun _ _ => rfl⟩
theorem CI.skip {ef : RP → RP → Bool} {d : Array RP} {r kk : Nat} {dk : Array RP} (h : CI ef d r kk dk) (hd : ef d[r]! d[r - 1]! = true) : CI ef d (r + 1) kk dk :=
 ⟨h.size, by have := h.lt; omega, by rw [compI_succ, if_neg (by have := h.lt; simp [hd]; omega), h.low], h.high⟩
theorem CI.keep {ef : RP → RP → Bool} {d : Array RP} {r kk : Nat} {dk : Array RP} (h : CI ef d r kk dk) (hr : r < d.size) (hd : ef d[r]! d[r - 1]! = false) : CI ef d (r + 1) (kk + 1) (dk.setIfInBounds kk d[r]!) := by
 have hl := h.lt
 have hg : ∀ t, (dk.setIfInBounds kk d[r]!)[t]! = if t = kk then d[r]! else dk[t]! := by
  intro t
  simp only [getElem!_def, Array.getElem?_setIfInBounds]
  by_cases e : t = kk
  · subst e
    have : t < dk.size := by rw [h.size]; omega
    simp [this]
  · simp [e, Ne.symm e]
 refine ⟨by simp [h.size], by omega, ?_, fun t ht => by rw [hg, if_neg (by omega)]; exact h.high t (by omega)⟩
 rw [compI_succ, if_pos (by simp [hd]), ← h.low, seg_app _ (show 0 ≤ kk by omega) (show kk ≤ kk + 1 by omega), seg_one, hg kk, if_pos rfl,
  seg_eq (d := dk.setIfInBounds kk d[r]!) (d' := dk) (a := 0) (b := kk) (a' := 0) (b' := kk) rfl (fun i hi => by rw [hg, if_neg (by omega)])]
theorem setMany_one (enc : RP → List Value) (k : Nat) (hk : ∀ x, (enc x).length = k) (d : Array RP) (i : Nat) (x : RP) (hi : i < d.size) :
 setMany (flatK enc k d) (i * k) (enc x) = flatK enc k (d.setIfInBounds i x) := by
 refine ext_get! (by simp) fun t ht => ?_
 have ht' : t < d.size * k := by simpa using ht
 have k0 : 0 < k := by rcases Nat.eq_zero_or_pos k with h | h; · subst h; simp at ht'
                       · exact h
 rw [get_setMany _ _ _ t (by simpa using ht'), get_flatK _ _ _ t ht', get_flatK _ _ _ t (by simpa using ht'), hk]
 by_cases b : t / k = i
 · rw [if_pos ((blk_iff k i t k0).2 b), ← b, getElem!_set_same _ _ _ (by rw [b]; exact hi)]
   congr 1
   rw [Nat.mod_eq_sub_div_mul]
 · rw [if_neg (fun h => b ((blk_iff k i t k0).1 h))]
   congr 2
   simp only [getElem!_def, Array.getElem?_setIfInBounds, Ne.symm b, if_false]
theorem swk_set1 {enc : RP → List Value} {k : Nat} {w0 W : World} {blk off : Nat} {dk : Array RP} (h : SWK enc k w0 blk off dk W) (hk : ∀ x, (enc x).length = k) (hblk : blk < w0.heap.size) (i : Nat) (hi : i < dk.size) (x : RP) :
 SWK enc k w0 blk off (dk.setIfInBounds i x) (W.setCells blk (off + i * k) (enc x)) := by
 obtain ⟨n, os, rfl⟩ := h
 refine ⟨n, os, ?_⟩
 unfold sortWorldK
 rw [setCells_grow os blk _ _ _ (by show blk < (putRowK enc k _ blk off dk).heap.size; rw [size_putRowK]; exact hblk)]
 congr 1
 unfold putRowK
 rw [setCells_putRow _ _ _ _ _ _ (by rw [hk, size_flatK]; exact rowK_bnd dk k i hi), setMany_one enc k hk dk i x hi]
theorem swk_below {enc : RP → List Value} {k : Nat} {w0 W : World} {blk off : Nat} {dk : Array RP} (h : SWK enc k w0 blk off dk W) (B : Nat) (hB : B ≤ blk) (hblk : blk < w0.heap.size) : RowKit.Below B w0 W := by
 obtain ⟨n, os, rfl⟩ := h
 unfold sortWorldK
 have h1 : RowKit.Below B w0 (putRowK enc k (Sort.ahead w0 n) blk off dk) :=
  ⟨rfl, rfl, rfl, by simp [putRowK, putRow, mapBlock, Sort.ahead], fun j hj => by
   simp [putRowK, putRow, mapBlock, Sort.ahead, Array.getElem?_modify, show blk ≠ j by omega]⟩
 exact h1.trans (Lib.below_grow B (putRowK enc k (Sort.ahead w0 n) blk off dk) (by rw [size_putRowK]; show B ≤ w0.heap.size; omega) 0 os)
theorem below_setCells {B b : Nat} {w0 : World} (hb : B ≤ b) : ∀ (vs : List Value) (o : Nat) (W : World), RowKit.Below B w0 W → RowKit.Below B w0 (W.setCells b o vs)
 | [], _, _, h => h
 | v :: r, o, W, h => below_setCells hb r (o + 1) _ (h.setCell hb v)
structure FamC (P : Program) (k : Nat) (zc : Array Value) : Prop where
 f157 : P.funcs[157]? = some Try.f157
 vE : ∀ w, ∃ z, (zeroValue 89).run P w = .ok z w ∧ z.cells = zc
 zk : zc.size = k
 z1 : ∀ v ∈ zc, v.oneCell' = true
theorem famC : FamC Try.prog 7 #[.string ⟨#[]⟩, .int .i64 0, .int .i64 0, .int .i64 0, .string ⟨#[]⟩, .slice none 0 0, .slice none 0 0] where
 f157 := by kernel_rfl
 vE := fun _ => ⟨.agg #[.string ⟨#[]⟩, .int .i64 0, .int .i64 0, .int .i64 0, .string ⟨#[]⟩, .slice none 0 0, .slice none 0 0], by kernel_rfl, by kernel_rfl⟩
 zk := rfl
 z1 := by intro v hv; simp at hv; rcases hv with rfl | rfl | rfl | rfl <;> rfl
theorem clear_rows {P : Program} {k : Nat} {zc : Array Value} (C : FamC P k zc) (ht : P.underlying 33 = some (.slice 89)) (ty : TypeId) (w : World) (b o n c : Nat) (hn : 0 < n)
 (hc : ∀ j, j < n * k → (w.cell? ⟨b, o + j, none⟩).isSome = true) (hf : ∀ j, j < n * k → w.frozen? ⟨b, o + j, none⟩ = false) :
 (Builtin.clear_ #[33] ty #[.slice (some ⟨b, o, none⟩) n c]).run P w = .ok (.tuple #[]) (w.setCells b o (Builtin.zeroCells zc n).toList) := by
 obtain ⟨z, hz, hzc⟩ := C.vE w
 have hlen : (Builtin.zeroCells zc n).toList.length = n * k := by simp [Builtin.zeroCells, C.zk]
 have hst := run_storeCells_cells (P := P) b o (Builtin.zeroCells zc n).toList 0 w (by rw [hlen]; simpa using hc) (by rw [hlen]; simpa using hf) (by
  intro v hv'
  obtain ⟨i, hi, rfl⟩ := List.mem_iff_getElem.1 hv'
  simp only [Builtin.zeroCells, Array.getElem_toList, Array.getElem_map]
  have hk0 : 0 < zc.size := by
   rcases Nat.eq_zero_or_pos zc.size with h | h
   · simp [Builtin.zeroCells, h] at hi
   · exact h
  rw [getElem!_pos zc _ (Nat.mod_lt _ hk0)]
  exact C.z1 _ (Array.getElem_mem _))
 simp only [Nat.add_zero] at hst
 obtain ⟨m, rfl⟩ : ∃ m, n = m + 1 := ⟨n - 1, by omega⟩
 simp [Builtin.clear_, run_underlying ht, hz, hzc, hst]
set_option maxHeartbeats 8000000 in
set_option maxRecDepth 1000000 in
theorem compact_any {P : Program} {k : Nat} {zc : Array Value} (L : FamP P k) (C : FamC P k zc) (enc : RP → List Value) (ef : RP → RP → Bool) (g : Nat) (cb : Array Value) (eg : ∀ args w, (callFunc g args).run P w = .ok (.enter g args) w) (blk off cap : Nat) (d : Array RP) (w0 : World) (R : RowK enc k w0 blk off d) (hcmp : EqLays P g cb enc k ef blk off d.size w0) (hsz : d.size < 4611686018427387904) (hcap : d.size ≤ cap) (hcap2 : cap ≤ 9223372036854775807) (w : World) (S : SWK enc k w0 blk off d w) :
 Calls P 157 #[.slice (some ⟨blk, off, none⟩) d.size cap, .func (.func g) #[] cb] w fun e w' => ∃ dd : Array RP, e = .returned (.slice (some ⟨blk, off, none⟩) dd.size cap) ∧ dd.toList = compI ef d d.size ∧ HoldsK enc k w' blk off dd ∧ ∀ B, B ≤ blk → RowKit.Below B w0 w' := by
 have mixed := L.mixed; have t0 := L.t0; have a0 := L.a0; have z0 := L.z0; have v0 := L.v0; have t3 := L.t3; have a3 := L.a3; have z3 := L.z3; have v3 := L.v3; have t4 := L.t4; have a4 := L.a4; have z4 := L.z4; have v4 := L.v4; have t33 := L.t33; have a33 := L.a33; have z33 := L.z33; have v33 := L.v33; have t191 := L.t191; have a191 := L.a191; have z191 := L.z191; have v191 := L.v191; have t203 := L.t203; have a203 := L.a203; have z203 := L.z203; have v203 := L.v203; have aE := L.aE; have zE := L.zE
 have u3 := run_underlying L.t3; have u203 := run_underlying L.t203
 have u33 := run_underlying L.t33
 have FG := C.f157
 have S0 : Aside (SWK enc k w0 blk off d w) := S
 have HC : Aside _ := hcmp
 have FIN := Lib.hid (fun (W : World) (dk : Array RP) (m : Nat) (hS : SWK enc k w0 blk off dk W) (hm : m ≤ dk.size) (hds : dk.size = d.size) (hl : seg dk 0 m = compI ef d d.size) => (show ∃ dd : Array RP, dd.size = m ∧ dd.toList = compI ef d d.size ∧ HoldsK enc k W blk off dd by
  refine ⟨(seg dk 0 m).toArray, by simp [seg_len], by rw [← hl], fun j hj => ?_⟩
  have hsz : ((seg dk 0 m).toArray).size = m := by simp [seg_len]
  rw [size_flatK, hsz] at hj
  have hH := hS.holds R.hblk R.hH (by rw [hds])
  have hj2 : j < dk.size * k := Nat.lt_of_lt_of_le hj (Nat.mul_le_mul_right _ hm)
  have h2 := hH j (by rw [size_flatK]; exact hj2)
  have k0 : 0 < k := by rcases Nat.eq_zero_or_pos k with h | h; · subst h; simp at hj
                        · exact h
  have h3 : j / k < m := (Nat.div_lt_iff_lt_mul k0).2 hj
  rw [get_flatK _ _ _ _ (by rw [hsz]; exact hj)]
  rw [get_flatK _ _ _ _ hj2] at h2
  rw [show ((seg dk 0 m).toArray)[j / k]! = dk[j / k]! by
   rw [getElem!_pos _ _ (by rw [hsz]; exact h3)]
   rw [List.getElem_toArray, seg_get]
   simp]
  exact h2))
 clear S hcmp
 by_cases h2 : d.size < 2
 · have h2z : (d.size : Int) < 2 := by omega
   go_enter FG, Try.ntmps157
   go_wp2
   go_ret
   obtain ⟨dd, e1, e2, e3⟩ := FIN.out w d d.size S0.out (Nat.le_refl _) rfl (compI_all ef d d.size (fun j h1 h3 => by omega)).symm
   exact ⟨dd, by rw [e1]; rfl, e2, e3, fun B hB => swk_below S0.out B hB R.hblk⟩
 · have h2z : ¬ (d.size : Int) < 2 := by omega
   go_enter FG, Try.ntmps157
   go_wp2
   go_loopg [5] (d.size) (fun kx s5 wr => ∃ k0 : Nat, s5 = .int .i64 k0 ∧ 1 ≤ k0 ∧ k0 ≤ d.size ∧ d.size - k0 ≤ kx ∧ Hid (∀ j, 0 < j → j < k0 → ef d[j]! d[j - 1]! = false) ∧ Aside (SWK enc k w0 blk off d wr))
   case atStart => exact ⟨1, rfl, by omega, by omega, by omega, Lib.hid (fun j h1 h3 => by omega), S0⟩
   case round => as_aux_lemma =>
    clear S0
    obtain ⟨k0, rfl, hk1, hk2, hkx, HN, S1⟩ := hrel
    by_cases hlt : k0 < d.size
    · cases HB : ef d[k0]! d[k0 - 1]! with
      | false =>
        have q1 : (1 : Int) ≤ (k0 : Int) := by omega
        have ea1 : ((k0 : Int)).toNat = k0 := by omega
        have pa1 : (0 : Int) ≤ (k0 : Int) := by omega
        have ba1 : (k0 : Int) < (d.size : Int) := by omega
        have ra1 : IntKind.i64.wrap ((k0 : Int)) = (k0 : Int) := by rw [IntKind.wrap_i64]; omega
        have ec1 : ((k0 : Int) - 1).toNat = k0 - 1 := by omega
        have pc1 : (0 : Int) ≤ (k0 : Int) - 1 := by omega
        have bc1 : (k0 : Int) - 1 < (d.size : Int) := by omega
        have rc1 : IntKind.i64.wrap ((k0 : Int) - 1) = (k0 : Int) - 1 := by rw [IntKind.wrap_i64]; omega
        obtain ⟨x1, hx1⟩ : ∃ x, x = d[k0]! := ⟨_, rfl⟩
        obtain ⟨y1, hy1⟩ : ∃ x, x = d[k0 - 1]! := ⟨_, rfl⟩
        have l1a := S1.out.ld R (by omega) P (k0) (by omega)
        have l1b := S1.out.ld R (by omega) P (k0 - 1) (by omega)
        rw [← hx1] at l1a
        rw [← hy1] at l1b
        have hc1 := swk_eqf S1.out HC.out (by omega) x1 y1
        have hv1 : ef x1 y1 = false := by rw [hx1, hy1]; exact HB
        have HB1 := Lib.hid HB
        clear HB hx1 hy1
        go_wp2_with fail
        go_quiet_grown (first | (go_at_fn g; refine Calls.grown_of (hc1 _ _)))
        have S2 : Aside (SWK enc k w0 blk off d (grow (wr.drewN nq) osq)) := S1.out.grown nq osq
        clear l1a l1b hc1 S1
        generalize grow (wr.drewN nq) osq = w2 at S2 ⊢
        clear nq osq
        try rw [hv1]
        clear hv1
        go_wp2
        go_roundg (d.size - (k0 + 1))
        case measure => omega
        case rel => exact ⟨k0 + 1, by first | rfl | go_num, by omega, by omega, by omega, Lib.hid (fun j h1 h3 => by
         rcases Nat.lt_or_ge j k0 with h | h
         · exact HN.out j h1 h
         · obtain rfl : j = k0 := by omega
           exact HB1.out), S2⟩
      | true =>
        have q1 : (1 : Int) ≤ (k0 : Int) := by omega
        have HCI := Lib.hid (CI.start (ef := ef) (d := d) hk1 HN.out HB)
        have ea1 : ((k0 : Int)).toNat = k0 := by omega
        have pa1 : (0 : Int) ≤ (k0 : Int) := by omega
        have ba1 : (k0 : Int) < (d.size : Int) := by omega
        have ra1 : IntKind.i64.wrap ((k0 : Int)) = (k0 : Int) := by rw [IntKind.wrap_i64]; omega
        have ec1 : ((k0 : Int) - 1).toNat = k0 - 1 := by omega
        have pc1 : (0 : Int) ≤ (k0 : Int) - 1 := by omega
        have bc1 : (k0 : Int) - 1 < (d.size : Int) := by omega
        have rc1 : IntKind.i64.wrap ((k0 : Int) - 1) = (k0 : Int) - 1 := by rw [IntKind.wrap_i64]; omega
        obtain ⟨x1, hx1⟩ : ∃ x, x = d[k0]! := ⟨_, rfl⟩
        obtain ⟨y1, hy1⟩ : ∃ x, x = d[k0 - 1]! := ⟨_, rfl⟩
        have l1a := S1.out.ld R (by omega) P (k0) (by omega)
        have l1b := S1.out.ld R (by omega) P (k0 - 1) (by omega)
        rw [← hx1] at l1a
        rw [← hy1] at l1b
        have hc1 := swk_eqf S1.out HC.out (by omega) x1 y1
        have hv1 : ef x1 y1 = true := by rw [hx1, hy1]; exact HB
        have HB1 := Lib.hid HB
        clear HB hx1 hy1
        go_wp2_with fail
        go_quiet_grown (first | (go_at_fn g; refine Calls.grown_of (hc1 _ _)))
        have S2 : Aside (SWK enc k w0 blk off d (grow (wr.drewN nq) osq)) := S1.out.grown nq osq
        clear l1a l1b hc1 S1
        generalize grow (wr.drewN nq) osq = w2 at S2 ⊢
        clear nq osq
        try rw [hv1]
        clear hv1
        have kc1 : k0 < cap := by omega
        go_wp2
        go_loopg [5, 7] (d.size) (fun kx s5 s7 wr => ∃ (kk k2 : Nat) (dk : Array RP), s5 = .int .i64 kk ∧ s7 = .int .i64 k2 ∧ 1 ≤ k2 ∧ k0 + k2 ≤ d.size ∧ k0 ≤ kk ∧ kk < k0 + k2 ∧ d.size - (k0 + k2) ≤ kx ∧ dk.size = d.size ∧ Hid (CI ef d (k0 + k2) kk dk) ∧ Aside (SWK enc k w0 blk off dk wr))
        case atStart => exact ⟨k0, 1, d, rfl, rfl, by omega, by omega, by omega, by omega, by omega, rfl, HCI, S2⟩
        case round => as_aux_lemma =>
         clear S2 HN HCI HB1
         obtain ⟨kk, k2, dk, rfl, rfl, hk3, hk4, hk5, hk6, hkx2, hds, HI, S1⟩ := hrel
         by_cases hlt2 : k0 + k2 < d.size
         · have e2 : (k2 : Int) < ((d.size - k0 : Nat) : Int) := by omega
           have e2b : k2 < d.size - k0 := by omega
           have q2 : (1 : Int) ≤ (k2 : Int) := by omega
           cases HB : ef d[k0 + k2]! d[k0 + k2 - 1]! with
           | true =>
             have HI2 := Lib.hid (HI.out.skip HB)
             rw [← HI.out.high (k0 + k2) (by omega), ← HI.out.high (k0 + k2 - 1) (by omega)] at HB
             have ea2 : ((k2 : Int)).toNat = k2 := by omega
             have pa2 : (0 : Int) ≤ (k2 : Int) := by omega
             have ba2 : (k2 : Int) < ((d.size - k0 : Nat) : Int) := e2
             have ra2 : IntKind.i64.wrap ((k2 : Int)) = (k2 : Int) := by rw [IntKind.wrap_i64]; omega
             have ec2 : ((k2 : Int) - 1).toNat = k2 - 1 := by omega
             have pc2 : (0 : Int) ≤ (k2 : Int) - 1 := by omega
             have bc2 : (k2 : Int) - 1 < ((d.size - k0 : Nat) : Int) := by omega
             have rc2 : IntKind.i64.wrap ((k2 : Int) - 1) = (k2 : Int) - 1 := by rw [IntKind.wrap_i64]; omega
             obtain ⟨x2, hx2⟩ : ∃ x, x = dk[k0 + k2]! := ⟨_, rfl⟩
             obtain ⟨y2, hy2⟩ : ∃ x, x = dk[k0 + k2 - 1]! := ⟨_, rfl⟩
             have l2a := S1.out.ld R (by omega) P (k0 + k2) (by omega)
             have l2b := S1.out.ld R (by omega) P (k0 + k2 - 1) (by omega)
             rw [← hx2] at l2a
             rw [← hy2] at l2b
             rw [show off + (k0 + k2) * k = off + k0 * k + k2 * k by rw [Nat.add_mul]; omega] at l2a
             rw [show off + (k0 + k2 - 1) * k = off + k0 * k + (k2 - 1) * k by rw [show k0 + k2 - 1 = k0 + (k2 - 1) by omega, Nat.add_mul]; omega] at l2b
             have hc2 := swk_eqf S1.out HC.out (by omega) x2 y2
             have hv2 : ef x2 y2 = true := by rw [hx2, hy2]; exact HB
             clear HB hx2 hy2
             go_wp2_with fail
             go_quiet_grown (first | (go_at_fn g; refine Calls.grown_of (hc2 _ _)))
             have S2 : Aside (SWK enc k w0 blk off dk (grow (wr.drewN nq) osq)) := S1.out.grown nq osq
             clear l2a l2b hc2 S1
             generalize grow (wr.drewN nq) osq = w2 at S2 ⊢
             clear nq osq
             try rw [hv2]
             clear hv2
             go_wp2
             go_roundg (d.size - (k0 + (k2 + 1)))
             case measure => omega
             case rel => exact ⟨kk, k2 + 1, dk, rfl, by first | rfl | go_num, by omega, by omega, by omega, by omega, by omega, hds, HI2, S2⟩
           | false =>
             have HI2 := Lib.hid (HI.out.keep hlt2 HB)
             have HU := Lib.hid (HI.out.high (k0 + k2) (by omega))
             rw [← HI.out.high (k0 + k2) (by omega), ← HI.out.high (k0 + k2 - 1) (by omega)] at HB
             have ea2 : ((k2 : Int)).toNat = k2 := by omega
             have pa2 : (0 : Int) ≤ (k2 : Int) := by omega
             have ba2 : (k2 : Int) < ((d.size - k0 : Nat) : Int) := e2
             have ra2 : IntKind.i64.wrap ((k2 : Int)) = (k2 : Int) := by rw [IntKind.wrap_i64]; omega
             have ec2 : ((k2 : Int) - 1).toNat = k2 - 1 := by omega
             have pc2 : (0 : Int) ≤ (k2 : Int) - 1 := by omega
             have bc2 : (k2 : Int) - 1 < ((d.size - k0 : Nat) : Int) := by omega
             have rc2 : IntKind.i64.wrap ((k2 : Int) - 1) = (k2 : Int) - 1 := by rw [IntKind.wrap_i64]; omega
             obtain ⟨x2, hx2⟩ : ∃ x, x = dk[k0 + k2]! := ⟨_, rfl⟩
             obtain ⟨y2, hy2⟩ : ∃ x, x = dk[k0 + k2 - 1]! := ⟨_, rfl⟩
             have l2a := S1.out.ld R (by omega) P (k0 + k2) (by omega)
             have l2b := S1.out.ld R (by omega) P (k0 + k2 - 1) (by omega)
             rw [← hx2] at l2a
             rw [← hy2] at l2b
             rw [show off + (k0 + k2) * k = off + k0 * k + k2 * k by rw [Nat.add_mul]; omega] at l2a
             rw [show off + (k0 + k2 - 1) * k = off + k0 * k + (k2 - 1) * k by rw [show k0 + k2 - 1 = k0 + (k2 - 1) by omega, Nat.add_mul]; omega] at l2b
             have hc2 := swk_eqf S1.out HC.out (by omega) x2 y2
             have hv2 : ef x2 y2 = false := by rw [hx2, hy2]; exact HB
             clear HB hx2 hy2
             go_wp2_with fail
             go_quiet_grown (first | (go_at_fn g; refine Calls.grown_of (hc2 _ _)))
             have S2 : Aside (SWK enc k w0 blk off dk (grow (wr.drewN nq) osq)) := S1.out.grown nq osq
             clear l2a l2b hc2 S1
             generalize grow (wr.drewN nq) osq = w2 at S2 ⊢
             clear nq osq
             try rw [hv2]
             clear hv2
             have l3 : Sem.run P (loadCellsFrom ⟨blk, off + k0 * k + k2 * k, none⟩ 0 k #[]) w2 = .ok (enc dk[k0 + k2]!).toArray w2 := by
              have h := S2.out.load R hds P (k0 + k2) (by omega)
              rw [show off + (k0 + k2) * k = off + k0 * k + k2 * k by rw [Nat.add_mul]; omega] at h
              exact h
             have s3 : Sem.run P (storeCells ⟨blk, off + kk * k, none⟩ (enc dk[k0 + k2]!) 0) w2 = .ok () (w2.setCells blk (off + kk * k) (enc dk[k0 + k2]!)) :=
              stores_of_holds P (S2.out.holds R.hblk R.hH hds) (kk * k) _ (by rw [R.hk, size_flatK]; exact rowK_bnd dk k kk (by omega)) (R.h1 _)
             have S3 : Aside (SWK enc k w0 blk off (dk.setIfInBounds kk dk[k0 + k2]!) (w2.setCells blk (off + kk * k) (enc dk[k0 + k2]!))) := swk_set1 S2.out R.hk R.hblk kk (by omega) _
             have n3 : (enc dk[k0 + k2]!).length = k := R.hk _
             have b3 : (kk : Int) < (d.size : Int) := by omega
             rw [HU.out] at S3
             rw [HU.out] at l3 s3 n3
             generalize enc d[k0 + k2]! = cu at l3 s3 S3 n3
             clear S2
             go_wp2
             go_roundg (d.size - (k0 + (k2 + 1)))
             case measure => omega
             case rel => exact ⟨kk + 1, k2 + 1, _, by first | rfl | go_num, by first | rfl | go_num, by omega, by omega, by omega, by omega, by omega, by rw [Array.size_setIfInBounds]; exact hds, HI2, S3⟩
         · have e2 : ¬ (k2 : Int) < ((d.size - k0 : Nat) : Int) := by omega
           have e2b : ¬ k2 < d.size - k0 := by omega
           have hcl : ∀ ty, (Builtin.clear_ #[33] ty #[.slice (some ⟨blk, off + kk * k, none⟩) (d.size - kk) (cap - kk)]).run P wr = .ok (.tuple #[]) (wr.setCells blk (off + kk * k) (Builtin.zeroCells zc (d.size - kk)).toList) := by
            have hH := S1.out.holds R.hblk R.hH (by omega : dk.size = d.size)
            have hb : kk * k + (d.size - kk) * k = dk.size * k := by rw [← Nat.add_mul, hds]; congr 1; omega
            exact fun ty => clear_rows C L.t33 ty wr blk _ _ _ (by omega) (fun j hj => by have h := (hH (kk * k + j) (by rw [size_flatK]; omega)).1; rw [← Nat.add_assoc] at h; rw [h]; rfl) (fun j hj => by have h := (hH (kk * k + j) (by rw [size_flatK]; omega)).2; rw [← Nat.add_assoc] at h; exact h)
           have kc2 : kk < cap := by omega
           have kc3 : kk < d.size := by omega
           have S3 := Lib.hid (And.intro HI.out S1.out)
           have HH0 := Lib.hid (HI.out)
           have hI := HI.out
           have FF := Lib.hid (FIN.out wr dk kk S1.out (by omega) hds (by have h := hI.low; rw [show k0 + k2 = d.size by omega] at h; exact h))
           clear hI
           go_wp2
           go_ret
           obtain ⟨dd, e1, e2', e3⟩ := FF.out
           refine ⟨dd, by rw [e1]; rfl, e2', fun j hj => ?_, fun B hB => below_setCells hB _ _ _ (swk_below S1.out B hB R.hblk)⟩
           have h4 := e3 j hj
           rw [size_flatK, e1] at hj
           refine ⟨?_, by rw [World.frozen?_setCells]; exact h4.2⟩
           rw [World.cell?_setCells_out blk _ _ _ _ (fun _ _ => by show off + j < _ ∨ _; omega)]
           exact h4.1
    · obtain rfl : k0 = d.size := by omega
      go_wp2
      go_ret
      obtain ⟨dd, e1, e2, e3⟩ := FIN.out _ d d.size S1.out (Nat.le_refl _) rfl (compI_all ef d d.size HN.out).symm
      exact ⟨dd, by rw [e1]; rfl, e2, e3, fun B hB => swk_below S1.out B hB R.hblk⟩
def qK (k : ByteArray) (x : RP) : Bool := decide (x.p.f0.data = k.data)
theorem qK_lt : ∀ k (x y : RP), ltOf cfK x y = true → qK k x = true → qK k y = false := by
 intro k x y h h1
 rw [cfK_lt] at h
 unfold qK at h1 ⊢
 have e1 := of_decide_eq_true h1
 refine decide_eq_false (fun e2 => ?_)
 have : x.p.f0 = y.p.f0 := ByteArray.ext (e1.trans e2.symm)
 have h' : ltK x.p.f0 y.p.f0 = true := h
 rw [this, ltK_eq, swo_ltStr.irrefl] at h'
 cases h'
theorem qK_all (x : RP) : ∃ k, qK k x = true := ⟨x.p.f0, decide_eq_true rfl⟩
theorem cfK_swo : SWO (ltOf cfK) := by rw [cfK_lt]; exact ltK_swo
theorem ins_calls (blk cap : Nat) (d0 : Array RP) (w0 : World) (R : RowK encP 7 w0 blk 0 d0) (hsz : d0.size < 4611686018427387904) (a b : Nat) (d : Array RP) (w : World) (hs : d0.size = d.size) (S : SWK encP 7 w0 blk 0 d w) (h1 : a ≤ b) (h2 : b ≤ d.size) :
 Calls Try.prog 184 #[.slice (some ⟨blk, 0, none⟩) d.size cap, .int .i64 a, .int .i64 b, .func (.func 155) #[] #[]] w fun e w' => e = .returned (.tuple #[]) ∧ ∃ d', Stab qK a b d d' ∧ SortedIn (ltOf cfK) a b d' ∧ SWK encP 7 w0 blk 0 d' w' := by
 have h := AnyQ.insertionSortCmpFunc lays184 7 famTry.aE famTry.zE encP encP_len encP_one cfK 155 #[] blk 0 cap a b d w (enters_of Try.func155 (by kernel_rfl) rfl) (cmpLays155 _ _ _ _) (S.holds R.hblk R.hH (by omega)) (S.lt R.hblk) h1 h2 (by omega)
 refine Calls.mono h ?_
 rintro e w' ⟨he, n, os, rfl⟩
 have hst := insertionSort_stab (lt := ltOf cfK) qK_lt d a b h2
 exact ⟨he, _, hst, (insertionSort_holds cfK_swo d a b h1 h2).2, S.on R.hblk n _ os hst.size⟩
set_option maxHeartbeats 4000000 in
theorem sortStable_calls (blk cap : Nat) (d : Array RP) (w : World) (R : RowK encP 7 w blk 0 d) (hsz : d.size < 4611686018427387904) :
 Calls Try.prog 154 #[.slice (some ⟨blk, 0, none⟩) d.size cap, .func (.func 155) #[] #[]] w fun e w' => e = .returned (.tuple #[]) ∧ ∃ d', Stab qK 0 d.size d d' ∧ SortedIn (ltOf cfK) 0 d.size d' ∧ SWK encP 7 w blk 0 d' w' := by
 have h := stable_any famTry encP cfK 155 #[] qK qK_lt qK_all cfK_swo (enters_of Try.func155 (by kernel_rfl) rfl) blk 0 cap d w R (cmpLays155 _ _ _ _) hsz (fun a b d' w' hs S h1 h2 => ins_calls blk cap d w R hsz a b d' w' hs S h1 h2) d w rfl (SWK.start R.hH)
 have H := Aside0.mk h
 have hsz2 : d.size ≤ 4611686018427387904 := by omega
 clear h
 go_enter Try.func154, Try.ntmps154
 go_wp2_with (go_at_call 177; refine Calls.mono H.out ?_; rintro e w1 ⟨rfl, hS⟩; have HS := Aside0.mk hS; clear hS)
 go_end0
 exact ⟨rfl, HS.out⟩
set_option maxHeartbeats 4000000 in
theorem ins_none (A : Option Addr) (c : Nat) (fv : Value) (w : World) : Calls Try.prog 184 #[.slice A 0 c, .int .i64 0, .int .i64 0, fv] w fun e w' => e = .returned (.tuple #[]) ∧ w' = w := by
 go_enter Try.func184, Try.ntmps184
 go_wp2
 refine wp_loop_rounds 1 ?_
 rw [rounds_succ]
 go_wp2
 go_end0
 exact ⟨rfl, rfl⟩
set_option maxHeartbeats 4000000 in
theorem stable_none (A : Option Addr) (c : Nat) (fv : Value) (w : World) : Calls Try.prog 177 #[.slice A 0 c, .int .i64 0, fv] w fun e w' => e = .returned (.tuple #[]) ∧ w' = w := by
 go_enter Try.func177, Try.ntmps177
 go_wp2
 refine wp_loop_rounds 1 ?_
 rw [rounds_succ]
 go_wp2_with (go_at_call 184; refine Calls.mono (ins_none _ _ _ _) ?_; rintro e w1 ⟨rfl, rfl⟩)
 refine wp_loop_rounds 1 ?_
 rw [rounds_succ]
 go_wp2
 go_end0
 exact ⟨rfl, rfl⟩
set_option maxHeartbeats 4000000 in
theorem sortStable_none (A : Option Addr) (c : Nat) (fv : Value) (w : World) : Calls Try.prog 154 #[.slice A 0 c, fv] w fun e w' => e = .returned (.tuple #[]) ∧ w' = w := by
 go_enter Try.func154, Try.ntmps154
 go_wp2_with (go_at_call 177; refine Calls.mono (stable_none _ _ _ _) ?_; rintro e w1 ⟨rfl, rfl⟩)
 go_end0
 exact ⟨rfl, rfl⟩
set_option maxHeartbeats 4000000 in
theorem compact_none (A : Option Addr) (c : Nat) (fv : Value) (w : World) : Calls Try.prog 157 #[.slice A 0 c, fv] w fun e w' => e = .returned (.slice A 0 c) ∧ w' = w := by
 go_enter Try.func157, Try.ntmps157
 go_wp2
 go_ret
 exact ⟨rfl, rfl⟩
structure Good (w : World) (x : RP) : Prop where
 l4 : x.p.f1.f4.length ≤ x.c4
 g4 : k35.C w x.a4 x.p.f1.f4.length x.p.f1.f4
 l5 : x.p.f1.f5.length ≤ x.c5
 g5 : k89.C w x.a5 x.p.f1.f5.length x.p.f1.f5
theorem Good.below {w w' : World} {x : RP} (h : Good w x) (hb : RowKit.Below w.heap.size w w') : Good w' x := ⟨h.l4, Kd.C_below h.g4 hb, h.l5, Kd.C_below h.g5 hb⟩
theorem raw_of {w : World} {A : Option Addr} {d : List S89} (h : k89.C w A d.length d) : ∃ rps : List RP, rps.map (·.p) = d ∧ ReadsRow (fun x cs => cs = encP x) 7 w A d.length rps ∧ ∀ x ∈ rps, Good w x := by
 have one : ∀ i, ∃ x : RP, i < d.length → x.p = d.getD i z89 ∧ Good w x ∧ ∃ ad, A = some ad ∧ ∀ j u, (encP x)[j]? = some u → w.cell? (ad.add (i * 7 + j)) = some u := by
  intro i
  by_cases hi : i < d.length
  · obtain ⟨ad, c, e, hs, hr, hc⟩ := ReadsRow.get_ h z89 (i : Int) (by omega) (by omega)
    obtain ⟨A5, c5, A6, c6, rfl, l5, g5, l6, g6⟩ := k89_open hr
    exact ⟨⟨d.getD i z89, A5, c5, A6, c6⟩, fun _ => ⟨rfl, ⟨l5, g5, l6, g6⟩, ad, e, fun j u hu => hc j u hu⟩⟩
  · exact ⟨default, fun h => absurd h hi⟩
 let f : Nat → RP := fun i => Classical.choose (one i)
 have hf : ∀ i, i < d.length → (f i).p = d.getD i z89 ∧ Good w (f i) ∧ ∃ ad, A = some ad ∧ ∀ j u, (encP (f i))[j]? = some u → w.cell? (ad.add (i * 7 + j)) = some u := fun i => Classical.choose_spec (one i)
 refine ⟨(List.range d.length).map f, ?_, ⟨by simp, Kd.C_max h, fun h0 => ?_⟩, fun x hx => ?_⟩
 · apply List.ext_getElem
   · simp
   · intro i h1 h2
     simp only [List.getElem_map, List.getElem_range]
     rw [(hf i h2).1, List.getD_eq_getElem?_getD, List.getElem?_eq_getElem h2]
     rfl
 · obtain ⟨_, _, ad, e, _⟩ := hf 0 h0
   refine ⟨ad, e, fun j p hj => ?_⟩
   have hj1 : j < d.length := by
    rcases Nat.lt_or_ge j d.length with h1 | h1
    · exact h1
    · rw [List.getElem?_eq_none (by simpa using h1)] at hj; cases hj
   have hp : p = f j := by
    rw [List.getElem?_map, List.getElem?_range hj1] at hj
    exact (Option.some.inj hj).symm
   subst hp
   obtain ⟨_, _, ad2, e2, hc⟩ := hf j hj1
   rw [e] at e2
   injection e2 with e2
   subst e2
   exact ⟨encP (f j), rfl, rfl, hc⟩
 · obtain ⟨i, hi, rfl⟩ := List.mem_map.1 hx
   exact (hf i (List.mem_range.1 hi)).2.1
def kRP : Kd RP where
 sz := 7
 E := []
 K := fun _ x cs => cs = encP x
 M := fun _ _ _ x cs => cs = encP x
 K_len := fun h => by rw [h]; rfl
 K_one := fun h u hu => by rw [h] at hu; exact encP_one _ u hu
 K_below := fun _ h => h
 K_of_M := fun h => h
 M_mono := fun _ h => h
 M_bound := fun h => h
 M_move := fun _ h => h
 M_lower := fun _ h => h
set_option maxHeartbeats 8000000 in
set_option maxRecDepth 100000 in
theorem clone_calls (d : List S89) (A : Option Addr) (c : Nat) (w : World) (hlen : d.length ≤ 90000) (hr : k89.C w A d.length d) :
 Calls Try.prog 153 #[.slice A d.length c] w fun e w' => ∃ (rps : List RP) (v : Value), e = .returned v ∧ rps.map (·.p) = d ∧ (∀ x ∈ rps, Good w x) ∧ kRP.R 89 w' w.heap.size (fun _ => True) v rps ∧ RowKit.Below w.heap.size w w' := by
 have hu33 := Try.underlying33
 obtain ⟨rps, e1, hR, hG⟩ := raw_of hr
 have heq : ∀ w, (binOp .eql 33 (.slice A d.length c) (.slice none 0 0)).run Try.prog w = .ok (.bool A.isNone) w := fun w => Lib.run_eql_slice_nil w 33 89 A _ _ _ _ Try.underlying33
 have HX := Aside0.mk (And.intro e1 (And.intro hR hG))
 have HP := Aside0.mk hr
 have hl2 : d.length ≤ 9223372036854775807 := by omega
 clear e1 hR hG hr
 cases A with
 | none =>
   have h0 : d = [] := by
    rcases List.eq_nil_or_concat d with h | ⟨l, x, h⟩
    · exact h
    · obtain ⟨ad, e, _⟩ := HP.out.2.2 (by rw [h]; simp)
      cases e
   have HZ := Aside0.mk h0
   clear h0
   go_enter Try.func153, Try.ntmps153
   go_wp2
   go_ret
   exact ⟨[], _, rfl, by rw [HZ.out]; rfl, fun x hx => (by cases hx), Kd.R_nil _ _ _ _ _, RowKit.Below.refl _ _⟩
 | some ad =>
   go_enter Try.func153, Try.ntmps153
   go_wp2_with (first
    | ((with_reducible refine gate_dst (N := 5) rfl ?_); refine Kd.R_lit kRP w.heap.size 89 ?hg (N := 5) ?hd (w0 := w) (xs := ([] : List RP)) (inner := []) (ok := fun _ => True) (okp := fun _ => True) ?hr (Reps.none _ _) (fun _ hk => hk) trivial (RowKit.Below.refl _ _) (Nat.le_refl _) (by simp) ?_; (case hd => rfl); (case hg => rfl); (case hr => first | (go_simp; done) | (go_simp; rfl))))
   intro v1 w1 HO HB hg b hob hle
   have HO2 := Aside0.mk HO
   have HB2 := Aside0.mk HB
   clear HO HB hg hob hle
   go_wp2_with (first
    | ((with_reducible refine gate_dst (N := 7) rfl ?_); refine Kd.R_append_rows kRP (Rr := fun x cs => cs = encP x) (w0 := w) w.heap.size rfl (.tmp 5) (.tmp 6) 33 89 (.agg #[(.string ⟨#[]⟩), (.int .i64 0), (.int .i64 0), (.int .i64 0), (.string ⟨#[]⟩), (.slice none 0 0), (.slice none 0 0)]) 104 rfl Try.underlying33 info89 rfl (by decide) (by omega) v1 [] rps (some ad) d.length c (fun _ => True) (fun k_ => some k_ ≠ (v1 : Value).ownBlock) rfl rfl ?aO ?aR ?aK (fun _ hk => ⟨trivial, hk⟩) (fun _ _ => trivial) ?aB ?aS ?aL ?_; (case aO => exact HO2.out); (case aR => exact ReadsRow.imp_ HX.out.2.1 HB2.out (fun _ _ h => h)); (case aK => exact (fun _ _ h => h)); (case aB => exact HB2.out); (case aS => exact HB2.out.size); (case aL => simp; omega)))
   intro v2 w2 HO3 HB3 hg3 hat3
   have HO4 := Aside0.mk HO3
   have HB4 := Aside0.mk HB3
   clear HO3 HB3 hg3 hat3
   go_wp2
   go_ret
   exact ⟨rps, v2, rfl, HX.out.1, HX.out.2.2, HO4.out, HB4.out⟩
theorem holds_of_R {w : World} {base : Nat} {ok : Nat → Prop} {v : Value} {rps : List RP} (h : kRP.R 89 w base ok v rps) (hp : 0 < rps.length) : ∃ g cap, v = .slice (some ⟨g, 0, none⟩) rps.length cap ∧ base ≤ g ∧ g < w.heap.size ∧ rps.length ≤ cap ∧ cap ≤ 9223372036854775807 ∧ HoldsK encP 7 w g 0 rps.toArray := by
 obtain ⟨g, cap, e, hb, hl, _⟩ := Kd.R_form h hp
 subst e
 obtain ⟨_, hc, _⟩ := Kd.R_reads' h
 obtain ⟨inner, ho⟩ := Kd.R_own h
 refine ⟨g, cap, rfl, hb, hl, hc, ?_, fun j hj => ?_⟩
 · rcases ho.2 with ⟨e, _⟩ | ⟨g', cap', cur, e, _, _, _, hm, _⟩
   · cases e
   · injection e with _ _ e
     rw [e]; exact hm
 · rw [size_flatK] at hj
   have hj' : j < rps.length * 7 := by simpa using hj
   have hi : j / 7 < rps.length := by omega
   obtain ⟨c, hcl, hM, hcc, hcf⟩ := Kd.R_elem h default ((j / 7 : Nat) : Int) (by omega) (by omega)
   simp only [Int.toNat_natCast] at hcc hcf hM
   have hM' : c = encP (rps.getD (j / 7) default) := hM
   have e1 : j / 7 * kRP.sz + j % 7 = j := by show j / 7 * 7 + j % 7 = j; omega
   have hlt : j % 7 < c.length := by rw [hcl]; show j % 7 < 7; omega
   have h1 := hcc (j % 7) _ (List.getElem?_eq_getElem hlt)
   have h2 := hcf (j % 7)
   rw [e1] at h1 h2
   rw [get_flatK _ _ _ _ (by simpa using hj'), Nat.zero_add]
   refine ⟨?_, h2⟩
   rw [h1]
   congr 1
   have e3 : rps.toArray[j / 7]! = rps.getD (j / 7) default := by
    rw [getElem!_pos _ _ (by simpa using hi), List.getD_eq_getElem?_getD, List.getElem?_eq_getElem hi]; rfl
   rw [e3, ← hM', getElem!_pos c _ hlt]
   rfl
theorem cells_of_holds {w : World} {g : Nat} {rps : Array RP} (h : HoldsK encP 7 w g 0 rps) (i : Nat) (hi : i < rps.size) :
 w.cell? ⟨g, i * 7, none⟩ = some (.string rps[i]!.p.f0) ∧ w.cell? ⟨g, i * 7 + 1, none⟩ = some (.int .i64 rps[i]!.p.f1.f0) ∧ w.cell? ⟨g, i * 7 + 2, none⟩ = some (.int .i64 rps[i]!.p.f1.f1) ∧ w.cell? ⟨g, i * 7 + 3, none⟩ = some (.int .i64 rps[i]!.p.f1.f2) ∧
 w.cell? ⟨g, i * 7 + 4, none⟩ = some (.string rps[i]!.p.f1.f3) ∧ w.cell? ⟨g, i * 7 + 5, none⟩ = some (.slice rps[i]!.a4 rps[i]!.p.f1.f4.length rps[i]!.c4) ∧ w.cell? ⟨g, i * 7 + 6, none⟩ = some (.slice rps[i]!.a5 rps[i]!.p.f1.f5.length rps[i]!.c5) := by
 have key : ∀ c, c < 7 → w.cell? ⟨g, i * 7 + c, none⟩ = some (encP rps[i]!)[c]! := fun c hc => by have := (HoldsK.cell h hi hc).1; rwa [Nat.zero_add] at this
 exact ⟨key 0 (by omega), key 1 (by omega), key 2 (by omega), key 3 (by omega), key 4 (by omega), key 5 (by omega), key 6 (by omega)⟩
def Srt (w : World) (base : Nat) (v : Value) (d : Array RP) : Prop :=
 (d.size = 0 ∧ ∃ A c, v = .slice A 0 c) ∨ ∃ g cap, v = .slice (some ⟨g, 0, none⟩) d.size cap ∧ base ≤ g ∧ g < w.heap.size ∧ d.size ≤ cap ∧ cap ≤ 9223372036854775807 ∧ HoldsK encP 7 w g 0 d
theorem sort_on {w : World} {base : Nat} {ok : Nat → Prop} {v : Value} {rps : List RP} (h : kRP.R 89 w base ok v rps) (hsz : rps.length ≤ 90000) :
 Calls Try.prog 154 #[v, .func (.func 155) #[] #[]] w fun e w' => e = .returned (.tuple #[]) ∧ ∃ d' : Array RP, Stab qK 0 rps.length rps.toArray d' ∧ SortedIn (ltOf cfK) 0 rps.length d' ∧ Srt w' base v d' ∧ RowKit.Below base w w' := by
 rcases Nat.eq_zero_or_pos rps.length with h0 | h0
 · obtain ⟨A, c, e⟩ := Kd.R_slice h
   rw [e, h0]
   refine Calls.mono (sortStable_none A c _ w) ?_
   rintro e w' ⟨he, rfl⟩
   obtain rfl := List.eq_nil_of_length_eq_zero h0
   exact ⟨he, #[], Stab.refl _ _ _, fun i j _ _ hj => by omega, .inl ⟨rfl, A, c, rfl⟩, RowKit.Below.refl _ _⟩
 · obtain ⟨g, cap, e, hb, hg, hc, hc2, hH⟩ := holds_of_R h h0
   subst e
   have hs : rps.toArray.size = rps.length := by simp
   have R : RowK encP 7 w g 0 rps.toArray := ⟨encP_len, encP_one, hH, hg⟩
   have := sortStable_calls g cap rps.toArray w R (by rw [hs]; omega)
   rw [hs] at this
   refine Calls.mono this ?_
   rintro e w' ⟨he, d', st, so, S⟩
   have hds : d'.size = rps.length := by rw [st.size, hs]
   exact ⟨he, d', st, so, .inr ⟨g, cap, by rw [hds], hb, S.lt hg, by omega, hc2, S.holds hg hH (by rw [hds, hs])⟩, swk_below S base hb hg⟩
theorem compact_on {w : World} {base : Nat} {v : Value} {d : Array RP} (h : Srt w base v d) (hsz : d.size ≤ 90000) :
 Calls Try.prog 157 #[v, .func (.func 158) #[] #[]] w fun e w' => ∃ (v2 : Value) (dd : Array RP), e = .returned v2 ∧ dd.toList = compI sameK d d.size ∧ Srt w' base v2 dd ∧ RowKit.Below base w w' := by
 rcases h with ⟨h0, A, c, rfl⟩ | ⟨g, cap, rfl, hb, hg, hc, hc2, hH⟩
 · refine Calls.mono (compact_none A c _ w) ?_
   rintro e w' ⟨he, rfl⟩
   exact ⟨_, #[], he, by rw [h0]; rfl, .inl ⟨rfl, A, c, rfl⟩, RowKit.Below.refl _ _⟩
 · have R : RowK encP 7 w g 0 d := ⟨encP_len, encP_one, hH, hg⟩
   refine Calls.mono (compact_any famTry famC encP sameK 158 #[] (enters_of Try.func158 (by kernel_rfl) rfl) g 0 cap d w R (eqLays158 _ _ _ _) (by omega) hc hc2 w (SWK.start hH)) ?_
   rintro e w' ⟨dd, he, hl, hH', hB⟩
   have hle : dd.size ≤ d.size := by
    have : dd.toList.length = dd.size := by simp
    rw [← this, hl]
    unfold compI
    rw [List.length_map]
    exact Nat.le_trans (List.length_filter_le _ _) (by simp)
   exact ⟨_, dd, he, hl, .inr ⟨g, cap, rfl, hb, Nat.lt_of_lt_of_le hg (hB base hb).size, by omega, hc2, hH'⟩, hB base hb⟩
def Rise (L : List S89) : Prop := L.Pairwise (fun a b => ltK a.f0 b.f0 = true)
def Fst (L D : List S89) : Prop := Rise L ∧ ∀ p, p ∈ L ↔ D.find? (fun y => decide (y.f0.data = p.f0.data)) = some p
theorem ltK_irrefl (a : ByteArray) : ltK a a = false := by rw [ltK_eq]; exact swo_ltStr.irrefl _
theorem ltK_trans {a b c : ByteArray} (h1 : ltK a b = true) (h2 : ltK b c = true) : ltK a c = true := by
 rw [ltK_eq] at *
 exact swo_ltStr.trans _ _ _ h1 h2
theorem rise_uniq : ∀ {L M : List S89}, Rise L → Rise M → (∀ p, p ∈ L ↔ p ∈ M) → L = M := by
 intro L
 induction L with
 | nil =>
   intro M _ _ h
   cases M with
   | nil => rfl
   | cons y M => exact absurd ((h y).2 (List.mem_cons_self ..)) (by simp)
 | cons x L ih =>
   intro M h1 h2 h
   cases M with
   | nil => exact absurd ((h x).1 (List.mem_cons_self ..)) (by simp)
   | cons y M =>
     have g1 := List.pairwise_cons.1 h1
     have g2 := List.pairwise_cons.1 h2
     have e : x = y := by
      rcases List.mem_cons.1 ((h x).1 (List.mem_cons_self ..)) with e | e
      · exact e
      · rcases List.mem_cons.1 ((h y).2 (List.mem_cons_self ..)) with e' | e'
        · exact e'.symm
        · have := ltK_trans (g2.1 x e) (g1.1 y e')
          rw [ltK_irrefl] at this
          cases this
     subst e
     congr 1
     refine ih g1.2 g2.2 (fun p => ⟨fun hp => ?_, fun hp => ?_⟩)
     · rcases List.mem_cons.1 ((h p).1 (List.mem_cons_of_mem _ hp)) with e | e
       · subst e
         have := g1.1 _ hp
         rw [ltK_irrefl] at this
         cases this
       · exact e
     · rcases List.mem_cons.1 ((h p).2 (List.mem_cons_of_mem _ hp)) with e | e
       · subst e
         have := g2.1 _ hp
         rw [ltK_irrefl] at this
         cases this
       · exact e
theorem insB_mem (p : S89) : ∀ (L : List S89) (q : S89), q ∈ insB L p ↔ q = p ∨ q ∈ L
 | [], q => by simp [insB]
 | x :: r, q => by
   rw [insB]
   split
   · simp
   · rw [List.mem_cons, insB_mem p r q, List.mem_cons]
     constructor
     · rintro (h | h | h)
       · exact .inr (.inl h)
       · exact .inl h
       · exact .inr (.inr h)
     · rintro (h | h | h)
       · exact .inr (.inl h)
       · exact .inl h
       · exact .inr (.inr h)
theorem ne_lt {a b : ByteArray} (h : a.data ≠ b.data) (h2 : ltK a b = false) : ltK b a = true := by
 rcases ltK_tri a b with h1 | h1 | h1
 · rw [h1] at h2; cases h2
 · exact absurd (by rw [h1]) h
 · exact h1
theorem insB_rise (p : S89) : ∀ L : List S89, Rise L → (∀ x ∈ L, x.f0.data ≠ p.f0.data) → Rise (insB L p)
 | [], _, _ => by simp [insB, Rise]
 | x :: r, h, hn => by
   have g := List.pairwise_cons.1 h
   rw [insB]
   split
   · rename_i hl
     exact List.pairwise_cons.2 ⟨fun y hy => by
      rcases List.mem_cons.1 hy with rfl | hy
      · exact hl
      · exact ltK_trans hl (g.1 y hy), h⟩
   · rename_i hl
     refine List.pairwise_cons.2 ⟨fun y hy => ?_, insB_rise p r g.2 (fun z hz => hn z (List.mem_cons_of_mem _ hz))⟩
     rcases (insB_mem p r y).1 hy with rfl | hy
     · exact ne_lt (Ne.symm (hn x (List.mem_cons_self ..))) (by simpa using hl)
     · exact g.1 y hy
theorem fst_snoc {L D : List S89} (h : Fst L D) (p : S89) : Fst (rput L p) (D ++ [p]) := by
 obtain ⟨hr, hm⟩ := h
 have hex : anyEq L p = true ↔ ∃ q, D.find? (fun y => decide (y.f0.data = p.f0.data)) = some q := by
  constructor
  · intro h
    obtain ⟨x, hx, he⟩ := List.any_eq_true.1 h
    have he' := of_decide_eq_true he
    have := (hm x).1 hx
    rw [he'] at this
    exact ⟨x, this⟩
  · rintro ⟨q, hq⟩
    have hqe := List.find?_some hq
    have hqe' : q.f0.data = p.f0.data := of_decide_eq_true hqe
    have : q ∈ L := (hm q).2 (by rw [hqe']; exact hq)
    exact List.any_eq_true.2 ⟨q, this, decide_eq_true hqe'⟩
 unfold rput
 by_cases ha : anyEq L p = true
 · rw [if_pos ha]
   obtain ⟨q, hq⟩ := hex.1 ha
   refine ⟨hr, fun x => ?_⟩
   rw [hm x, List.find?_append]
   cases hx : D.find? (fun y => decide (y.f0.data = x.f0.data)) with
   | some y => simp
   | none =>
     simp only [Option.none_or, List.find?_cons, List.find?_nil]
     constructor
     · intro h; cases h
     · intro h
       split at h
       · rename_i he
         have he' := of_decide_eq_true he
         rw [← he', hq] at hx
         cases hx
       · cases h
 · rw [if_neg ha]
   have hno : D.find? (fun y => decide (y.f0.data = p.f0.data)) = none := by
    cases hx : D.find? (fun y => decide (y.f0.data = p.f0.data)) with
    | none => rfl
    | some q => exact absurd (hex.2 ⟨q, hx⟩) ha
   have hnL : ∀ x ∈ L, x.f0.data ≠ p.f0.data := fun x hx he => ha (List.any_eq_true.2 ⟨x, hx, decide_eq_true he⟩)
   refine ⟨insB_rise p L hr hnL, fun x => ?_⟩
   rw [insB_mem, hm x, List.find?_append]
   constructor
   · rintro (rfl | h)
     · rw [hno]; simp
     · rw [h]; rfl
   · intro h
     cases hx : D.find? (fun y => decide (y.f0.data = x.f0.data)) with
     | some y => rw [hx] at h; exact .inr h
     | none =>
       rw [hx] at h
       simp only [Option.none_or, List.find?_cons, List.find?_nil] at h
       split at h
       · exact .inl (Option.some.inj h).symm
       · cases h
theorem fst_fold : ∀ (E L D : List S89), Fst L D → Fst (E.foldl rput L) (D ++ E)
 | [], L, D, h => by simpa using h
 | x :: E, L, D, h => by
   have := fst_fold E _ _ (fst_snoc h x)
   rw [List.append_assoc] at this
   exact this
theorem fst_nil : Fst [] [] := ⟨List.Pairwise.nil, fun p => by simp⟩
theorem ltOf_key (x y : RP) : ltOf cfK x y = ltK x.p.f0 y.p.f0 := by rw [cfK_lt]
theorem compI_mem {d' : Array RP} {r : Nat} {x : RP} (h : x ∈ compI sameK d' r) : ∃ j, j < r ∧ d'[j]! = x := by
 obtain ⟨j, hj, rfl⟩ := List.mem_map.1 h
 exact ⟨j, List.mem_range.1 (List.mem_filter.1 hj).1, rfl⟩
theorem fst_compI (d' : Array RP) (n : Nat) (so : SortedIn (ltOf cfK) 0 n d') (pl : RP → S89) (hpl : ∀ x, (pl x).f0 = x.p.f0) : ∀ r, r ≤ n → Fst ((compI sameK d' r).map pl) ((seg d' 0 r).map pl) := by
 intro r
 induction r with
 | zero => intro _; rw [seg_nil d' (Nat.le_refl 0)]; exact fst_nil
 | succ r ih =>
   intro hr
   have h := ih (by omega)
   rw [seg_app d' (show 0 ≤ r by omega) (show r ≤ r + 1 by omega), seg_one, List.map_append]
   have hs := fst_snoc h (pl d'[r]!)
   have e : (compI sameK d' (r + 1)).map pl = rput ((compI sameK d' r).map pl) (pl d'[r]!) := by
    rw [compI_succ]
    have hlt : anyLt ((compI sameK d' r).map pl) (pl d'[r]!) = false := by
     apply Bool.eq_false_iff.2
     intro hc
     obtain ⟨x, hx, hl⟩ := List.any_eq_true.1 hc
     obtain ⟨y, hy, rfl⟩ := List.mem_map.1 hx
     obtain ⟨j, hj, rfl⟩ := compI_mem hy
     rw [hpl, hpl] at hl
     have := so j r (Nat.zero_le _) hj (by omega)
     rw [ltOf_key, hl] at this
     cases this
    by_cases h0 : r ≠ 0 ∧ sameK d'[r]! d'[r - 1]! = true
    · have hk : d'[r]!.p.f0.data = d'[r - 1]!.p.f0.data := of_decide_eq_true h0.2
      have ha : anyEq ((compI sameK d' r).map pl) (pl d'[r]!) = true := by
       have hmem : pl d'[r - 1]! ∈ (seg d' 0 r).map pl := List.mem_map.2 ⟨_, seg_mem.2 ⟨r - 1, Nat.zero_le _, by omega, rfl⟩, rfl⟩
       cases hf : ((seg d' 0 r).map pl).find? (fun y => decide (y.f0.data = (pl d'[r]!).f0.data)) with
       | none =>
         have := List.find?_eq_none.1 hf _ hmem
         simp [hpl, hk] at this
       | some q =>
         have hqe0 := List.find?_some hf
         have hqe : q.f0.data = (pl d'[r]!).f0.data := of_decide_eq_true hqe0
         exact List.any_eq_true.2 ⟨q, (h.2 q).2 (by rw [hqe]; exact hf), decide_eq_true hqe⟩
      rw [if_neg (by simp [h0.1, h0.2]), rput, if_pos ha]
    · have ha : ¬ anyEq ((compI sameK d' r).map pl) (pl d'[r]!) = true := by
       intro hc
       obtain ⟨x, hx, hl⟩ := List.any_eq_true.1 hc
       obtain ⟨y, hy, rfl⟩ := List.mem_map.1 hx
       obtain ⟨j, hj, rfl⟩ := compI_mem hy
       have he := of_decide_eq_true hl
       rw [hpl, hpl] at he
       refine h0 ⟨by omega, decide_eq_true ?_⟩
       have e1 : d'[j]!.p.f0 = d'[r]!.p.f0 := ByteArray.ext he
       have l1 := so (r - 1) r (Nat.zero_le _) (by omega) (by omega)
       rw [ltOf_key] at l1
       have l2 : ltK d'[r - 1]!.p.f0 d'[r]!.p.f0 = false := by
        rw [← e1, ← ltOf_key]
        exact sorted_at cfK_swo so (Nat.zero_le j) (show j ≤ r - 1 by omega) (by omega)
       rcases ltK_tri d'[r]!.p.f0 d'[r - 1]!.p.f0 with e | e | e
       · rw [l1] at e; cases e
       · rw [e]
       · rw [l2] at e; cases e
      rw [if_pos (by
       by_cases h1 : r = 0
       · simp [h1]
       · cases h2 : sameK d'[r]! d'[r - 1]! with
         | true => exact absurd ⟨h1, h2⟩ h0
         | false => simp), rput, if_neg ha, insB_end _ _ hlt, List.map_append]
      rfl
   rw [e]
   exact hs
theorem find_filter {α : Type} (p : α → Bool) {l m : List α} (h : l.filter p = m.filter p) : l.find? p = m.find? p := by
 rw [← List.head?_filter, ← List.head?_filter, h]
theorem pairs_eq (rps : List RP) (d' : Array RP) (st : Stab qK 0 rps.length rps.toArray d') (so : SortedIn (ltOf cfK) 0 rps.length d') :
 ((compI sameK d' d'.size).map (fun x => (⟨x.p.f0, plain x.p.f1⟩ : S89))).filter (fun p => decide (p.f1.f0 ≠ 0)) = pairsP (rps.map (·.p)) := by
 have hds : d'.size = rps.length := by rw [st.size]; simp
 unfold pairsP
 congr 1
 rw [hds, List.map_map]
 have h1 := fst_compI d' rps.length so (fun x => (⟨x.p.f0, plain x.p.f1⟩ : S89)) (fun _ => rfl) rps.length (Nat.le_refl _)
 have h2 := fst_fold (rps.map ((fun p : S89 => (⟨p.f0, plain p.f1⟩ : S89)) ∘ fun x => x.p)) [] [] fst_nil
 refine rise_uniq h1.1 h2.1 (fun p => ?_)
 rw [h1.2 p, h2.2 p, List.nil_append]
 have e : ∀ k : ByteArray, (seg d' 0 rps.length).find? (qK k) = rps.find? (qK k) := fun k => by
  refine find_filter _ ?_
  rw [st.cls k]
  have := seg_all rps.toArray
  rw [List.size_toArray] at this
  rw [this]
 have key : ∀ l : List RP, (l.map (fun x => (⟨x.p.f0, plain x.p.f1⟩ : S89))).find? (fun y => decide (y.f0.data = p.f0.data)) = (l.find? (qK p.f0)).map (fun x => (⟨x.p.f0, plain x.p.f1⟩ : S89)) := fun l => by
  rw [List.find?_map]; rfl
 rw [key, e p.f0, ← key]
 rfl
theorem take_snocA (l : List RP) (dd : Array RP) (h : dd.toList = l) (k : Nat) (hk : k < dd.size) : l.take (k + 1) = l.take k ++ [dd[k]!] := by
 subst h
 rw [List.take_succ_eq_append_getElem (by simpa using hk), getElem!_pos dd k hk]
 simp
set_option maxHeartbeats 8000000 in
set_option maxRecDepth 100000 in
theorem pp_calls (d : List S89) (A : Option Addr) (c : Nat) (w : World) (hlen : d.length ≤ 90000) (hr : k89.C w A d.length d) (hf : ∀ p ∈ d, fewV p.f1) (ih : ∀ p ∈ d, PlainAt 59 p.f1) :
 Calls Try.prog 121 #[.slice A d.length c] w fun e w' => ∃ v, e = .returned v ∧ k89.R 89 w' w.heap.size (fun _ => True) v (pairsP d) ∧ RowKit.Below w.heap.size w w' := by
 have hu89 := Try.underlying89
 have hu35 := Try.underlying35
 have hu33 := Try.underlying33
 have CL := Aside0.mk (clone_calls d A c w hlen hr)
 have HF := Aside0.mk (And.intro hf ih)
 clear hf ih hr
 go_enter Try.func121, Try.ntmps121
 go_wp2_with fail
 refine Calls.mono CL.out ?_
 rintro e w1 ⟨rps, v1, rfl, e1, hG, hR1, hB1⟩
 have hl1 : rps.length ≤ 90000 := by rw [show rps.length = d.length by rw [← e1]; simp]; exact hlen
 have SO := Aside0.mk (sort_on hR1 hl1)
 have X1 := Aside0.mk (And.intro e1 (And.intro hG hB1))
 clear e1 hG hB1 CL hR1
 go_wp2_with fail
 refine Calls.mono SO.out ?_
 rintro e w2 ⟨rfl, d', st, so, hS2, hB2⟩
 have hds : d'.size = rps.length := by rw [st.size]; simp
 have CO := Aside0.mk (compact_on hS2 (by omega))
 have X2 := Aside0.mk (And.intro st (And.intro so hB2))
 clear st so hB2 SO hS2
 go_wp2_with fail
 refine Calls.mono CO.out ?_
 rintro e w3 ⟨v3, dd, rfl, hdl, hS3, hB3⟩
 have HPP := Aside0.mk (show pairsP d = (dd.toList.map (fun x => (⟨x.p.f0, plain x.p.f1⟩ : S89))).filter (fun p => decide (p.f1.f0 ≠ 0)) by
  rw [hdl, pairs_eq rps d' X2.out.1 X2.out.2.1, X1.out.1])
 have HB13 := Aside0.mk ((X1.out.2.2.trans X2.out.2.2).trans hB3)
 have hdsz : dd.size ≤ 90000 := by
  have h1 : dd.toList.length = dd.size := by simp
  rw [← h1, hdl]
  unfold compI
  rw [List.length_map]
  exact Nat.le_trans (List.length_filter_le _ _) (by simp; omega)
 have HGD := Aside0.mk (show ∀ x ∈ dd.toList, Good w x ∧ fewV x.p.f1 ∧ PlainAt 59 x.p.f1 by
  intro x hx
  rw [hdl] at hx
  obtain ⟨j, hj, rfl⟩ := compI_mem hx
  obtain ⟨i, _, hi, e⟩ := X2.out.1.mem qK_all (Nat.zero_le j) (show j < rps.length by omega)
  rw [← e]
  have hm : rps.toArray[i]! ∈ rps := by rw [getElem!_pos _ _ (by simpa using hi)]; simp
  have hp : rps.toArray[i]!.p ∈ d := by rw [← X1.out.1]; exact List.mem_map.2 ⟨_, hm, rfl⟩
  exact ⟨X1.out.2.1 _ hm, HF.out.1 _ hp, HF.out.2 _ hp⟩)
 have HS3 := Aside0.mk hS3
 clear hdl hB3 X1 X2 CO hS3
 obtain ⟨A3, c3, hv3⟩ : ∃ A c, v3 = .slice A dd.size c := by
  rcases HS3.out with ⟨h0, A, c, h⟩ | ⟨g, cap, h, _⟩
  · exact ⟨A, c, by rw [h0]; exact h⟩
  · exact ⟨_, cap, h⟩
 subst hv3
 go_wp2
 go_loopw [4, 16] (fun o i wr => ∃ k : Nat, k ≤ dd.size ∧ i = .int .i64 k ∧ Aside0 (k89.R 89 wr w.heap.size (fun _ => True) o (((dd.toList.take k).map (fun x => (⟨x.p.f0, plain x.p.f1⟩ : S89))).filter (fun p => decide (p.f1.f0 ≠ 0)))) ∧ Aside0 (∀ j, o.ownBlock = some j → w3.heap.size ≤ j) ∧ Aside0 (RowKit.Below w3.heap.size w3 wr)) (fun _ i _ => dd.size - (intOf i).toNat)
 case atStart => exact ⟨0, Nat.zero_le _, rfl, ⟨Kd.R_nil _ _ _ _ _⟩, ⟨fun j hj => by simp [Value.ownBlock] at hj⟩, ⟨RowKit.Below.refl _ _⟩⟩
 case round =>
  obtain ⟨k, hk, rfl, HO5, HV5, HB5⟩ := hrel
  by_cases hlt : k < dd.size
  · obtain ⟨g, hA3, hH⟩ : ∃ g, A3 = some ⟨g, 0, none⟩ ∧ HoldsK encP 7 w3 g 0 dd := by
     rcases HS3.out with ⟨h0, _⟩ | ⟨g, cap, h, _, _, _, _, hH⟩
     · omega
     · injection h with h
       exact ⟨g, h, hH⟩
    subst hA3
    obtain ⟨y0, y1, y2, y3, y4, y5, y6⟩ := cells7 (cells_of_holds hH k hlt) HB5.out
    have hmem : dd[k]! ∈ dd.toList := by rw [getElem!_pos dd k hlt]; simp
    obtain ⟨hGx, hFx, hIx⟩ := HGD.out _ hmem
    have HBw := Aside0.mk (HB13.out.trans (HB5.out.mono HB13.out.size))
    have GX := Aside0.mk (hGx.below HBw.out)
    have IX := Aside0.mk (And.intro hFx hIx)
    have HT := Aside0.mk (take_snocA dd.toList dd rfl k hlt)
    have HFL := Aside0.mk (show (((dd.toList.take k).map (fun x => (⟨x.p.f0, plain x.p.f1⟩ : S89))).filter (fun p => decide (p.f1.f0 ≠ 0))).length ≤ 90000 by
     refine Nat.le_trans (List.length_filter_le _ _) ?_
     rw [List.length_map]
     refine Nat.le_trans (List.length_take_le _ _) ?_
     omega)
    have HOL := Aside0.mk (show ∀ j, (u4 : Value).ownBlock = some j → j < wr.heap.size by
     obtain ⟨inner, ho⟩ := Kd.R_own HO5.out
     exact fun j hj => own_lt ho j hj)
    clear hH hmem hGx hFx hIx
    generalize dd[k]! = x at *
    generalize hfk : ((dd.toList.take k).map (fun x => (⟨x.p.f0, plain x.p.f1⟩ : S89))).filter (fun p => decide (p.f1.f0 ≠ 0)) = fk at *
    have HFK := Aside0.mk hfk
    clear hfk
    go_wp2_with fail
    refine Calls.mono (IX.out.2 x.a4 x.c4 x.a5 x.c5 _ IX.out.1 GX.out.l4 (by (with_reducible repeat (first | apply Kd.C_alloc | apply Kd.C_drewN | apply Kd.C_drew)); exact GX.out.g4) GX.out.l5 (by (with_reducible repeat (first | apply Kd.C_alloc | apply Kd.C_drewN | apply Kd.C_drew)); exact GX.out.g5)) ?_
    rintro e w6 ⟨q4, q5, rfl, h4, h5, hb⟩
    have BK := Aside0.mk (blk_below (blk_new wr (.cells #[.string x.p.f0, .int .i64 x.p.f1.f0, .int .i64 x.p.f1.f1, .int .i64 x.p.f1.f2, .string x.p.f1.f3, .slice x.a4 x.p.f1.f4.length x.c4, .slice x.a5 x.p.f1.f5.length x.c5] 89)) hb)
    have HPL := Aside0.mk (show ((dd.toList.take (k + 1)).map (fun x => (⟨x.p.f0, plain x.p.f1⟩ : S89))).filter (fun p => decide (p.f1.f0 ≠ 0)) = if (plain x.p.f1).f0 ≠ 0 then fk ++ [⟨x.p.f0, plain x.p.f1⟩] else fk by
     rw [HT.out, List.map_append, List.filter_append, HFK.out]
     simp only [List.map_cons, List.map_nil, List.filter_cons, List.filter_nil]
     by_cases h : (plain x.p.f1).f0 = 0 <;> simp [h])
    have B6 := Aside0.mk (below_step (below_alloc (RowKit.Below.refl wr.heap.size wr) _) hb)
    have hsz : wr.heap.size + 1 ≤ w6.heap.size := by have := hb.size; simpa using this
    generalize plain x.p.f1 = pv at *
    have hkey : ∃ key : ByteArray, key = x.p.f0 := ⟨_, rfl⟩
    obtain ⟨key, hkey⟩ := hkey
    rw [← hkey] at HPL
    have z0 := (box7p BK.out).1
    rw [← hkey] at z0
    clear hkey
    obtain ⟨q, rfl, rfl⟩ : ∃ q : S89, key = q.f0 ∧ pv = q.f1 := ⟨⟨key, pv⟩, rfl, rfl⟩
    obtain ⟨A4', c4', e4⟩ := Kd.R_slice h4
    obtain ⟨A5', c5', e5⟩ := Kd.R_slice h5
    subst e4
    subst e5
    simp only [World.size_alloc] at h4 h5
    have H45 := Aside0.mk (And.intro h4 h5)
    clear h4 h5 hb y0 y1 y2 y3 y4 y5 y6
    by_cases hx : q.f1.f0 = 0
    · have hs := Aside0.mk (show _ = fk from HPL.out.trans (if_neg (by simp [hx])))
      have hx2 : (q.f1.f0 != 0) = false := by simp [hx]
      go_wp2
      exact ⟨⟨k + 1, by omega, by go_num, ⟨by rw [hs.out]; exact Kd.R_below HO5.out (below_alloc B6.out _)⟩, HV5, ⟨below_step HB5.out (below_alloc B6.out _)⟩⟩, by simp [intOf]; omega⟩
    · have hs := Aside0.mk (show _ = fk ++ [q] from HPL.out.trans (if_pos (by simp [hx])))
      have z0' := Lib.cell?_alloc_some (.cells #[.int .i64 q.f1.f0, .int .i64 q.f1.f1, .int .i64 q.f1.f2, .string q.f1.f3, .slice A4' q.f1.f4.length c4', .slice A5' q.f1.f5.length c5'] 35) z0
      have HM := Aside0.mk (fun o' : Obj => k89.M_lower (show w.heap.size ≤ wr.heap.size + 1 by have := HB13.out.size; have := HB5.out.size; omega) (k89.M_mono (ok' := fun k_ => some k_ ≠ (u4 : Value).ownBlock) (fun j hj e => by have h1 := HOL.out j e.symm; have h2 := hj.2.1; omega) (k89.M_bound (Kd.M_below (d := k89) (w1 := w6.alloc o') (k89_mkM w6 _ _ (q : S89) H45.out.1 H45.out.2) (below_alloc (RowKit.Below.refl _ _) _)))))
      go_upto_region 10 with fail
      have bk8 := blk_new w6 (.cells #[.int .i64 q.f1.f0, .int .i64 q.f1.f1, .int .i64 q.f1.f2, .string q.f1.f3, .slice A4' q.f1.f4.length c4', .slice A5' q.f1.f5.length c5'] 35)
      have HM8 := Aside0.mk (HM.out (.cells #[.int .i64 q.f1.f0, .int .i64 q.f1.f1, .int .i64 q.f1.f2, .string q.f1.f3, .slice A4' q.f1.f4.length c4', .slice A5' q.f1.f5.length c5'] 35))
      have B8 := Aside0.mk (below_alloc B6.out (.cells #[.int .i64 q.f1.f0, .int .i64 q.f1.f1, .int .i64 q.f1.f2, .string q.f1.f3, .slice A4' q.f1.f4.length c4', .slice A5' q.f1.f5.length c5'] 35))
      clear HM z0 B6
      generalize w6.alloc (.cells #[.int .i64 q.f1.f0, .int .i64 q.f1.f1, .int .i64 q.f1.f2, .string q.f1.f3, .slice A4' q.f1.f4.length c4', .slice A5' q.f1.f5.length c5'] 35) = w8 at *
      obtain ⟨t0, t1, t2, t3, t4, t5⟩ := box35 bk8
      clear bk8
      go_wp2_with (first | ((with_reducible refine gate_dst (N := 32) rfl ?_); refine Kd.R_append k89 (w0 := w) w.heap.size rfl (.tmp 26) (.tmp 31) 33 89 (.agg #[(.string ⟨#[]⟩), (.int .i64 0), (.int .i64 0), (.int .i64 0), (.string ⟨#[]⟩), (.slice none 0 0), (.slice none 0 0)]) 104 rfl Try.underlying33 info89 rfl (by decide) (by omega) u4 fk (q : S89) [.string q.f0, .int .i64 q.f1.f0, .int .i64 q.f1.f1, .int .i64 q.f1.f2, .string q.f1.f3, .slice A4' q.f1.f4.length c4', .slice A5' q.f1.f5.length c5'] (fun _ => True) (fun k_ => some k_ ≠ (u4 : Value).ownBlock) rfl rfl ?aP (fun _ hk => ⟨trivial, hk⟩) ?aF ?aO ?aB ?aS ?aL ?_; (case aP => exact HM8.out); (case aF => exact (fun _ _ => trivial)); (case aO => exact Kd.R_below HO5.out B8.out); (case aB => exact below_step HBw.out B8.out); (case aS => exact (below_step HBw.out B8.out).size); (case aL => have := HFL.out; omega)))
      intro v7 w7 HO6 HB6 hg6 hat6
      have A1 := Aside0.mk (show ∀ j, v7.ownBlock = some j → w3.heap.size ≤ j by
       intro j hj
       rcases hat6 with h | ⟨b, h, hle⟩
       · exact HV5.out j (by rw [← h]; exact hj)
       · rw [h] at hj; injection hj with hj; have := HB5.out.size; have := B8.out.size; omega)
      have A2 := Aside0.mk (show RowKit.Below w3.heap.size w3 w7 from (below_step HB5.out B8.out).grown hg6 (below_step HB5.out B8.out).size (fun j hj => HV5.out j hj))
      have A3 := Aside0.mk HO6
      clear HO6 HB6 hg6 hat6 z0' t0 t1 t2 t3 t4 t5
      go_wp2
      exact ⟨⟨k + 1, by omega, by go_num, ⟨by rw [hs.out]; exact A3.out⟩, A1, A2⟩, by simp [intOf]; omega⟩
  · have hs := Aside0.mk (show pairsP d = ((dd.toList.take k).map (fun x => (⟨x.p.f0, plain x.p.f1⟩ : S89))).filter (fun p => decide (p.f1.f0 ≠ 0)) by rw [List.take_of_length_le (by simp; omega)]; exact HPP.out)
    go_wp2
    go_ret
    exact ⟨_, rfl, by rw [hs.out]; exact HO5.out, HB13.out.trans (HB5.out.mono HB13.out.size)⟩
theorem frz {w : World} {b T n : Nat} {cs : Array Value} (h : w.heap[b]? = some (.cells cs T (0, 0))) : w.frozen? ⟨b, n, none⟩ = false := blk_frozen h n
theorem cell_far {w : World} {b b' T o : Nat} {v : Value} {cs : Array Value} (h : w.heap[b]? = some (.cells cs T (0, 0))) (hne : b ≠ b') : (w.setCell ⟨b', o, none⟩ v).heap[b]? = some (.cells cs T (0, 0)) := (RowKit.Below.heap_setCell w ⟨b', o, none⟩ v b hne).trans h
theorem six_set {w : World} {b T : Nat} {a0 a1 a2 a3 a4 a5 c0 c1 c2 c3 c4 c5 : Value} (h : w.heap[b]? = some (.cells #[a0, a1, a2, a3, a4, a5] T (0, 0))) :
 ((((((w.setCell ⟨b, 0, none⟩ c0).setCell ⟨b, 1, none⟩ c1).setCell ⟨b, 2, none⟩ c2).setCell ⟨b, 3, none⟩ c3).setCell ⟨b, 4, none⟩ c4).setCell ⟨b, 5, none⟩ c5).heap[b]? = some (.cells #[c0, c1, c2, c3, c4, c5] T (0, 0)) := by
 have := blk_set (blk_set (blk_set (blk_set (blk_set (blk_set h 0 c0) 1 c1) 2 c2) 3 c3) 4 c4) 5 c5
 simpa using this
theorem hasT_none {k : Int} (h0 : k ≠ 0) (h1 : k ≠ 1) (h2 : k ≠ 2) (h3 : k ≠ 3) (h4 : k ≠ 4) (h5 : k ≠ 5) (h6 : k ≠ 6) (h7 : k ≠ 7) (h8 : k ≠ 8) : hasT k = (false, false, false, false, false, false) := by simp [hasT, *]
def ChainB (md : Region.Mode) (ops : Array Oper) : Array Bool → List Nat → Bool
 | l, [] => Region.ready md ops l == []
 | l, i :: r => (Region.ready md ops l == [i]) && ChainB md ops (l.setIfInBounds i true) r
def ChainIs (ops : List Oper) : List Nat → List Oper → Prop
 | [], os => os = []
 | i :: r, os => ∃ o t, os = o :: t ∧ ops[i]? = some o ∧ ChainIs ops r t
theorem chain_ {P : Program} {ops : List Oper} {Q : Exit → Act → World → Prop} {md : Region.Mode} {S : World → Prop} {ds : List Nat} : ∀ (r : List Nat) (os : List Oper) (l : Array Bool) (a : Act) (w : World), ChainIs ops r os → ChainB md ops.toArray l r = true → (∀ i ∈ r, i ∈ ds) →
 wpList P ops.toArray Q os a w → wpAnyLast P md ops.toArray Q S ds r.length l a w
 | [], os, l, a, w, hc, hb, _, h => by
   have e : os = [] := hc
   subst e
   have hr : Region.ready md ops.toArray l = [] := by simpa [ChainB] using hb
   exact ⟨hr, h⟩
 | i :: r, os, l, a, w, hc, hb, hd, h => by
   obtain ⟨o, t, rfl, ho, ht⟩ := hc
   simp only [ChainB, Bool.and_eq_true, beq_iff_eq] at hb
   refine ⟨fun h0 => (by rw [hb.1] at h0; cases h0), fun j hj => ?_⟩
   rw [hb.1] at hj
   obtain rfl : j = i := by simpa using hj
   have ho' : ops.toArray[j]? = some o := by simpa using ho
   have hw : wpOp P ops.toArray Q j (wpList P ops.toArray Q t) a w := by unfold wpOp; simp only [ho']; exact h
   exact wpOp_mono (fun a' w' h' => ⟨fun hn => absurd (hd j (List.mem_cons_self ..)) hn, chain_ r t _ a' w' ht hb.2 (fun i hi => hd i (List.mem_cons_of_mem _ hi)) h'⟩) hw
theorem blk_drew {w : World} {b : Nat} {o : Obj} (h : w.heap[b]? = some o) : w.drew.heap[b]? = some o := h
set_option maxHeartbeats 20000000 in
set_option maxRecDepth 100000 in
theorem plain59_all : ∀ v, PlainAt 59 v := by
 refine S35.ind ?_
 intro v ih4 ih5 A4 c4 A5 c5 w hf la4 ra4 la5 ra5
 have hu35 := Try.underlying35
 have hu33 := Try.underlying33
 have hu32 := Try.underlying32
 have HF := Aside0.mk (fewV_at hf)
 have HE := Aside0.mk (plain_eq v)
 clear hf
 generalize plain v = pv at *
 obtain ⟨f0, f1, f2, f3, l4, l5⟩ := v
 simp only [] at *
 have HR4 := Aside0.mk ra4
 have HR5 := Aside0.mk ra5
 clear ra4 ra5
 rcases (show f0 = 1 ∨ f0 = 2 ∨ f0 = 3 ∨ f0 = 4 ∨ f0 = 7 ∨ f0 = 0 ∨ (f0 ≠ 0 ∧ f0 ≠ 1 ∧ f0 ≠ 2 ∧ f0 ≠ 3 ∧ f0 ≠ 4 ∧ f0 ≠ 5 ∧ f0 ≠ 6 ∧ f0 ≠ 7 ∧ f0 ≠ 8) ∨ f0 = 5 ∨ f0 = 6 ∨ f0 = 8 by omega) with rfl | rfl | rfl | rfl | rfl | rfl | ⟨h0, h1, h2, h3, h4, h5, h6, h7, h8⟩ | rfl | rfl | rfl
 case inl =>
  have he := HE.out
  simp [*] at he
  subst he
  go_enter Try.func59, Try.ntmps59
  go_wp2_with fail
  refine Calls.mono (has_calls 1 true false false false false true rfl _) ?_
  rintro e w5 ⟨rfl, hb⟩
  have b1 := blk_below (blk_alloc (blk_new w (.cells #[.int .i64 1, .int .i64 f1, .int .i64 f2, .string f3, .slice A4 l4.length c4, .slice A5 l5.length c5] 35)) _) hb
  have b2 := blk_below (blk_new (w.alloc (.cells #[.int .i64 1, .int .i64 f1, .int .i64 f2, .string f3, .slice A4 l4.length c4, .slice A5 l5.length c5] 35)) (.cells #[.int .i64 0, .int .i64 0, .int .i64 0, .string ⟨#[]⟩, .slice none 0 0, .slice none 0 0] 35)) hb
  have hsz : w.heap.size + 1 < w5.heap.size := by have := hb.size; simp at this; omega
  have hsz1 : w.heap.size < w5.heap.size := by omega
  simp only [World.size_alloc] at b1 b2
  have HB5 := Aside0.mk (below_step (below_alloc (below_alloc (RowKit.Below.refl w.heap.size w) _) _) hb)
  obtain ⟨x0, x1, x2, x3, x4, x5⟩ := box35 b1
  obtain ⟨y0, y1, y2, y3, y4, y5⟩ := box35 b2
  have t0 := frz b2 (n := 0)
  have t1 := frz b2 (n := 1)
  have t2 := frz b2 (n := 2)
  have t3 := frz b2 (n := 3)
  have t4 := frz b2 (n := 4)
  have t5 := frz b2 (n := 5)
  have B1 := Aside0.mk b1
  have B2 := Aside0.mk b2
  clear b1 b2 hb
  go_wp2
  have BF := Aside0.mk (blk_alloc (blk_alloc (six_set (c0 := .int .i64 1) (c1 := .int .i64 f1) (c2 := .int .i64 0) (c3 := .string ⟨#[]⟩) (c4 := .slice none 0 0) (c5 := .slice none 0 0) B2.out) (.cells #[.bool true, .bool false, .bool false, .bool false, .bool false] 163)) (.cells #[.int .i64 1, .int .i64 f1, .int .i64 0, .string ⟨#[]⟩, .slice none 0 0, .slice none 0 0] 35))
  have LF := Aside0.mk (below_alloc (below_alloc (RowKit.Below.setCell (RowKit.Below.setCell (RowKit.Below.setCell (RowKit.Below.setCell (RowKit.Below.setCell (RowKit.Below.setCell (HB5.out) (p := ⟨w.heap.size + 1, 0, none⟩) (Nat.le_succ _) (.int .i64 1)) (p := ⟨w.heap.size + 1, 1, none⟩) (Nat.le_succ _) (.int .i64 f1)) (p := ⟨w.heap.size + 1, 2, none⟩) (Nat.le_succ _) (.int .i64 0)) (p := ⟨w.heap.size + 1, 3, none⟩) (Nat.le_succ _) (.string ⟨#[]⟩)) (p := ⟨w.heap.size + 1, 4, none⟩) (Nat.le_succ _) (.slice none 0 0)) (p := ⟨w.heap.size + 1, 5, none⟩) (Nat.le_succ _) (.slice none 0 0)) (.cells #[.bool true, .bool false, .bool false, .bool false, .bool false] 163)) (.cells #[.int .i64 1, .int .i64 f1, .int .i64 0, .string ⟨#[]⟩, .slice none 0 0, .slice none 0 0] 35))
  clear x0 x1 x2 x3 x4 x5 y0 y1 y2 y3 y4 y5 t0 t1 t2 t3 t4 t5
  generalize ((((((((w5.setCell ⟨w.heap.size + 1, 0, none⟩ (.int .i64 1)).setCell ⟨w.heap.size + 1, 1, none⟩ (.int .i64 f1)).setCell ⟨w.heap.size + 1, 2, none⟩ (.int .i64 0)).setCell ⟨w.heap.size + 1, 3, none⟩ (.string ⟨#[]⟩)).setCell ⟨w.heap.size + 1, 4, none⟩ (.slice none 0 0)).setCell ⟨w.heap.size + 1, 5, none⟩ (.slice none 0 0)).alloc (.cells #[.bool true, .bool false, .bool false, .bool false, .bool false] 163)).alloc (.cells #[.int .i64 1, .int .i64 f1, .int .i64 0, .string ⟨#[]⟩, .slice none 0 0, .slice none 0 0] 35)) = WF at *
  obtain ⟨r0, r1, r2, r3, r4, r5⟩ := box35 BF.out
  exact bodyPost_ret (v := .agg #[.int .i64 1, .int .i64 f1, .int .i64 0, .string ⟨#[]⟩, .slice none 0 0, .slice none 0 0]) (by simp [results, Try.results59, go_sem, r0, r1, r2, r3, r4, r5]) rfl ⟨_, _, rfl, Kd.R_nil _ _ _ _ _, Kd.R_nil _ _ _ _ _, LF.out⟩
 case inr.inl =>
  have he := HE.out
  simp [*] at he
  subst he
  go_enter Try.func59, Try.ntmps59
  go_wp2_with fail
  refine Calls.mono (has_calls 2 true false false false false true rfl _) ?_
  rintro e w5 ⟨rfl, hb⟩
  have b1 := blk_below (blk_alloc (blk_new w (.cells #[.int .i64 2, .int .i64 f1, .int .i64 f2, .string f3, .slice A4 l4.length c4, .slice A5 l5.length c5] 35)) _) hb
  have b2 := blk_below (blk_new (w.alloc (.cells #[.int .i64 2, .int .i64 f1, .int .i64 f2, .string f3, .slice A4 l4.length c4, .slice A5 l5.length c5] 35)) (.cells #[.int .i64 0, .int .i64 0, .int .i64 0, .string ⟨#[]⟩, .slice none 0 0, .slice none 0 0] 35)) hb
  have hsz : w.heap.size + 1 < w5.heap.size := by have := hb.size; simp at this; omega
  have hsz1 : w.heap.size < w5.heap.size := by omega
  simp only [World.size_alloc] at b1 b2
  have HB5 := Aside0.mk (below_step (below_alloc (below_alloc (RowKit.Below.refl w.heap.size w) _) _) hb)
  obtain ⟨x0, x1, x2, x3, x4, x5⟩ := box35 b1
  obtain ⟨y0, y1, y2, y3, y4, y5⟩ := box35 b2
  have t0 := frz b2 (n := 0)
  have t1 := frz b2 (n := 1)
  have t2 := frz b2 (n := 2)
  have t3 := frz b2 (n := 3)
  have t4 := frz b2 (n := 4)
  have t5 := frz b2 (n := 5)
  have B1 := Aside0.mk b1
  have B2 := Aside0.mk b2
  clear b1 b2 hb
  go_wp2
  have BF := Aside0.mk (blk_alloc (blk_alloc (six_set (c0 := .int .i64 2) (c1 := .int .i64 f1) (c2 := .int .i64 0) (c3 := .string ⟨#[]⟩) (c4 := .slice none 0 0) (c5 := .slice none 0 0) B2.out) (.cells #[.bool true, .bool false, .bool false, .bool false, .bool false] 163)) (.cells #[.int .i64 2, .int .i64 f1, .int .i64 0, .string ⟨#[]⟩, .slice none 0 0, .slice none 0 0] 35))
  have LF := Aside0.mk (below_alloc (below_alloc (RowKit.Below.setCell (RowKit.Below.setCell (RowKit.Below.setCell (RowKit.Below.setCell (RowKit.Below.setCell (RowKit.Below.setCell (HB5.out) (p := ⟨w.heap.size + 1, 0, none⟩) (Nat.le_succ _) (.int .i64 2)) (p := ⟨w.heap.size + 1, 1, none⟩) (Nat.le_succ _) (.int .i64 f1)) (p := ⟨w.heap.size + 1, 2, none⟩) (Nat.le_succ _) (.int .i64 0)) (p := ⟨w.heap.size + 1, 3, none⟩) (Nat.le_succ _) (.string ⟨#[]⟩)) (p := ⟨w.heap.size + 1, 4, none⟩) (Nat.le_succ _) (.slice none 0 0)) (p := ⟨w.heap.size + 1, 5, none⟩) (Nat.le_succ _) (.slice none 0 0)) (.cells #[.bool true, .bool false, .bool false, .bool false, .bool false] 163)) (.cells #[.int .i64 2, .int .i64 f1, .int .i64 0, .string ⟨#[]⟩, .slice none 0 0, .slice none 0 0] 35))
  clear x0 x1 x2 x3 x4 x5 y0 y1 y2 y3 y4 y5 t0 t1 t2 t3 t4 t5
  generalize ((((((((w5.setCell ⟨w.heap.size + 1, 0, none⟩ (.int .i64 2)).setCell ⟨w.heap.size + 1, 1, none⟩ (.int .i64 f1)).setCell ⟨w.heap.size + 1, 2, none⟩ (.int .i64 0)).setCell ⟨w.heap.size + 1, 3, none⟩ (.string ⟨#[]⟩)).setCell ⟨w.heap.size + 1, 4, none⟩ (.slice none 0 0)).setCell ⟨w.heap.size + 1, 5, none⟩ (.slice none 0 0)).alloc (.cells #[.bool true, .bool false, .bool false, .bool false, .bool false] 163)).alloc (.cells #[.int .i64 2, .int .i64 f1, .int .i64 0, .string ⟨#[]⟩, .slice none 0 0, .slice none 0 0] 35)) = WF at *
  obtain ⟨r0, r1, r2, r3, r4, r5⟩ := box35 BF.out
  exact bodyPost_ret (v := .agg #[.int .i64 2, .int .i64 f1, .int .i64 0, .string ⟨#[]⟩, .slice none 0 0, .slice none 0 0]) (by simp [results, Try.results59, go_sem, r0, r1, r2, r3, r4, r5]) rfl ⟨_, _, rfl, Kd.R_nil _ _ _ _ _, Kd.R_nil _ _ _ _ _, LF.out⟩
 case inr.inr.inl =>
  have he := HE.out
  simp [*] at he
  subst he
  go_enter Try.func59, Try.ntmps59
  go_wp2_with fail
  refine Calls.mono (has_calls 3 false false true false false true rfl _) ?_
  rintro e w5 ⟨rfl, hb⟩
  have b1 := blk_below (blk_alloc (blk_new w (.cells #[.int .i64 3, .int .i64 f1, .int .i64 f2, .string f3, .slice A4 l4.length c4, .slice A5 l5.length c5] 35)) _) hb
  have b2 := blk_below (blk_new (w.alloc (.cells #[.int .i64 3, .int .i64 f1, .int .i64 f2, .string f3, .slice A4 l4.length c4, .slice A5 l5.length c5] 35)) (.cells #[.int .i64 0, .int .i64 0, .int .i64 0, .string ⟨#[]⟩, .slice none 0 0, .slice none 0 0] 35)) hb
  have hsz : w.heap.size + 1 < w5.heap.size := by have := hb.size; simp at this; omega
  have hsz1 : w.heap.size < w5.heap.size := by omega
  simp only [World.size_alloc] at b1 b2
  have HB5 := Aside0.mk (below_step (below_alloc (below_alloc (RowKit.Below.refl w.heap.size w) _) _) hb)
  obtain ⟨x0, x1, x2, x3, x4, x5⟩ := box35 b1
  obtain ⟨y0, y1, y2, y3, y4, y5⟩ := box35 b2
  have t0 := frz b2 (n := 0)
  have t1 := frz b2 (n := 1)
  have t2 := frz b2 (n := 2)
  have t3 := frz b2 (n := 3)
  have t4 := frz b2 (n := 4)
  have t5 := frz b2 (n := 5)
  have B1 := Aside0.mk b1
  have B2 := Aside0.mk b2
  clear b1 b2 hb
  go_wp2
  have BF := Aside0.mk (blk_alloc (blk_alloc (six_set (c0 := .int .i64 3) (c1 := .int .i64 0) (c2 := .int .i64 0) (c3 := .string f3) (c4 := .slice none 0 0) (c5 := .slice none 0 0) B2.out) (.cells #[.bool false, .bool false, .bool true, .bool false, .bool false] 163)) (.cells #[.int .i64 3, .int .i64 0, .int .i64 0, .string f3, .slice none 0 0, .slice none 0 0] 35))
  have LF := Aside0.mk (below_alloc (below_alloc (RowKit.Below.setCell (RowKit.Below.setCell (RowKit.Below.setCell (RowKit.Below.setCell (RowKit.Below.setCell (RowKit.Below.setCell (HB5.out) (p := ⟨w.heap.size + 1, 0, none⟩) (Nat.le_succ _) (.int .i64 3)) (p := ⟨w.heap.size + 1, 1, none⟩) (Nat.le_succ _) (.int .i64 0)) (p := ⟨w.heap.size + 1, 2, none⟩) (Nat.le_succ _) (.int .i64 0)) (p := ⟨w.heap.size + 1, 3, none⟩) (Nat.le_succ _) (.string f3)) (p := ⟨w.heap.size + 1, 4, none⟩) (Nat.le_succ _) (.slice none 0 0)) (p := ⟨w.heap.size + 1, 5, none⟩) (Nat.le_succ _) (.slice none 0 0)) (.cells #[.bool false, .bool false, .bool true, .bool false, .bool false] 163)) (.cells #[.int .i64 3, .int .i64 0, .int .i64 0, .string f3, .slice none 0 0, .slice none 0 0] 35))
  clear x0 x1 x2 x3 x4 x5 y0 y1 y2 y3 y4 y5 t0 t1 t2 t3 t4 t5
  generalize ((((((((w5.setCell ⟨w.heap.size + 1, 0, none⟩ (.int .i64 3)).setCell ⟨w.heap.size + 1, 1, none⟩ (.int .i64 0)).setCell ⟨w.heap.size + 1, 2, none⟩ (.int .i64 0)).setCell ⟨w.heap.size + 1, 3, none⟩ (.string f3)).setCell ⟨w.heap.size + 1, 4, none⟩ (.slice none 0 0)).setCell ⟨w.heap.size + 1, 5, none⟩ (.slice none 0 0)).alloc (.cells #[.bool false, .bool false, .bool true, .bool false, .bool false] 163)).alloc (.cells #[.int .i64 3, .int .i64 0, .int .i64 0, .string f3, .slice none 0 0, .slice none 0 0] 35)) = WF at *
  obtain ⟨r0, r1, r2, r3, r4, r5⟩ := box35 BF.out
  exact bodyPost_ret (v := .agg #[.int .i64 3, .int .i64 0, .int .i64 0, .string f3, .slice none 0 0, .slice none 0 0]) (by simp [results, Try.results59, go_sem, r0, r1, r2, r3, r4, r5]) rfl ⟨_, _, rfl, Kd.R_nil _ _ _ _ _, Kd.R_nil _ _ _ _ _, LF.out⟩
 case inr.inr.inr.inl =>
  have he := HE.out
  simp [*] at he
  subst he
  go_enter Try.func59, Try.ntmps59
  go_wp2_with fail
  refine Calls.mono (has_calls 4 false false true false false true rfl _) ?_
  rintro e w5 ⟨rfl, hb⟩
  have b1 := blk_below (blk_alloc (blk_new w (.cells #[.int .i64 4, .int .i64 f1, .int .i64 f2, .string f3, .slice A4 l4.length c4, .slice A5 l5.length c5] 35)) _) hb
  have b2 := blk_below (blk_new (w.alloc (.cells #[.int .i64 4, .int .i64 f1, .int .i64 f2, .string f3, .slice A4 l4.length c4, .slice A5 l5.length c5] 35)) (.cells #[.int .i64 0, .int .i64 0, .int .i64 0, .string ⟨#[]⟩, .slice none 0 0, .slice none 0 0] 35)) hb
  have hsz : w.heap.size + 1 < w5.heap.size := by have := hb.size; simp at this; omega
  have hsz1 : w.heap.size < w5.heap.size := by omega
  simp only [World.size_alloc] at b1 b2
  have HB5 := Aside0.mk (below_step (below_alloc (below_alloc (RowKit.Below.refl w.heap.size w) _) _) hb)
  obtain ⟨x0, x1, x2, x3, x4, x5⟩ := box35 b1
  obtain ⟨y0, y1, y2, y3, y4, y5⟩ := box35 b2
  have t0 := frz b2 (n := 0)
  have t1 := frz b2 (n := 1)
  have t2 := frz b2 (n := 2)
  have t3 := frz b2 (n := 3)
  have t4 := frz b2 (n := 4)
  have t5 := frz b2 (n := 5)
  have B1 := Aside0.mk b1
  have B2 := Aside0.mk b2
  clear b1 b2 hb
  go_wp2
  have BF := Aside0.mk (blk_alloc (blk_alloc (six_set (c0 := .int .i64 4) (c1 := .int .i64 0) (c2 := .int .i64 0) (c3 := .string f3) (c4 := .slice none 0 0) (c5 := .slice none 0 0) B2.out) (.cells #[.bool false, .bool false, .bool true, .bool false, .bool false] 163)) (.cells #[.int .i64 4, .int .i64 0, .int .i64 0, .string f3, .slice none 0 0, .slice none 0 0] 35))
  have LF := Aside0.mk (below_alloc (below_alloc (RowKit.Below.setCell (RowKit.Below.setCell (RowKit.Below.setCell (RowKit.Below.setCell (RowKit.Below.setCell (RowKit.Below.setCell (HB5.out) (p := ⟨w.heap.size + 1, 0, none⟩) (Nat.le_succ _) (.int .i64 4)) (p := ⟨w.heap.size + 1, 1, none⟩) (Nat.le_succ _) (.int .i64 0)) (p := ⟨w.heap.size + 1, 2, none⟩) (Nat.le_succ _) (.int .i64 0)) (p := ⟨w.heap.size + 1, 3, none⟩) (Nat.le_succ _) (.string f3)) (p := ⟨w.heap.size + 1, 4, none⟩) (Nat.le_succ _) (.slice none 0 0)) (p := ⟨w.heap.size + 1, 5, none⟩) (Nat.le_succ _) (.slice none 0 0)) (.cells #[.bool false, .bool false, .bool true, .bool false, .bool false] 163)) (.cells #[.int .i64 4, .int .i64 0, .int .i64 0, .string f3, .slice none 0 0, .slice none 0 0] 35))
  clear x0 x1 x2 x3 x4 x5 y0 y1 y2 y3 y4 y5 t0 t1 t2 t3 t4 t5
  generalize ((((((((w5.setCell ⟨w.heap.size + 1, 0, none⟩ (.int .i64 4)).setCell ⟨w.heap.size + 1, 1, none⟩ (.int .i64 0)).setCell ⟨w.heap.size + 1, 2, none⟩ (.int .i64 0)).setCell ⟨w.heap.size + 1, 3, none⟩ (.string f3)).setCell ⟨w.heap.size + 1, 4, none⟩ (.slice none 0 0)).setCell ⟨w.heap.size + 1, 5, none⟩ (.slice none 0 0)).alloc (.cells #[.bool false, .bool false, .bool true, .bool false, .bool false] 163)).alloc (.cells #[.int .i64 4, .int .i64 0, .int .i64 0, .string f3, .slice none 0 0, .slice none 0 0] 35)) = WF at *
  obtain ⟨r0, r1, r2, r3, r4, r5⟩ := box35 BF.out
  exact bodyPost_ret (v := .agg #[.int .i64 4, .int .i64 0, .int .i64 0, .string f3, .slice none 0 0, .slice none 0 0]) (by simp [results, Try.results59, go_sem, r0, r1, r2, r3, r4, r5]) rfl ⟨_, _, rfl, Kd.R_nil _ _ _ _ _, Kd.R_nil _ _ _ _ _, LF.out⟩
 case inr.inr.inr.inr.inl =>
  have he := HE.out
  simp [*] at he
  subst he
  go_enter Try.func59, Try.ntmps59
  go_wp2_with fail
  refine Calls.mono (has_calls 7 true true false false false true rfl _) ?_
  rintro e w5 ⟨rfl, hb⟩
  have b1 := blk_below (blk_alloc (blk_new w (.cells #[.int .i64 7, .int .i64 f1, .int .i64 f2, .string f3, .slice A4 l4.length c4, .slice A5 l5.length c5] 35)) _) hb
  have b2 := blk_below (blk_new (w.alloc (.cells #[.int .i64 7, .int .i64 f1, .int .i64 f2, .string f3, .slice A4 l4.length c4, .slice A5 l5.length c5] 35)) (.cells #[.int .i64 0, .int .i64 0, .int .i64 0, .string ⟨#[]⟩, .slice none 0 0, .slice none 0 0] 35)) hb
  have hsz : w.heap.size + 1 < w5.heap.size := by have := hb.size; simp at this; omega
  have hsz1 : w.heap.size < w5.heap.size := by omega
  simp only [World.size_alloc] at b1 b2
  have HB5 := Aside0.mk (below_step (below_alloc (below_alloc (RowKit.Below.refl w.heap.size w) _) _) hb)
  obtain ⟨x0, x1, x2, x3, x4, x5⟩ := box35 b1
  obtain ⟨y0, y1, y2, y3, y4, y5⟩ := box35 b2
  have t0 := frz b2 (n := 0)
  have t1 := frz b2 (n := 1)
  have t2 := frz b2 (n := 2)
  have t3 := frz b2 (n := 3)
  have t4 := frz b2 (n := 4)
  have t5 := frz b2 (n := 5)
  have B1 := Aside0.mk b1
  have B2 := Aside0.mk b2
  clear b1 b2 hb
  go_wp2
  have BF := Aside0.mk (blk_alloc (blk_alloc (six_set (c0 := .int .i64 7) (c1 := .int .i64 f1) (c2 := .int .i64 f2) (c3 := .string ⟨#[]⟩) (c4 := .slice none 0 0) (c5 := .slice none 0 0) B2.out) (.cells #[.bool true, .bool true, .bool false, .bool false, .bool false] 163)) (.cells #[.int .i64 7, .int .i64 f1, .int .i64 f2, .string ⟨#[]⟩, .slice none 0 0, .slice none 0 0] 35))
  have LF := Aside0.mk (below_alloc (below_alloc (RowKit.Below.setCell (RowKit.Below.setCell (RowKit.Below.setCell (RowKit.Below.setCell (RowKit.Below.setCell (RowKit.Below.setCell (HB5.out) (p := ⟨w.heap.size + 1, 0, none⟩) (Nat.le_succ _) (.int .i64 7)) (p := ⟨w.heap.size + 1, 1, none⟩) (Nat.le_succ _) (.int .i64 f1)) (p := ⟨w.heap.size + 1, 2, none⟩) (Nat.le_succ _) (.int .i64 f2)) (p := ⟨w.heap.size + 1, 3, none⟩) (Nat.le_succ _) (.string ⟨#[]⟩)) (p := ⟨w.heap.size + 1, 4, none⟩) (Nat.le_succ _) (.slice none 0 0)) (p := ⟨w.heap.size + 1, 5, none⟩) (Nat.le_succ _) (.slice none 0 0)) (.cells #[.bool true, .bool true, .bool false, .bool false, .bool false] 163)) (.cells #[.int .i64 7, .int .i64 f1, .int .i64 f2, .string ⟨#[]⟩, .slice none 0 0, .slice none 0 0] 35))
  clear x0 x1 x2 x3 x4 x5 y0 y1 y2 y3 y4 y5 t0 t1 t2 t3 t4 t5
  generalize ((((((((w5.setCell ⟨w.heap.size + 1, 0, none⟩ (.int .i64 7)).setCell ⟨w.heap.size + 1, 1, none⟩ (.int .i64 f1)).setCell ⟨w.heap.size + 1, 2, none⟩ (.int .i64 f2)).setCell ⟨w.heap.size + 1, 3, none⟩ (.string ⟨#[]⟩)).setCell ⟨w.heap.size + 1, 4, none⟩ (.slice none 0 0)).setCell ⟨w.heap.size + 1, 5, none⟩ (.slice none 0 0)).alloc (.cells #[.bool true, .bool true, .bool false, .bool false, .bool false] 163)).alloc (.cells #[.int .i64 7, .int .i64 f1, .int .i64 f2, .string ⟨#[]⟩, .slice none 0 0, .slice none 0 0] 35)) = WF at *
  obtain ⟨r0, r1, r2, r3, r4, r5⟩ := box35 BF.out
  exact bodyPost_ret (v := .agg #[.int .i64 7, .int .i64 f1, .int .i64 f2, .string ⟨#[]⟩, .slice none 0 0, .slice none 0 0]) (by simp [results, Try.results59, go_sem, r0, r1, r2, r3, r4, r5]) rfl ⟨_, _, rfl, Kd.R_nil _ _ _ _ _, Kd.R_nil _ _ _ _ _, LF.out⟩
 case inr.inr.inr.inr.inr.inl =>
  have he := HE.out
  simp [*] at he
  subst he
  go_enter Try.func59, Try.ntmps59
  go_wp2_with fail
  refine Calls.mono (has_calls 0 false false false false false true rfl _) ?_
  rintro e w5 ⟨rfl, hb⟩
  have b1 := blk_below (blk_alloc (blk_new w (.cells #[.int .i64 0, .int .i64 f1, .int .i64 f2, .string f3, .slice A4 l4.length c4, .slice A5 l5.length c5] 35)) _) hb
  have b2 := blk_below (blk_new (w.alloc (.cells #[.int .i64 0, .int .i64 f1, .int .i64 f2, .string f3, .slice A4 l4.length c4, .slice A5 l5.length c5] 35)) (.cells #[.int .i64 0, .int .i64 0, .int .i64 0, .string ⟨#[]⟩, .slice none 0 0, .slice none 0 0] 35)) hb
  have hsz : w.heap.size + 1 < w5.heap.size := by have := hb.size; simp at this; omega
  have hsz1 : w.heap.size < w5.heap.size := by omega
  simp only [World.size_alloc] at b1 b2
  have HB5 := Aside0.mk (below_step (below_alloc (below_alloc (RowKit.Below.refl w.heap.size w) _) _) hb)
  obtain ⟨x0, x1, x2, x3, x4, x5⟩ := box35 b1
  obtain ⟨y0, y1, y2, y3, y4, y5⟩ := box35 b2
  have t0 := frz b2 (n := 0)
  have t1 := frz b2 (n := 1)
  have t2 := frz b2 (n := 2)
  have t3 := frz b2 (n := 3)
  have t4 := frz b2 (n := 4)
  have t5 := frz b2 (n := 5)
  have B1 := Aside0.mk b1
  have B2 := Aside0.mk b2
  clear b1 b2 hb
  go_wp2
  have BF := Aside0.mk (blk_alloc (blk_alloc (six_set (c0 := .int .i64 0) (c1 := .int .i64 0) (c2 := .int .i64 0) (c3 := .string ⟨#[]⟩) (c4 := .slice none 0 0) (c5 := .slice none 0 0) B2.out) (.cells #[.bool false, .bool false, .bool false, .bool false, .bool false] 163)) (.cells #[.int .i64 0, .int .i64 0, .int .i64 0, .string ⟨#[]⟩, .slice none 0 0, .slice none 0 0] 35))
  have LF := Aside0.mk (below_alloc (below_alloc (RowKit.Below.setCell (RowKit.Below.setCell (RowKit.Below.setCell (RowKit.Below.setCell (RowKit.Below.setCell (RowKit.Below.setCell (HB5.out) (p := ⟨w.heap.size + 1, 0, none⟩) (Nat.le_succ _) (.int .i64 0)) (p := ⟨w.heap.size + 1, 1, none⟩) (Nat.le_succ _) (.int .i64 0)) (p := ⟨w.heap.size + 1, 2, none⟩) (Nat.le_succ _) (.int .i64 0)) (p := ⟨w.heap.size + 1, 3, none⟩) (Nat.le_succ _) (.string ⟨#[]⟩)) (p := ⟨w.heap.size + 1, 4, none⟩) (Nat.le_succ _) (.slice none 0 0)) (p := ⟨w.heap.size + 1, 5, none⟩) (Nat.le_succ _) (.slice none 0 0)) (.cells #[.bool false, .bool false, .bool false, .bool false, .bool false] 163)) (.cells #[.int .i64 0, .int .i64 0, .int .i64 0, .string ⟨#[]⟩, .slice none 0 0, .slice none 0 0] 35))
  clear x0 x1 x2 x3 x4 x5 y0 y1 y2 y3 y4 y5 t0 t1 t2 t3 t4 t5
  generalize ((((((((w5.setCell ⟨w.heap.size + 1, 0, none⟩ (.int .i64 0)).setCell ⟨w.heap.size + 1, 1, none⟩ (.int .i64 0)).setCell ⟨w.heap.size + 1, 2, none⟩ (.int .i64 0)).setCell ⟨w.heap.size + 1, 3, none⟩ (.string ⟨#[]⟩)).setCell ⟨w.heap.size + 1, 4, none⟩ (.slice none 0 0)).setCell ⟨w.heap.size + 1, 5, none⟩ (.slice none 0 0)).alloc (.cells #[.bool false, .bool false, .bool false, .bool false, .bool false] 163)).alloc (.cells #[.int .i64 0, .int .i64 0, .int .i64 0, .string ⟨#[]⟩, .slice none 0 0, .slice none 0 0] 35)) = WF at *
  obtain ⟨r0, r1, r2, r3, r4, r5⟩ := box35 BF.out
  exact bodyPost_ret (v := .agg #[.int .i64 0, .int .i64 0, .int .i64 0, .string ⟨#[]⟩, .slice none 0 0, .slice none 0 0]) (by simp [results, Try.results59, go_sem, r0, r1, r2, r3, r4, r5]) rfl ⟨_, _, rfl, Kd.R_nil _ _ _ _ _, Kd.R_nil _ _ _ _ _, LF.out⟩
 case inr.inr.inr.inr.inr.inr.inl =>
  have he := HE.out
  simp [*] at he
  subst he
  go_enter Try.func59, Try.ntmps59
  go_wp2_with fail
  refine Calls.mono (has_calls f0 false false false false false false (hasT_none h0 h1 h2 h3 h4 h5 h6 h7 h8) _) ?_
  rintro e w5 ⟨rfl, hb⟩
  have b1 := blk_below (blk_alloc (blk_new w (.cells #[.int .i64 f0, .int .i64 f1, .int .i64 f2, .string f3, .slice A4 l4.length c4, .slice A5 l5.length c5] 35)) _) hb
  have b2 := blk_below (blk_new (w.alloc (.cells #[.int .i64 f0, .int .i64 f1, .int .i64 f2, .string f3, .slice A4 l4.length c4, .slice A5 l5.length c5] 35)) (.cells #[.int .i64 0, .int .i64 0, .int .i64 0, .string ⟨#[]⟩, .slice none 0 0, .slice none 0 0] 35)) hb
  have hsz : w.heap.size + 1 < w5.heap.size := by have := hb.size; simp at this; omega
  have hsz1 : w.heap.size < w5.heap.size := by omega
  simp only [World.size_alloc] at b1 b2
  have HB5 := Aside0.mk (below_step (below_alloc (below_alloc (RowKit.Below.refl w.heap.size w) _) _) hb)
  obtain ⟨x0, x1, x2, x3, x4, x5⟩ := box35 b1
  obtain ⟨y0, y1, y2, y3, y4, y5⟩ := box35 b2
  have t0 := frz b2 (n := 0)
  have t1 := frz b2 (n := 1)
  have t2 := frz b2 (n := 2)
  have t3 := frz b2 (n := 3)
  have t4 := frz b2 (n := 4)
  have t5 := frz b2 (n := 5)
  have B1 := Aside0.mk b1
  have B2 := Aside0.mk b2
  clear b1 b2 hb
  go_wp2
  have BF := Aside0.mk (blk_alloc (six_set (c0 := .int .i64 0) (c1 := .int .i64 0) (c2 := .int .i64 0) (c3 := .string ⟨#[]⟩) (c4 := .slice none 0 0) (c5 := .slice none 0 0) B2.out) (.cells #[.bool false, .bool false, .bool false, .bool false, .bool false] 163))
  have LF := Aside0.mk (below_alloc (RowKit.Below.setCell (RowKit.Below.setCell (RowKit.Below.setCell (RowKit.Below.setCell (RowKit.Below.setCell (RowKit.Below.setCell (HB5.out) (p := ⟨w.heap.size + 1, 0, none⟩) (Nat.le_succ _) (.int .i64 0)) (p := ⟨w.heap.size + 1, 1, none⟩) (Nat.le_succ _) (.int .i64 0)) (p := ⟨w.heap.size + 1, 2, none⟩) (Nat.le_succ _) (.int .i64 0)) (p := ⟨w.heap.size + 1, 3, none⟩) (Nat.le_succ _) (.string ⟨#[]⟩)) (p := ⟨w.heap.size + 1, 4, none⟩) (Nat.le_succ _) (.slice none 0 0)) (p := ⟨w.heap.size + 1, 5, none⟩) (Nat.le_succ _) (.slice none 0 0)) (.cells #[.bool false, .bool false, .bool false, .bool false, .bool false] 163))
  clear x0 x1 x2 x3 x4 x5 y0 y1 y2 y3 y4 y5 t0 t1 t2 t3 t4 t5
  generalize (((((((w5.setCell ⟨w.heap.size + 1, 0, none⟩ (.int .i64 0)).setCell ⟨w.heap.size + 1, 1, none⟩ (.int .i64 0)).setCell ⟨w.heap.size + 1, 2, none⟩ (.int .i64 0)).setCell ⟨w.heap.size + 1, 3, none⟩ (.string ⟨#[]⟩)).setCell ⟨w.heap.size + 1, 4, none⟩ (.slice none 0 0)).setCell ⟨w.heap.size + 1, 5, none⟩ (.slice none 0 0)).alloc (.cells #[.bool false, .bool false, .bool false, .bool false, .bool false] 163)) = WF at *
  obtain ⟨r0, r1, r2, r3, r4, r5⟩ := box35 BF.out
  exact bodyPost_ret (v := .agg #[.int .i64 0, .int .i64 0, .int .i64 0, .string ⟨#[]⟩, .slice none 0 0, .slice none 0 0]) (by simp [results, Try.results59, go_sem, r0, r1, r2, r3, r4, r5]) rfl ⟨_, _, rfl, Kd.R_nil _ _ _ _ _, Kd.R_nil _ _ _ _ _, LF.out⟩
 case inr.inr.inr.inr.inr.inr.inr.inr.inl =>
  have he := HE.out
  simp [*] at he
  subst he
  go_enter Try.func59, Try.ntmps59
  go_wp2_with fail
  refine Calls.mono (has_calls 6 false false false false true true rfl _) ?_
  rintro e w5 ⟨rfl, hb⟩
  have b1 := blk_below (blk_alloc (blk_new w (.cells #[.int .i64 6, .int .i64 f1, .int .i64 f2, .string f3, .slice A4 l4.length c4, .slice A5 l5.length c5] 35)) _) hb
  have b2 := blk_below (blk_new (w.alloc (.cells #[.int .i64 6, .int .i64 f1, .int .i64 f2, .string f3, .slice A4 l4.length c4, .slice A5 l5.length c5] 35)) (.cells #[.int .i64 0, .int .i64 0, .int .i64 0, .string ⟨#[]⟩, .slice none 0 0, .slice none 0 0] 35)) hb
  have hsz : w.heap.size + 1 < w5.heap.size := by have := hb.size; simp at this; omega
  have hsz1 : w.heap.size < w5.heap.size := by omega
  simp only [World.size_alloc] at b1 b2
  have HB5 := Aside0.mk (below_step (below_alloc (below_alloc (RowKit.Below.refl w.heap.size w) _) _) hb)
  obtain ⟨x0, x1, x2, x3, x4, x5⟩ := box35 b1
  obtain ⟨y0, y1, y2, y3, y4, y5⟩ := box35 b2
  have t0 := frz b2 (n := 0)
  have t1 := frz b2 (n := 1)
  have t2 := frz b2 (n := 2)
  have t3 := frz b2 (n := 3)
  have t4 := frz b2 (n := 4)
  have t5 := frz b2 (n := 5)
  have B1 := Aside0.mk b1
  have B2 := Aside0.mk b2
  clear b1 b2 hb
  go_wp2_with fail
  refine Calls.mono (pp_calls l5 A5 c5 _ HF.out.2.1 (by (with_reducible repeat (first | apply Kd.C_alloc | apply Kd.C_drewN | apply Kd.C_drew)); exact Kd.C_below HR5.out HB5.out) HF.out.2.2.2 ih5) ?_
  rintro e w7 ⟨v, rfl, hR, hb⟩
  have p1 := blk_below (blk_new (w5.alloc (.cells #[.bool false, .bool false, .bool false, .bool false, .bool true] 163)) (.cells #[.int .i64 6, .int .i64 0, .int .i64 0, .string ⟨#[]⟩, .slice none 0 0, .slice none 0 0] 35)) hb
  have p2 := blk_below (blk_alloc (blk_alloc B2.out (.cells #[.bool false, .bool false, .bool false, .bool false, .bool true] 163)) (.cells #[.int .i64 6, .int .i64 0, .int .i64 0, .string ⟨#[]⟩, .slice none 0 0, .slice none 0 0] 35)) hb
  have HB7 := Aside0.mk (below_step (below_alloc (below_alloc HB5.out (.cells #[.bool false, .bool false, .bool false, .bool false, .bool true] 163)) (.cells #[.int .i64 6, .int .i64 0, .int .i64 0, .string ⟨#[]⟩, .slice none 0 0, .slice none 0 0] 35)) hb)
  have hsz7 := hb.size
  simp only [World.size_alloc] at p1 p2 hR hsz7
  have P1 := Aside0.mk p1
  have P2 := Aside0.mk p2
  have HR := Aside0.mk hR
  clear p1 p2 hb hR x0 x1 x2 x3 x4 x5 y0 y1 y2 y3 y4 y5 t0 t1 t2 t3 t4 t5
  obtain ⟨A', c', hv⟩ := Kd.R_slice HR.out
  subst hv
  obtain ⟨x0, x1, x2, x3, x4, x5⟩ := box35 P1.out
  obtain ⟨y0, y1, y2, y3, y4, y5⟩ := box35 P2.out
  have z5 := frz P1.out (n := 5)
  have t0 := frz P2.out (n := 0)
  have t1 := frz P2.out (n := 1)
  have t2 := frz P2.out (n := 2)
  have t3 := frz P2.out (n := 3)
  have t4 := frz P2.out (n := 4)
  have t5 := frz P2.out (n := 5)
  go_wp2
  have BF := Aside0.mk (six_set (c0 := .int .i64 6) (c1 := .int .i64 0) (c2 := .int .i64 0) (c3 := .string ⟨#[]⟩) (c4 := .slice none 0 0) (c5 := .slice A' (pairsP l5).length c') (cell_far (o := 5) (v := .slice A' (pairsP l5).length c') P2.out (show w.heap.size + 1 ≠ w5.heap.size + 1 by omega)))
  have RF := Aside0.mk (show k89.R 89 _ w.heap.size (fun _ => True) (.slice A' (pairsP l5).length c') (pairsP l5) from Kd.R_lower (base := w5.heap.size + 1 + 1) (Kd.R_mono (Kd.R_far (p := ⟨w.heap.size + 1, 5, none⟩) (Kd.R_far (p := ⟨w.heap.size + 1, 4, none⟩) (Kd.R_far (p := ⟨w.heap.size + 1, 3, none⟩) (Kd.R_far (p := ⟨w.heap.size + 1, 2, none⟩) (Kd.R_far (p := ⟨w.heap.size + 1, 1, none⟩) (Kd.R_far (p := ⟨w.heap.size + 1, 0, none⟩) (Kd.R_far (p := ⟨w5.heap.size + 1, 5, none⟩) (Kd.R_bound HR.out) (fun k hk => by have := hk.2.1; show k ≠ w5.heap.size + 1; omega) (.slice A' (pairsP l5).length c')) (fun k hk => by have := hk.2.1; show k ≠ w.heap.size + 1; omega) (.int .i64 6)) (fun k hk => by have := hk.2.1; show k ≠ w.heap.size + 1; omega) (.int .i64 0)) (fun k hk => by have := hk.2.1; show k ≠ w.heap.size + 1; omega) (.int .i64 0)) (fun k hk => by have := hk.2.1; show k ≠ w.heap.size + 1; omega) (.string ⟨#[]⟩)) (fun k hk => by have := hk.2.1; show k ≠ w.heap.size + 1; omega) (.slice none 0 0)) (fun k hk => by have := hk.2.1; show k ≠ w.heap.size + 1; omega) (.slice A' (pairsP l5).length c')) (fun _ _ => trivial)) (by omega))
  have LF := Aside0.mk (RowKit.Below.setCell (RowKit.Below.setCell (RowKit.Below.setCell (RowKit.Below.setCell (RowKit.Below.setCell (RowKit.Below.setCell (RowKit.Below.setCell HB7.out (p := ⟨w5.heap.size + 1, 5, none⟩) (by show w.heap.size ≤ w5.heap.size + 1; omega) (.slice A' (pairsP l5).length c')) (p := ⟨w.heap.size + 1, 0, none⟩) (Nat.le_succ _) (.int .i64 6)) (p := ⟨w.heap.size + 1, 1, none⟩) (Nat.le_succ _) (.int .i64 0)) (p := ⟨w.heap.size + 1, 2, none⟩) (Nat.le_succ _) (.int .i64 0)) (p := ⟨w.heap.size + 1, 3, none⟩) (Nat.le_succ _) (.string ⟨#[]⟩)) (p := ⟨w.heap.size + 1, 4, none⟩) (Nat.le_succ _) (.slice none 0 0)) (p := ⟨w.heap.size + 1, 5, none⟩) (Nat.le_succ _) (.slice A' (pairsP l5).length c'))
  clear x0 x1 x2 x3 x4 x5 y0 y1 y2 y3 y4 y5 z5 t0 t1 t2 t3 t4 t5
  generalize (((((((w7.setCell ⟨w5.heap.size + 1, 5, none⟩ (.slice A' (pairsP l5).length c')).setCell ⟨w.heap.size + 1, 0, none⟩ (.int .i64 6)).setCell ⟨w.heap.size + 1, 1, none⟩ (.int .i64 0)).setCell ⟨w.heap.size + 1, 2, none⟩ (.int .i64 0)).setCell ⟨w.heap.size + 1, 3, none⟩ (.string ⟨#[]⟩)).setCell ⟨w.heap.size + 1, 4, none⟩ (.slice none 0 0)).setCell ⟨w.heap.size + 1, 5, none⟩ (.slice A' (pairsP l5).length c')) = WF at *
  obtain ⟨r0, r1, r2, r3, r4, r5⟩ := box35 BF.out
  exact bodyPost_ret (v := .agg #[.int .i64 6, .int .i64 0, .int .i64 0, .string ⟨#[]⟩, .slice none 0 0, .slice A' (pairsP l5).length c']) (by simp [results, Try.results59, go_sem, r0, r1, r2, r3, r4, r5]) rfl ⟨_, _, rfl, Kd.R_nil _ _ _ _ _, RF.out, LF.out⟩
 case inr.inr.inr.inr.inr.inr.inr.inr.inr =>
  have he := HE.out
  simp [*] at he
  subst he
  go_enter Try.func59, Try.ntmps59
  go_wp2_with fail
  refine Calls.mono (has_calls 8 false false true false true true rfl _) ?_
  rintro e w5 ⟨rfl, hb⟩
  have b1 := blk_below (blk_alloc (blk_new w (.cells #[.int .i64 8, .int .i64 f1, .int .i64 f2, .string f3, .slice A4 l4.length c4, .slice A5 l5.length c5] 35)) _) hb
  have b2 := blk_below (blk_new (w.alloc (.cells #[.int .i64 8, .int .i64 f1, .int .i64 f2, .string f3, .slice A4 l4.length c4, .slice A5 l5.length c5] 35)) (.cells #[.int .i64 0, .int .i64 0, .int .i64 0, .string ⟨#[]⟩, .slice none 0 0, .slice none 0 0] 35)) hb
  have hsz : w.heap.size + 1 < w5.heap.size := by have := hb.size; simp at this; omega
  have hsz1 : w.heap.size < w5.heap.size := by omega
  simp only [World.size_alloc] at b1 b2
  have HB5 := Aside0.mk (below_step (below_alloc (below_alloc (RowKit.Below.refl w.heap.size w) _) _) hb)
  obtain ⟨x0, x1, x2, x3, x4, x5⟩ := box35 b1
  obtain ⟨y0, y1, y2, y3, y4, y5⟩ := box35 b2
  have t0 := frz b2 (n := 0)
  have t1 := frz b2 (n := 1)
  have t2 := frz b2 (n := 2)
  have t3 := frz b2 (n := 3)
  have t4 := frz b2 (n := 4)
  have t5 := frz b2 (n := 5)
  have B1 := Aside0.mk b1
  have B2 := Aside0.mk b2
  clear b1 b2 hb
  go_wp2_with fail
  refine Calls.mono (pp_calls l5 A5 c5 _ HF.out.2.1 (by (with_reducible repeat (first | apply Kd.C_alloc | apply Kd.C_drewN | apply Kd.C_drew)); exact Kd.C_below HR5.out HB5.out) HF.out.2.2.2 ih5) ?_
  rintro e w7 ⟨v, rfl, hR, hb⟩
  have p1 := blk_below (blk_new (w5.alloc (.cells #[.bool false, .bool false, .bool true, .bool false, .bool true] 163)) (.cells #[.int .i64 8, .int .i64 0, .int .i64 0, .string f3, .slice none 0 0, .slice none 0 0] 35)) hb
  have p2 := blk_below (blk_alloc (blk_alloc B2.out (.cells #[.bool false, .bool false, .bool true, .bool false, .bool true] 163)) (.cells #[.int .i64 8, .int .i64 0, .int .i64 0, .string f3, .slice none 0 0, .slice none 0 0] 35)) hb
  have HB7 := Aside0.mk (below_step (below_alloc (below_alloc HB5.out (.cells #[.bool false, .bool false, .bool true, .bool false, .bool true] 163)) (.cells #[.int .i64 8, .int .i64 0, .int .i64 0, .string f3, .slice none 0 0, .slice none 0 0] 35)) hb)
  have hsz7 := hb.size
  simp only [World.size_alloc] at p1 p2 hR hsz7
  have P1 := Aside0.mk p1
  have P2 := Aside0.mk p2
  have HR := Aside0.mk hR
  clear p1 p2 hb hR x0 x1 x2 x3 x4 x5 y0 y1 y2 y3 y4 y5 t0 t1 t2 t3 t4 t5
  obtain ⟨A', c', hv⟩ := Kd.R_slice HR.out
  subst hv
  obtain ⟨x0, x1, x2, x3, x4, x5⟩ := box35 P1.out
  obtain ⟨y0, y1, y2, y3, y4, y5⟩ := box35 P2.out
  have z5 := frz P1.out (n := 5)
  have t0 := frz P2.out (n := 0)
  have t1 := frz P2.out (n := 1)
  have t2 := frz P2.out (n := 2)
  have t3 := frz P2.out (n := 3)
  have t4 := frz P2.out (n := 4)
  have t5 := frz P2.out (n := 5)
  go_wp2
  have BF := Aside0.mk (six_set (c0 := .int .i64 8) (c1 := .int .i64 0) (c2 := .int .i64 0) (c3 := .string f3) (c4 := .slice none 0 0) (c5 := .slice A' (pairsP l5).length c') (cell_far (o := 5) (v := .slice A' (pairsP l5).length c') P2.out (show w.heap.size + 1 ≠ w5.heap.size + 1 by omega)))
  have RF := Aside0.mk (show k89.R 89 _ w.heap.size (fun _ => True) (.slice A' (pairsP l5).length c') (pairsP l5) from Kd.R_lower (base := w5.heap.size + 1 + 1) (Kd.R_mono (Kd.R_far (p := ⟨w.heap.size + 1, 5, none⟩) (Kd.R_far (p := ⟨w.heap.size + 1, 4, none⟩) (Kd.R_far (p := ⟨w.heap.size + 1, 3, none⟩) (Kd.R_far (p := ⟨w.heap.size + 1, 2, none⟩) (Kd.R_far (p := ⟨w.heap.size + 1, 1, none⟩) (Kd.R_far (p := ⟨w.heap.size + 1, 0, none⟩) (Kd.R_far (p := ⟨w5.heap.size + 1, 5, none⟩) (Kd.R_bound HR.out) (fun k hk => by have := hk.2.1; show k ≠ w5.heap.size + 1; omega) (.slice A' (pairsP l5).length c')) (fun k hk => by have := hk.2.1; show k ≠ w.heap.size + 1; omega) (.int .i64 8)) (fun k hk => by have := hk.2.1; show k ≠ w.heap.size + 1; omega) (.int .i64 0)) (fun k hk => by have := hk.2.1; show k ≠ w.heap.size + 1; omega) (.int .i64 0)) (fun k hk => by have := hk.2.1; show k ≠ w.heap.size + 1; omega) (.string f3)) (fun k hk => by have := hk.2.1; show k ≠ w.heap.size + 1; omega) (.slice none 0 0)) (fun k hk => by have := hk.2.1; show k ≠ w.heap.size + 1; omega) (.slice A' (pairsP l5).length c')) (fun _ _ => trivial)) (by omega))
  have LF := Aside0.mk (RowKit.Below.setCell (RowKit.Below.setCell (RowKit.Below.setCell (RowKit.Below.setCell (RowKit.Below.setCell (RowKit.Below.setCell (RowKit.Below.setCell HB7.out (p := ⟨w5.heap.size + 1, 5, none⟩) (by show w.heap.size ≤ w5.heap.size + 1; omega) (.slice A' (pairsP l5).length c')) (p := ⟨w.heap.size + 1, 0, none⟩) (Nat.le_succ _) (.int .i64 8)) (p := ⟨w.heap.size + 1, 1, none⟩) (Nat.le_succ _) (.int .i64 0)) (p := ⟨w.heap.size + 1, 2, none⟩) (Nat.le_succ _) (.int .i64 0)) (p := ⟨w.heap.size + 1, 3, none⟩) (Nat.le_succ _) (.string f3)) (p := ⟨w.heap.size + 1, 4, none⟩) (Nat.le_succ _) (.slice none 0 0)) (p := ⟨w.heap.size + 1, 5, none⟩) (Nat.le_succ _) (.slice A' (pairsP l5).length c'))
  clear x0 x1 x2 x3 x4 x5 y0 y1 y2 y3 y4 y5 z5 t0 t1 t2 t3 t4 t5
  generalize (((((((w7.setCell ⟨w5.heap.size + 1, 5, none⟩ (.slice A' (pairsP l5).length c')).setCell ⟨w.heap.size + 1, 0, none⟩ (.int .i64 8)).setCell ⟨w.heap.size + 1, 1, none⟩ (.int .i64 0)).setCell ⟨w.heap.size + 1, 2, none⟩ (.int .i64 0)).setCell ⟨w.heap.size + 1, 3, none⟩ (.string f3)).setCell ⟨w.heap.size + 1, 4, none⟩ (.slice none 0 0)).setCell ⟨w.heap.size + 1, 5, none⟩ (.slice A' (pairsP l5).length c')) = WF at *
  obtain ⟨r0, r1, r2, r3, r4, r5⟩ := box35 BF.out
  exact bodyPost_ret (v := .agg #[.int .i64 8, .int .i64 0, .int .i64 0, .string f3, .slice none 0 0, .slice A' (pairsP l5).length c']) (by simp [results, Try.results59, go_sem, r0, r1, r2, r3, r4, r5]) rfl ⟨_, _, rfl, Kd.R_nil _ _ _ _ _, RF.out, LF.out⟩
 case inr.inr.inr.inr.inr.inr.inr.inl =>
  have he := HE.out
  simp [*] at he
  subst he
  go_enter Try.func59, Try.ntmps59
  go_wp2_with fail
  refine Calls.mono (has_calls 5 false false false true false true rfl _) ?_
  rintro e w5 ⟨rfl, hb⟩
  have b1 := blk_below (blk_alloc (blk_new w (.cells #[.int .i64 5, .int .i64 f1, .int .i64 f2, .string f3, .slice A4 l4.length c4, .slice A5 l5.length c5] 35)) _) hb
  have b2 := blk_below (blk_new (w.alloc (.cells #[.int .i64 5, .int .i64 f1, .int .i64 f2, .string f3, .slice A4 l4.length c4, .slice A5 l5.length c5] 35)) (.cells #[.int .i64 0, .int .i64 0, .int .i64 0, .string ⟨#[]⟩, .slice none 0 0, .slice none 0 0] 35)) hb
  have hsz : w.heap.size + 1 < w5.heap.size := by have := hb.size; simp at this; omega
  have hsz1 : w.heap.size < w5.heap.size := by omega
  simp only [World.size_alloc] at b1 b2
  have HB5 := Aside0.mk (below_step (below_alloc (below_alloc (RowKit.Below.refl w.heap.size w) _) _) hb)
  obtain ⟨x0, x1, x2, x3, x4, x5⟩ := box35 b1
  obtain ⟨y0, y1, y2, y3, y4, y5⟩ := box35 b2
  have t0 := frz b2 (n := 0)
  have t1 := frz b2 (n := 1)
  have t2 := frz b2 (n := 2)
  have t3 := frz b2 (n := 3)
  have t4 := frz b2 (n := 4)
  have t5 := frz b2 (n := 5)
  have B1 := Aside0.mk b1
  have B2 := Aside0.mk b2
  clear b1 b2 hb
  have IH4 := Aside0.mk (And.intro ih4 HF.out.2.2.1)
  clear ih4 ih5
  go_wp2
  have p1 := Aside0.mk (blk_new (w5.alloc (.cells #[.bool false, .bool false, .bool false, .bool true, .bool false] 163)) (.cells #[.int .i64 5, .int .i64 0, .int .i64 0, .string ⟨#[]⟩, .slice none 0 0, .slice none 0 0] 35))
  have p2 := Aside0.mk (blk_alloc (blk_alloc B2.out (.cells #[.bool false, .bool false, .bool false, .bool true, .bool false] 163)) (.cells #[.int .i64 5, .int .i64 0, .int .i64 0, .string ⟨#[]⟩, .slice none 0 0, .slice none 0 0] 35))
  have p3 := Aside0.mk (blk_alloc (blk_new w5 (.cells #[.bool false, .bool false, .bool false, .bool true, .bool false] 163)) (.cells #[.int .i64 5, .int .i64 0, .int .i64 0, .string ⟨#[]⟩, .slice none 0 0, .slice none 0 0] 35))
  have HB6 := Aside0.mk (below_alloc (below_alloc HB5.out (.cells #[.bool false, .bool false, .bool false, .bool true, .bool false] 163)) (.cells #[.int .i64 5, .int .i64 0, .int .i64 0, .string ⟨#[]⟩, .slice none 0 0, .slice none 0 0] 35))
  have hsz6 : w5.heap.size + 1 < ((w5.alloc (.cells #[.bool false, .bool false, .bool false, .bool true, .bool false] 163)).alloc (.cells #[.int .i64 5, .int .i64 0, .int .i64 0, .string ⟨#[]⟩, .slice none 0 0, .slice none 0 0] 35)).heap.size := by simp
  clear x0 x1 x2 x3 x4 x5 y0 y1 y2 y3 y4 y5 t0 t1 t2 t3 t4 t5
  simp only [World.size_alloc] at p1
  generalize (w5.alloc (.cells #[.bool false, .bool false, .bool false, .bool true, .bool false] 163)).alloc (.cells #[.int .i64 5, .int .i64 0, .int .i64 0, .string ⟨#[]⟩, .slice none 0 0, .slice none 0 0] 35) = w6 at *
  have m4 := Kd.C_max HR4.out
  go_loopw [40] (fun i wr => ∃ (k : Nat) (vL : Value), k ≤ l4.length ∧ i = .int .i64 k ∧ Aside0 (wr.heap[w5.heap.size + 1]? = some (.cells #[.int .i64 5, .int .i64 0, .int .i64 0, .string ⟨#[]⟩, vL, .slice none 0 0] 35 (0, 0)) ∧ wr.heap[w5.heap.size]? = some (.cells #[.bool false, .bool false, .bool false, .bool true, .bool false] 163 (0, 0)) ∧ wr.heap[w.heap.size + 1]? = some (.cells #[.int .i64 0, .int .i64 0, .int .i64 0, .string ⟨#[]⟩, .slice none 0 0, .slice none 0 0] 35 (0, 0))) ∧ Aside0 (k35.R 35 wr (w5.heap.size + 2) (fun _ => True) vL ((l4.map plain).take k)) ∧ Aside0 (RowKit.Below w.heap.size w wr) ∧ w5.heap.size + 1 < wr.heap.size) (fun i _ => l4.length - (intOf i).toNat)
  case atStart => exact ⟨0, .slice none 0 0, Nat.zero_le _, rfl, ⟨p1.out, p3.out, p2.out⟩, ⟨Kd.R_nil _ _ _ _ _⟩, HB6, hsz6⟩
  case round =>
   clear p1 p2 p3 HB6 hsz6
   obtain ⟨k, vL, hk, rfl, HX, HO, HB, hszr⟩ := hrel
   by_cases hlt : k < l4.length
   · obtain ⟨ad, P4, p4, P5, p5, rfl, x0, x1, x2, x3, x4, x5, lp4, gp4, lp5, gp5⟩ := at35 (Kd.C_below HR4.out HB.out) k hlt
     have hmem := getD_mem l4 k hlt z35
     have IHx := Aside0.mk (And.intro (IH4.out.1 _ hmem) (IH4.out.2 _ hmem))
     have HT := Aside0.mk (show (l4.map plain).take (k + 1) = (l4.map plain).take k ++ [plain (l4.getD k z35)] by
      rw [List.take_succ_eq_append_getElem (by simpa using hlt), List.getElem_map, List.getD_eq_getElem?_getD, List.getElem?_eq_getElem hlt]; rfl)
     have HTL := Aside0.mk (List.length_take_le k (l4.map plain))
     generalize (l4.map plain).take k = tk at *
     generalize l4.getD k z35 = x at *
     have G := Aside0.mk (And.intro lp4 (And.intro gp4 (And.intro lp5 gp5)))
     replace x0 := x0 ⟨wr, RowKit.Below.refl _ _⟩
     replace x1 := x1 ⟨wr, RowKit.Below.refl _ _⟩
     replace x2 := x2 ⟨wr, RowKit.Below.refl _ _⟩
     replace x3 := x3 ⟨wr, RowKit.Below.refl _ _⟩
     replace x4 := x4 ⟨wr, RowKit.Below.refl _ _⟩
     replace x5 := x5 ⟨wr, RowKit.Below.refl _ _⟩
     simp only [] at x0 x1 x2 x3 x4 x5
     clear lp4 gp4 lp5 gp5 hmem
     obtain ⟨Av, cv, hv⟩ := Kd.R_slice HO.out
     have HOB := Aside0.mk (show ∀ j, vL.ownBlock = some j → w5.heap.size + 2 ≤ j ∧ j < wr.heap.size by
      obtain ⟨inner, ho⟩ := Kd.R_own HO.out
      exact fun j hj => ⟨own_base ho j hj, own_lt ho j hj⟩)
     subst hv
     have q4 := (box35 HX.out.1).2.2.2.2.1
     go_wp2_with fail
     refine start_ (n := 8) (S := fun w' => w'.cell? ⟨w5.heap.size + 1, 4, none⟩ = some (.slice Av tk.length cv) ∧ w'.cell? ⟨wr.heap.size, 0, none⟩ = some (.int .i64 x.f0) ∧ w'.cell? ⟨wr.heap.size, 1, none⟩ = some (.int .i64 x.f1) ∧ w'.cell? ⟨wr.heap.size, 2, none⟩ = some (.int .i64 x.f2) ∧ w'.cell? ⟨wr.heap.size, 3, none⟩ = some (.string x.f3) ∧ w'.cell? ⟨wr.heap.size, 4, none⟩ = some (.slice P4 x.f4.length p4) ∧ w'.cell? ⟨wr.heap.size, 5, none⟩ = some (.slice P5 x.f5.length p5)) (ds := [5, 6, 7]) #[false, false, false, false, false, false, false, false] (by kernel_rfl) rfl rfl (by refine ⟨?_, ?_, ?_, ?_, ?_, ?_, ?_⟩ <;> go_simp) (fun hHeld => ?_)
     refine pure_ (i := 0) (N := some 44) (v := ?_) (a' := ?_) #[true, false, false, false, false, false, false, false] rfl rfl (by kernel_rfl) (fun _ _ _ h => h) (Or.inl ⟨by rfl, ?_⟩) ?_ ?_
     rotate_left
     · intro w'
       go_simp
       with_reducible rfl
     rotate_left
     · simp only [Act.put, List.setIfInBounds_toArray, List.set_cons_zero, List.set_cons_succ]
       rfl
     refine take_ (i := 1) (N := some 45) (v := ?_) (a' := ?_) #[true, true, false, false, false, false, false, false] rfl rfl (by kernel_rfl) (fun _ _ _ h => h) (Or.inl ⟨by rfl, ?_⟩) hHeld ?_ ?_
     rotate_left
     · intro w' hSw
       (try dsimp only at hSw)
       go_split_ands
       go_simp
       with_reducible rfl
     rotate_left
     · simp only [Act.put, List.setIfInBounds_toArray, List.set_cons_zero, List.set_cons_succ]
       rfl
     refine take_ (i := 2) (N := some 46) (v := ?_) (a' := ?_) #[true, true, true, false, false, false, false, false] rfl rfl (by kernel_rfl) (fun _ _ _ h => h) (Or.inl ⟨by rfl, ?_⟩) hHeld ?_ ?_
     rotate_left
     · intro w' hSw
       (try dsimp only at hSw)
       go_split_ands
       go_simp
       with_reducible rfl
     rotate_left
     · simp only [Act.put, List.setIfInBounds_toArray, List.set_cons_zero, List.set_cons_succ]
       rfl
     refine one_ (i := 3) (N := some 47) #[true, true, true, true, false, false, false, false] rfl rfl (by kernel_rfl) (by decide) (fun K hK => ?_)
     refine goes_ Try.func59 (by kernel_rfl) rfl #[.agg #[.int .i64 x.f0, .int .i64 x.f1, .int .i64 x.f2, .string x.f3, .slice P4 x.f4.length p4, .slice P5 x.f5.length p5]] (by rfl) rfl rfl (by first | rfl | (simp only [List.map_toArray, List.map_cons, List.map_nil]; rfl)) ?_
     have yb := Aside0.mk ((below_alloc (RowKit.Below.refl wr.heap.size wr) (.cells #[.int .i64 x.f0, .int .i64 x.f1, .int .i64 x.f2, .string x.f3, .slice P4 x.f4.length p4, .slice P5 x.f5.length p5] 35)).drew)
     have ys : (wr.alloc (.cells #[.int .i64 x.f0, .int .i64 x.f1, .int .i64 x.f2, .string x.f3, .slice P4 x.f4.length p4, .slice P5 x.f5.length p5] 35)).drew.heap.size = wr.heap.size + 1 := by simp
     generalize (wr.alloc (.cells #[.int .i64 x.f0, .int .i64 x.f1, .int .i64 x.f2, .string x.f3, .slice P4 x.f4.length p4, .slice P5 x.f5.length p5] 35)).drew = W at *
     have YS := Aside0.mk ys
     clear ys
     refine Calls.mono (IHx.out.1 P4 p4 P5 p5 _ IHx.out.2 G.out.1 (Kd.C_below G.out.2.1 yb.out) G.out.2.2.1 (Kd.C_below G.out.2.2.2 yb.out)) ?_
     rintro e w7 ⟨q4', q5', rfl, h4, h5, hb⟩
     have HBc := Aside0.mk (below_step yb.out hb)
     have hbk := Aside0.mk hb
     generalize plain x = px at *
     obtain ⟨A4', c4', e4⟩ := Kd.R_slice h4
     obtain ⟨A5', c5', e5⟩ := Kd.R_slice h5
     subst e4
     subst e5
     have HM := Aside0.mk (show k35.M w7 (w5.heap.size + 2) (fun k_ => some k_ ≠ (Value.slice Av tk.length cv).ownBlock) px [.int .i64 px.f0, .int .i64 px.f1, .int .i64 px.f2, .string px.f3, .slice A4' px.f4.length c4', .slice A5' px.f5.length c5'] from
      k35.M_lower (show w5.heap.size + 2 ≤ W.heap.size by have := YS.out; omega) (k35.M_mono (ok' := fun k_ => some k_ ≠ (Value.slice Av tk.length cv).ownBlock) (fun j hj e => by have h1 := (HOB.out j e.symm).2; have h2 := hj.2.1; have := YS.out; omega) (k35.M_bound (k35_mkM w7 _ _ px h4 h5))))
     clear h4 h5 hb
     have KB := Aside0.mk (fun b_ o_ (h_ : wr.heap[b_]? = some o_) (hl_ : b_ < w5.heap.size + 2) => (show w7.heap[b_]? = some o_ from (HBc.out.block b_ (by omega)).trans h_))
     have hs7 : w5.heap.size + 1 < w7.heap.size := by have := HBc.out.size; omega
     have HR7 := Aside0.mk (Kd.R_below HO.out HBc.out)
     have HBw7 := Aside0.mk (below_step HB.out HBc.out)
     clear q4 x0 x1 x2 x3 x4 x5
     have HS7 := Aside0.mk (show (fun w' => w'.cell? ⟨w5.heap.size + 1, 4, none⟩ = some (.slice Av tk.length cv) ∧ w'.cell? ⟨wr.heap.size, 0, none⟩ = some (.int .i64 x.f0) ∧ w'.cell? ⟨wr.heap.size, 1, none⟩ = some (.int .i64 x.f1) ∧ w'.cell? ⟨wr.heap.size, 2, none⟩ = some (.int .i64 x.f2) ∧ w'.cell? ⟨wr.heap.size, 3, none⟩ = some (.string x.f3) ∧ w'.cell? ⟨wr.heap.size, 4, none⟩ = some (.slice P4 x.f4.length p4) ∧ w'.cell? ⟨wr.heap.size, 5, none⟩ = some (.slice P5 x.f5.length p5)) w7 from by
      refine ⟨?_, ?_, ?_, ?_, ?_, ?_, ?_⟩
      all_goals first
       | exact up_ hbk.out.cell hHeld.1
       | exact up_ hbk.out.cell hHeld.2.1
       | exact up_ hbk.out.cell hHeld.2.2.1
       | exact up_ hbk.out.cell hHeld.2.2.2.1
       | exact up_ hbk.out.cell hHeld.2.2.2.2.1
       | exact up_ hbk.out.cell hHeld.2.2.2.2.2.1
       | exact up_ hbk.out.cell hHeld.2.2.2.2.2.2)
     clear hbk hHeld
     refine ⟨_, rfl, ?_⟩
     refine hK.out _ _ HS7.out (fun _ => ?_)
     clear hK K
     refine norm_ (a' := ?_) ?_ ?_
     rotate_left
     · show Act.put _ (some 47) _ = _
       simp only [Act.put, List.setIfInBounds_toArray, List.set_cons_zero, List.set_cons_succ]
       rfl
     refine one_ (i := 4) (N := some 48) #[true, true, true, true, true, false, false, false] rfl rfl (by kernel_rfl) (by decide) (fun K hK => ?_)
     refine value_ (v := .slice (some ⟨w7.heap.size, 0, none⟩) 1 1) (w1 := w7.alloc (.cells [.int .i64 px.f0, .int .i64 px.f1, .int .i64 px.f2, .string px.f3, .slice A4' px.f4.length c4', .slice A5' px.f5.length c5'].toArray 35)) (by rfl) rfl (by first | (go_simp; done) | (go_simp; rfl)) ?_
     refine hK.out _ _ (by refine ⟨?_, ?_, ?_, ?_, ?_, ?_, ?_⟩; exact Lib.cell?_alloc_some _ HS7.out.1; exact Lib.cell?_alloc_some _ HS7.out.2.1; exact Lib.cell?_alloc_some _ HS7.out.2.2.1; exact Lib.cell?_alloc_some _ HS7.out.2.2.2.1; exact Lib.cell?_alloc_some _ HS7.out.2.2.2.2.1; exact Lib.cell?_alloc_some _ HS7.out.2.2.2.2.2.1; exact Lib.cell?_alloc_some _ HS7.out.2.2.2.2.2.2) (fun _ => ?_)
     clear hK K HS7
     refine norm_ (a' := ?_) ?_ ?_
     rotate_left
     · show Act.put _ (some 48) _ = _
       simp only [Act.put, List.setIfInBounds_toArray, List.set_cons_zero, List.set_cons_succ]
       rfl
     refine chain_ [5, 6, 7] _ _ _ _ (⟨_, _, rfl, rfl, ⟨_, _, rfl, rfl, ⟨_, _, rfl, rfl, rfl⟩⟩⟩) (by kernel_rfl) (by decide) ?_
     go_wp2_with (first | ((with_reducible refine gate_dst (N := 49) rfl ?_); refine Kd.R_append k35 (w0 := w7) (w5.heap.size + 2) rfl (.tmp 45) (.tmp 48) 32 35 (.agg #[(.int .i64 0), (.int .i64 0), (.int .i64 0), (.string ⟨#[]⟩), (.slice none 0 0), (.slice none 0 0)]) 88 rfl Try.underlying32 info35 rfl (by decide) (by omega) (.slice Av tk.length cv) tk px [.int .i64 px.f0, .int .i64 px.f1, .int .i64 px.f2, .string px.f3, .slice A4' px.f4.length c4', .slice A5' px.f5.length c5'] (fun _ => True) (fun k_ => some k_ ≠ (Value.slice Av tk.length cv).ownBlock) rfl rfl ?aP (fun _ hk => ⟨trivial, hk⟩) ?aF ?aO ?aB ?aS ?aL ?_; (case aP => exact HM.out); (case aF => exact (fun _ _ => trivial)); (case aO => exact HR7.out); (case aB => exact RowKit.Below.refl _ _); (case aS => omega); (case aL => have := HTL.out; have := HF.out.1; omega)))
     intro v8 w8 HO8 HB8 hg8 hat8
     obtain ⟨A8, c8, e8⟩ := Kd.R_slice HO8
     obtain ⟨n8, hn8⟩ : ∃ n8, n8 = (tk ++ [px]).length := ⟨_, rfl⟩
     rw [← hn8] at e8
     clear hn8
     subst e8
     have P1 := Aside0.mk ((HB8.block _ (by omega)).trans (KB.out _ _ HX.out.1 (by omega)))
     have P2 := Aside0.mk ((HB8.block _ (by omega)).trans (KB.out _ _ HX.out.2.1 (by omega)))
     have P3 := Aside0.mk ((HB8.block _ (by omega)).trans (KB.out _ _ HX.out.2.2 (by omega)))
     have R8 := Aside0.mk HO8
     have hs8 : w5.heap.size + 1 < w8.heap.size := by have := HB8.size; omega
     have L8 := Aside0.mk (HBw7.out.trans (HB8.mono (show w.heap.size ≤ w5.heap.size + 2 by have := HB5.out.size; omega)))
     clear HO8 HB8 hg8 hat8 KB HR7 HBw7 HO HX HB
     have x4 := (box35 P1.out).2.2.2.2.1
     have z4 := frz P1.out (n := 4)
     go_wp2
     clear x4 z4
     refine ⟨⟨k + 1, _, by omega, by go_num, ⟨by have h := blk_set P1.out 4 (.slice A8 n8 c8); simpa using h, cell_far P2.out (show w5.heap.size ≠ w5.heap.size + 1 by omega), cell_far P3.out (show w.heap.size + 1 ≠ w5.heap.size + 1 by omega)⟩, ⟨by rw [HT.out]; exact Kd.R_mono (Kd.R_far (p := ⟨w5.heap.size + 1, 4, none⟩) (Kd.R_bound R8.out) (fun j hj => by have := hj.2.1; show j ≠ w5.heap.size + 1; omega) _) (fun _ _ => trivial)⟩, ⟨L8.out.setCell (p := ⟨w5.heap.size + 1, 4, none⟩) (by show w.heap.size ≤ w5.heap.size + 1; omega) _⟩, by simp; omega⟩, by simp [intOf]; omega⟩
   · have hT := Aside0.mk (show (l4.map plain).take k = l4.map plain by rw [List.take_of_length_le (by simp; omega)])
     rw [hT.out] at HO
     obtain ⟨A', c', hv⟩ := Kd.R_slice HO.out
     obtain ⟨n', hn'⟩ : ∃ n', n' = (l4.map plain).length := ⟨_, rfl⟩
     rw [← hn'] at hv
     clear hn'
     subst hv
     obtain ⟨x0, x1, x2, x3, x4, x5⟩ := box35 HX.out.1
     obtain ⟨f0_, f1_, f2_, f3_, f4_⟩ := box5 HX.out.2.1
     obtain ⟨y0, y1, y2, y3, y4, y5⟩ := box35 HX.out.2.2
     have t0 := frz HX.out.2.2 (n := 0)
     have t1 := frz HX.out.2.2 (n := 1)
     have t2 := frz HX.out.2.2 (n := 2)
     have t3 := frz HX.out.2.2 (n := 3)
     have t4 := frz HX.out.2.2 (n := 4)
     have t5 := frz HX.out.2.2 (n := 5)
     go_wp2
     have BF := Aside0.mk (six_set (c0 := .int .i64 5) (c1 := .int .i64 0) (c2 := .int .i64 0) (c3 := .string ⟨#[]⟩) (c4 := .slice A' n' c') (c5 := .slice none 0 0) HX.out.2.2)
     have RF := Aside0.mk (show k35.R 35 _ w.heap.size (fun _ => True) (.slice A' n' c') (l4.map plain) from Kd.R_lower (base := w5.heap.size + 2) (Kd.R_mono (Kd.R_far (p := ⟨w.heap.size + 1, 5, none⟩) (Kd.R_far (p := ⟨w.heap.size + 1, 4, none⟩) (Kd.R_far (p := ⟨w.heap.size + 1, 3, none⟩) (Kd.R_far (p := ⟨w.heap.size + 1, 2, none⟩) (Kd.R_far (p := ⟨w.heap.size + 1, 1, none⟩) (Kd.R_far (p := ⟨w.heap.size + 1, 0, none⟩) ((Kd.R_bound HO.out)) (fun k hk => by have := hk.2.1; show k ≠ w.heap.size + 1; omega) (.int .i64 5)) (fun k hk => by have := hk.2.1; show k ≠ w.heap.size + 1; omega) (.int .i64 0)) (fun k hk => by have := hk.2.1; show k ≠ w.heap.size + 1; omega) (.int .i64 0)) (fun k hk => by have := hk.2.1; show k ≠ w.heap.size + 1; omega) (.string ⟨#[]⟩)) (fun k hk => by have := hk.2.1; show k ≠ w.heap.size + 1; omega) (.slice A' n' c')) (fun k hk => by have := hk.2.1; show k ≠ w.heap.size + 1; omega) (.slice none 0 0)) (fun _ _ => trivial)) (by omega))
     have LF := Aside0.mk (RowKit.Below.setCell (RowKit.Below.setCell (RowKit.Below.setCell (RowKit.Below.setCell (RowKit.Below.setCell (RowKit.Below.setCell (HB.out) (p := ⟨w.heap.size + 1, 0, none⟩) (Nat.le_succ _) (.int .i64 5)) (p := ⟨w.heap.size + 1, 1, none⟩) (Nat.le_succ _) (.int .i64 0)) (p := ⟨w.heap.size + 1, 2, none⟩) (Nat.le_succ _) (.int .i64 0)) (p := ⟨w.heap.size + 1, 3, none⟩) (Nat.le_succ _) (.string ⟨#[]⟩)) (p := ⟨w.heap.size + 1, 4, none⟩) (Nat.le_succ _) (.slice A' n' c')) (p := ⟨w.heap.size + 1, 5, none⟩) (Nat.le_succ _) (.slice none 0 0))
     clear x0 x1 x2 x3 x4 x5 y0 y1 y2 y3 y4 y5 t0 t1 t2 t3 t4 t5 f0_ f1_ f2_ f3_ f4_
     generalize ((((((wr.setCell ⟨w.heap.size + 1, 0, none⟩ (.int .i64 5)).setCell ⟨w.heap.size + 1, 1, none⟩ (.int .i64 0)).setCell ⟨w.heap.size + 1, 2, none⟩ (.int .i64 0)).setCell ⟨w.heap.size + 1, 3, none⟩ (.string ⟨#[]⟩)).setCell ⟨w.heap.size + 1, 4, none⟩ (.slice A' n' c')).setCell ⟨w.heap.size + 1, 5, none⟩ (.slice none 0 0)) = WF at *
     obtain ⟨r0, r1, r2, r3, r4, r5⟩ := box35 BF.out
     exact bodyPost_ret (v := .agg #[.int .i64 5, .int .i64 0, .int .i64 0, .string ⟨#[]⟩, .slice A' n' c', .slice none 0 0]) (by simp [results, Try.results59, go_sem, r0, r1, r2, r3, r4, r5]) rfl ⟨_, _, rfl, RF.out, Kd.R_nil _ _ _ _ _, LF.out⟩
set_option maxHeartbeats 20000000 in
set_option maxRecDepth 100000 in
theorem rplain_all : ∀ v, PlainAt 60 v := by
 refine S35.ind ?_
 intro v ih4 ih5 A4 c4 A5 c5 w hf la4 ra4 la5 ra5
 have hu35 := Try.underlying35
 have hu33 := Try.underlying33
 have hu32 := Try.underlying32
 have HF := Aside0.mk (fewV_at hf)
 have HE := Aside0.mk (plain_eq v)
 clear hf
 generalize plain v = pv at *
 obtain ⟨f0, f1, f2, f3, l4, l5⟩ := v
 simp only [] at *
 have HR4 := Aside0.mk ra4
 have HR5 := Aside0.mk ra5
 clear ra4 ra5
 rcases (show f0 = 1 ∨ f0 = 2 ∨ f0 = 3 ∨ f0 = 4 ∨ f0 = 7 ∨ (f0 ≠ 1 ∧ f0 ≠ 2 ∧ f0 ≠ 3 ∧ f0 ≠ 4 ∧ f0 ≠ 5 ∧ f0 ≠ 6 ∧ f0 ≠ 7 ∧ f0 ≠ 8) ∨ f0 = 5 ∨ f0 = 6 ∨ f0 = 8 by omega) with rfl | rfl | rfl | rfl | rfl | ⟨h1, h2, h3, h4, h5, h6, h7, h8⟩ | rfl | rfl | rfl
 case inl | inr.inl | inr.inr.inl | inr.inr.inr.inl | inr.inr.inr.inr.inr.inl =>
  have he := HE.out
  simp [*] at he
  subst he
  go_enter Try.func60, Try.ntmps60
  go_wp2
  refine bodyPost_ret (v := .agg #[.int .i64 _, .int .i64 _, .int .i64 _, .string _, .slice none 0 0, .slice none 0 0]) (by simp [results, Try.results60, go_sem]; try exact ⟨rfl, rfl, rfl, rfl⟩) rfl ⟨_, _, rfl, Kd.R_nil _ _ _ _ _, Kd.R_nil _ _ _ _ _, ?_⟩
  repeat (first | (with_reducible first | exact RowKit.Below.refl _ _ | apply below_alloc | apply pw_below_drewN | apply below_drew1) | exact RowKit.Below.refl _ _)
 case inr.inr.inr.inr.inl =>
  have he := HE.out
  simp [*] at he
  subst he
  go_enter Try.func60, Try.ntmps60
  go_wp2
  go_region
  all_goals go_wp2
  refine bodyPost_ret (v := .agg #[.int .i64 _, .int .i64 _, .int .i64 _, .string _, .slice none 0 0, .slice none 0 0]) (by simp [results, Try.results60, go_sem]; try exact ⟨rfl, rfl, rfl, rfl⟩) rfl ⟨_, _, rfl, Kd.R_nil _ _ _ _ _, Kd.R_nil _ _ _ _ _, ?_⟩
  repeat (first | (with_reducible first | exact RowKit.Below.refl _ _ | apply below_alloc | apply pw_below_drewN | apply below_drew1) | exact RowKit.Below.refl _ _)
 case inr.inr.inr.inr.inr.inr.inr.inl =>
  have he := HE.out
  simp at he
  subst he
  go_enter Try.func60, Try.ntmps60
  go_wp2_with fail
  go_at_call 122
  refine (pairs_calls l5 A5 c5 _ HF.out.2.1 (by (with_reducible repeat (first | apply Kd.C_alloc | apply Kd.C_drewN | apply Kd.C_drew)); exact HR5.out) HF.out.2.2.2 ih5).mono ?_
  rintro e w5 ⟨v, rfl, hR, hb⟩
  have b1 := blk_below (blk_alloc (blk_alloc (blk_new w (.cells #[.int .i64 6, .int .i64 f1, .int .i64 f2, .string f3, .slice A4 l4.length c4, .slice A5 l5.length c5] 35)) _) _) hb
  have b2 := blk_below (blk_alloc (blk_new (w.alloc (.cells #[.int .i64 6, .int .i64 f1, .int .i64 f2, .string f3, .slice A4 l4.length c4, .slice A5 l5.length c5] 35)) (.cells #[.int .i64 0, .int .i64 0, .int .i64 0, .string ⟨#[]⟩, .slice none 0 0, .slice none 0 0] 35)) _) hb
  have b3 := blk_below (blk_new ((w.alloc (.cells #[.int .i64 6, .int .i64 f1, .int .i64 f2, .string f3, .slice A4 l4.length c4, .slice A5 l5.length c5] 35)).alloc (.cells #[.int .i64 0, .int .i64 0, .int .i64 0, .string ⟨#[]⟩, .slice none 0 0, .slice none 0 0] 35)) (.cells #[.int .i64 6, .int .i64 0, .int .i64 0, .string ⟨#[]⟩, .slice none 0 0, .slice none 0 0] 35)) hb
  have hB5 := Aside0.mk (below_step (below_alloc (below_alloc (below_alloc (RowKit.Below.refl w.heap.size w) _) _) _) hb)
  have hsz := hb.size
  simp only [World.size_alloc] at b2 b3 hsz hR
  have B1 := Aside0.mk b1
  have B2 := Aside0.mk b2
  have B3 := Aside0.mk b3
  have HR := Aside0.mk hR
  clear b1 b2 b3 hb hR
  obtain ⟨A', c', hv⟩ := Kd.R_slice HR.out
  subst hv
  obtain ⟨x0, x1, x2, x3, x4, x5⟩ := box35 B3.out
  obtain ⟨y0, y1, y2, y3, y4, y5⟩ := box35 B2.out
  have z5 := frz B3.out (n := 5)
  have t0 := frz B2.out (n := 0)
  have t1 := frz B2.out (n := 1)
  have t2 := frz B2.out (n := 2)
  have t3 := frz B2.out (n := 3)
  have t4 := frz B2.out (n := 4)
  have t5 := frz B2.out (n := 5)
  go_wp2
  have BF := Aside0.mk (six_set (c0 := .int .i64 6) (c1 := .int .i64 0) (c2 := .int .i64 0) (c3 := .string ⟨#[]⟩) (c4 := .slice none 0 0) (c5 := .slice A' (pairsP l5).length c') (cell_far (o := 5) (v := .slice A' (pairsP l5).length c') B2.out (show w.heap.size + 1 ≠ w.heap.size + 1 + 1 by omega)))
  have RF := Aside0.mk (show k89.R 89 _ w.heap.size (fun _ => True) (.slice A' (pairsP l5).length c') (pairsP l5) from Kd.R_lower (base := w.heap.size + 1 + 1 + 1) (Kd.R_mono (Kd.R_far (p := ⟨w.heap.size + 1, 5, none⟩) (Kd.R_far (p := ⟨w.heap.size + 1, 4, none⟩) (Kd.R_far (p := ⟨w.heap.size + 1, 3, none⟩) (Kd.R_far (p := ⟨w.heap.size + 1, 2, none⟩) (Kd.R_far (p := ⟨w.heap.size + 1, 1, none⟩) (Kd.R_far (p := ⟨w.heap.size + 1, 0, none⟩) (Kd.R_far (p := ⟨w.heap.size + 1 + 1, 5, none⟩) (Kd.R_bound HR.out) (fun k hk => by have := hk.2.1; show k ≠ w.heap.size + 1 + 1; omega) (.slice A' (pairsP l5).length c')) (fun k hk => by have := hk.2.1; show k ≠ w.heap.size + 1; omega) (.int .i64 6)) (fun k hk => by have := hk.2.1; show k ≠ w.heap.size + 1; omega) (.int .i64 0)) (fun k hk => by have := hk.2.1; show k ≠ w.heap.size + 1; omega) (.int .i64 0)) (fun k hk => by have := hk.2.1; show k ≠ w.heap.size + 1; omega) (.string ⟨#[]⟩)) (fun k hk => by have := hk.2.1; show k ≠ w.heap.size + 1; omega) (.slice none 0 0)) (fun k hk => by have := hk.2.1; show k ≠ w.heap.size + 1; omega) (.slice A' (pairsP l5).length c')) (fun _ _ => trivial)) (by omega))
  have LF := Aside0.mk (RowKit.Below.setCell (RowKit.Below.setCell (RowKit.Below.setCell (RowKit.Below.setCell (RowKit.Below.setCell (RowKit.Below.setCell (RowKit.Below.setCell hB5.out (p := ⟨w.heap.size + 1 + 1, 5, none⟩) (by show w.heap.size ≤ w.heap.size + 1 + 1; omega) (.slice A' (pairsP l5).length c')) (p := ⟨w.heap.size + 1, 0, none⟩) (Nat.le_succ _) (.int .i64 6)) (p := ⟨w.heap.size + 1, 1, none⟩) (Nat.le_succ _) (.int .i64 0)) (p := ⟨w.heap.size + 1, 2, none⟩) (Nat.le_succ _) (.int .i64 0)) (p := ⟨w.heap.size + 1, 3, none⟩) (Nat.le_succ _) (.string ⟨#[]⟩)) (p := ⟨w.heap.size + 1, 4, none⟩) (Nat.le_succ _) (.slice none 0 0)) (p := ⟨w.heap.size + 1, 5, none⟩) (Nat.le_succ _) (.slice A' (pairsP l5).length c'))
  clear x0 x1 x2 x3 x4 x5 y0 y1 y2 y3 y4 y5 z5 t0 t1 t2 t3 t4 t5
  generalize (((((((w5.setCell ⟨w.heap.size + 1 + 1, 5, none⟩ (.slice A' (pairsP l5).length c')).setCell ⟨w.heap.size + 1, 0, none⟩ (.int .i64 6)).setCell ⟨w.heap.size + 1, 1, none⟩ (.int .i64 0)).setCell ⟨w.heap.size + 1, 2, none⟩ (.int .i64 0)).setCell ⟨w.heap.size + 1, 3, none⟩ (.string ⟨#[]⟩)).setCell ⟨w.heap.size + 1, 4, none⟩ (.slice none 0 0)).setCell ⟨w.heap.size + 1, 5, none⟩ (.slice A' (pairsP l5).length c')) = WF at *
  obtain ⟨r0, r1, r2, r3, r4, r5⟩ := box35 BF.out
  exact bodyPost_ret (v := .agg #[.int .i64 6, .int .i64 0, .int .i64 0, .string ⟨#[]⟩, .slice none 0 0, .slice A' (pairsP l5).length c']) (by simp [results, Try.results60, go_sem, r0, r1, r2, r3, r4, r5]) rfl ⟨_, _, rfl, Kd.R_nil _ _ _ _ _, RF.out, LF.out⟩
 case inr.inr.inr.inr.inr.inr.inr.inr =>
  have he := HE.out
  simp at he
  subst he
  go_enter Try.func60, Try.ntmps60
  go_wp2_with fail
  refine start_ (n := 9) (S := fun w' => w'.cell? ⟨w.heap.size, 3, none⟩ = some (.string f3) ∧ w'.cell? ⟨w.heap.size, 5, none⟩ = some (.slice A5 l5.length c5)) (ds := [6, 7, 8]) #[false, false, false, false, false, false, false, false, false] (by kernel_rfl) rfl rfl (by refine ⟨?_, ?_⟩ <;> go_simp) (fun hHeld => ?_)
  refine pure_ (i := 0) (N := some 61) (v := ?_) (a' := ?_) #[true, false, false, false, false, false, false, false, false] rfl rfl (by kernel_rfl) (fun _ _ _ h => h) (Or.inl ⟨by rfl, ?_⟩) ?_ ?_
  rotate_left
  · intro w'
    go_simp
    with_reducible rfl
  rotate_left
  · simp only [Act.put, List.setIfInBounds_toArray, List.set_cons_zero, List.set_cons_succ]
    rfl
  refine take_ (i := 1) (N := some 62) (v := ?_) (a' := ?_) #[true, true, false, false, false, false, false, false, false] rfl rfl (by kernel_rfl) (fun _ _ _ h => h) (Or.inl ⟨by rfl, ?_⟩) hHeld ?_ ?_
  rotate_left
  · intro w' hSw
    (try dsimp only at hSw)
    go_split_ands
    go_simp
    with_reducible rfl
  rotate_left
  · simp only [Act.put, List.setIfInBounds_toArray, List.set_cons_zero, List.set_cons_succ]
    rfl
  refine pure_ (i := 2) (N := some 63) (v := ?_) (a' := ?_) #[true, true, true, false, false, false, false, false, false] rfl rfl (by kernel_rfl) (fun _ _ _ h => h) (Or.inl ⟨by rfl, ?_⟩) ?_ ?_
  rotate_left
  · intro w'
    go_simp
    with_reducible rfl
  rotate_left
  · simp only [Act.put, List.setIfInBounds_toArray, List.set_cons_zero, List.set_cons_succ]
    rfl
  refine take_ (i := 3) (N := some 64) (v := ?_) (a' := ?_) #[true, true, true, true, false, false, false, false, false] rfl rfl (by kernel_rfl) (fun _ _ _ h => h) (Or.inl ⟨by rfl, ?_⟩) hHeld ?_ ?_
  rotate_left
  · intro w' hSw
    (try dsimp only at hSw)
    go_split_ands
    go_simp
    with_reducible rfl
  rotate_left
  · simp only [Act.put, List.setIfInBounds_toArray, List.set_cons_zero, List.set_cons_succ]
    rfl
  refine pure_ (i := 5) (N := some 66) (v := ?_) (a' := ?_) #[true, true, true, true, false, true, false, false, false] rfl rfl (by kernel_rfl) (fun _ _ _ h => h) (Or.inl ⟨by rfl, ?_⟩) ?_ ?_
  rotate_left
  · intro w'
    go_simp
    with_reducible rfl
  rotate_left
  · simp only [Act.put, List.setIfInBounds_toArray, List.set_cons_zero, List.set_cons_succ]
    rfl
  have Q1 := Aside0.mk (blk_drew (blk_new ((w.alloc (.cells #[.int .i64 8, .int .i64 f1, .int .i64 f2, .string f3, .slice A4 l4.length c4, .slice A5 l5.length c5] 35)).alloc (.cells #[.int .i64 0, .int .i64 0, .int .i64 0, .string ⟨#[]⟩, .slice none 0 0, .slice none 0 0] 35)) (.cells #[.int .i64 8, .int .i64 0, .int .i64 0, .string ⟨#[]⟩, .slice none 0 0, .slice none 0 0] 35)))
  have Q2 := Aside0.mk (blk_drew (blk_alloc (blk_new (w.alloc (.cells #[.int .i64 8, .int .i64 f1, .int .i64 f2, .string f3, .slice A4 l4.length c4, .slice A5 l5.length c5] 35)) (.cells #[.int .i64 0, .int .i64 0, .int .i64 0, .string ⟨#[]⟩, .slice none 0 0, .slice none 0 0] 35)) (.cells #[.int .i64 8, .int .i64 0, .int .i64 0, .string ⟨#[]⟩, .slice none 0 0, .slice none 0 0] 35)))
  have HW0 := Aside0.mk ((below_alloc (below_alloc (below_alloc (RowKit.Below.refl w.heap.size w) (.cells #[.int .i64 8, .int .i64 f1, .int .i64 f2, .string f3, .slice A4 l4.length c4, .slice A5 l5.length c5] 35)) (.cells #[.int .i64 0, .int .i64 0, .int .i64 0, .string ⟨#[]⟩, .slice none 0 0, .slice none 0 0] 35)) (.cells #[.int .i64 8, .int .i64 0, .int .i64 0, .string ⟨#[]⟩, .slice none 0 0, .slice none 0 0] 35)).drew)
  have hs0 : (((w.alloc (.cells #[.int .i64 8, .int .i64 f1, .int .i64 f2, .string f3, .slice A4 l4.length c4, .slice A5 l5.length c5] 35)).alloc (.cells #[.int .i64 0, .int .i64 0, .int .i64 0, .string ⟨#[]⟩, .slice none 0 0, .slice none 0 0] 35)).alloc (.cells #[.int .i64 8, .int .i64 0, .int .i64 0, .string ⟨#[]⟩, .slice none 0 0, .slice none 0 0] 35)).drew.heap.size = w.heap.size + 1 + 1 + 1 := by simp
  simp only [World.size_alloc] at Q1 Q2
  have HH := Aside0.mk hHeld
  clear hHeld
  generalize (((w.alloc (.cells #[.int .i64 8, .int .i64 f1, .int .i64 f2, .string f3, .slice A4 l4.length c4, .slice A5 l5.length c5] 35)).alloc (.cells #[.int .i64 0, .int .i64 0, .int .i64 0, .string ⟨#[]⟩, .slice none 0 0, .slice none 0 0] 35)).alloc (.cells #[.int .i64 8, .int .i64 0, .int .i64 0, .string ⟨#[]⟩, .slice none 0 0, .slice none 0 0] 35)).drew = W0 at *
  refine one_ (i := 4) (N := some 65) #[true, true, true, true, true, true, false, false, false] rfl rfl (by kernel_rfl) (by decide) (fun K hK => ?_)
  refine goes_ Try.func122 (by kernel_rfl) rfl #[.slice A5 l5.length c5] (by rfl) rfl rfl (by first | rfl | (simp only [List.map_toArray, List.map_cons, List.map_nil]; rfl)) ?_
  refine Calls.mono (pairs_calls l5 A5 c5 _ HF.out.2.1 (Kd.C_below HR5.out HW0.out) HF.out.2.2.2 ih5) ?_
  rintro e w5 ⟨v, rfl, hR, hb⟩
  obtain ⟨A', c', hv⟩ := Kd.R_slice hR
  subst hv
  refine ⟨_, rfl, ?_⟩
  refine hK.out _ _ ⟨up_ hb.cell HH.out.1, up_ hb.cell HH.out.2⟩ (fun hH2 => ?_)
  have HH2 := Aside0.mk hH2
  clear hK K hH2
  have P1 := Aside0.mk (blk_below Q1.out hb)
  have P2 := Aside0.mk (blk_below Q2.out hb)
  have HB7 := Aside0.mk (HW0.out.trans (hb.mono HW0.out.size))
  rw [hs0] at hR
  have HR := Aside0.mk hR
  have hs5 : w.heap.size + 1 + 1 < w5.heap.size := by have := hb.size; omega
  clear hb hR
  refine norm_ (a' := ?_) ?_ ?_
  rotate_left
  · show Act.put _ (some 65) _ = _
    simp only [Act.put, List.setIfInBounds_toArray, List.set_cons_zero, List.set_cons_succ]
    rfl
  refine chain_ [6, 7, 8] _ _ _ _ (⟨_, _, rfl, rfl, ⟨_, _, rfl, rfl, ⟨_, _, rfl, rfl, rfl⟩⟩⟩) (by kernel_rfl) (by decide) ?_
  obtain ⟨x0, x1, x2, x3, x4, x5⟩ := box35 P1.out
  obtain ⟨y0, y1, y2, y3, y4, y5⟩ := box35 P2.out
  have z5 := frz P1.out (n := 5)
  have z3 := frz P1.out (n := 3)
  have t0 := frz P2.out (n := 0)
  have t1 := frz P2.out (n := 1)
  have t2 := frz P2.out (n := 2)
  have t3 := frz P2.out (n := 3)
  have t4 := frz P2.out (n := 4)
  have t5 := frz P2.out (n := 5)
  go_wp2
  have BF := Aside0.mk (six_set (c0 := .int .i64 8) (c1 := .int .i64 0) (c2 := .int .i64 0) (c3 := .string f3) (c4 := .slice none 0 0) (c5 := .slice A' (pairsP l5).length c') (cell_far (o := 5) (v := .slice A' (pairsP l5).length c') (cell_far (o := 3) (v := .string f3) P2.out (show w.heap.size + 1 ≠ w.heap.size + 1 + 1 by omega)) (show w.heap.size + 1 ≠ w.heap.size + 1 + 1 by omega)))
  have RF := Aside0.mk (show k89.R 89 _ w.heap.size (fun _ => True) (.slice A' (pairsP l5).length c') (pairsP l5) from Kd.R_lower (base := w.heap.size + 1 + 1 + 1) (Kd.R_mono (Kd.R_far (p := ⟨w.heap.size + 1, 5, none⟩) (Kd.R_far (p := ⟨w.heap.size + 1, 4, none⟩) (Kd.R_far (p := ⟨w.heap.size + 1, 3, none⟩) (Kd.R_far (p := ⟨w.heap.size + 1, 2, none⟩) (Kd.R_far (p := ⟨w.heap.size + 1, 1, none⟩) (Kd.R_far (p := ⟨w.heap.size + 1, 0, none⟩) (Kd.R_far (p := ⟨w.heap.size + 1 + 1, 5, none⟩) (Kd.R_far (p := ⟨w.heap.size + 1 + 1, 3, none⟩) (Kd.R_bound HR.out) (fun k hk => by have := hk.2.1; show k ≠ w.heap.size + 1 + 1; omega) (.string f3)) (fun k hk => by have := hk.2.1; show k ≠ w.heap.size + 1 + 1; omega) (.slice A' (pairsP l5).length c')) (fun k hk => by have := hk.2.1; show k ≠ w.heap.size + 1; omega) (.int .i64 8)) (fun k hk => by have := hk.2.1; show k ≠ w.heap.size + 1; omega) (.int .i64 0)) (fun k hk => by have := hk.2.1; show k ≠ w.heap.size + 1; omega) (.int .i64 0)) (fun k hk => by have := hk.2.1; show k ≠ w.heap.size + 1; omega) (.string f3)) (fun k hk => by have := hk.2.1; show k ≠ w.heap.size + 1; omega) (.slice none 0 0)) (fun k hk => by have := hk.2.1; show k ≠ w.heap.size + 1; omega) (.slice A' (pairsP l5).length c')) (fun _ _ => trivial)) (by omega))
  have LF := Aside0.mk (RowKit.Below.setCell (RowKit.Below.setCell (RowKit.Below.setCell (RowKit.Below.setCell (RowKit.Below.setCell (RowKit.Below.setCell (RowKit.Below.setCell (RowKit.Below.setCell HB7.out (p := ⟨w.heap.size + 1 + 1, 3, none⟩) (by show w.heap.size ≤ w.heap.size + 1 + 1; omega) (.string f3)) (p := ⟨w.heap.size + 1 + 1, 5, none⟩) (by show w.heap.size ≤ w.heap.size + 1 + 1; omega) (.slice A' (pairsP l5).length c')) (p := ⟨w.heap.size + 1, 0, none⟩) (Nat.le_succ _) (.int .i64 8)) (p := ⟨w.heap.size + 1, 1, none⟩) (Nat.le_succ _) (.int .i64 0)) (p := ⟨w.heap.size + 1, 2, none⟩) (Nat.le_succ _) (.int .i64 0)) (p := ⟨w.heap.size + 1, 3, none⟩) (Nat.le_succ _) (.string f3)) (p := ⟨w.heap.size + 1, 4, none⟩) (Nat.le_succ _) (.slice none 0 0)) (p := ⟨w.heap.size + 1, 5, none⟩) (Nat.le_succ _) (.slice A' (pairsP l5).length c'))
  clear x0 x1 x2 x3 x4 x5 y0 y1 y2 y3 y4 y5 z5 z3 t0 t1 t2 t3 t4 t5
  generalize ((((((((w5.setCell ⟨w.heap.size + 1 + 1, 3, none⟩ (.string f3)).setCell ⟨w.heap.size + 1 + 1, 5, none⟩ (.slice A' (pairsP l5).length c')).setCell ⟨w.heap.size + 1, 0, none⟩ (.int .i64 8)).setCell ⟨w.heap.size + 1, 1, none⟩ (.int .i64 0)).setCell ⟨w.heap.size + 1, 2, none⟩ (.int .i64 0)).setCell ⟨w.heap.size + 1, 3, none⟩ (.string f3)).setCell ⟨w.heap.size + 1, 4, none⟩ (.slice none 0 0)).setCell ⟨w.heap.size + 1, 5, none⟩ (.slice A' (pairsP l5).length c')) = WF at *
  obtain ⟨r0, r1, r2, r3, r4, r5⟩ := box35 BF.out
  exact bodyPost_ret (v := .agg #[.int .i64 8, .int .i64 0, .int .i64 0, .string f3, .slice none 0 0, .slice A' (pairsP l5).length c']) (by simp [results, Try.results60, go_sem, r0, r1, r2, r3, r4, r5]) rfl ⟨_, _, rfl, Kd.R_nil _ _ _ _ _, RF.out, LF.out⟩
 case inr.inr.inr.inr.inr.inr.inl =>
  have he := HE.out
  simp at he
  subst he
  have IH4 := Aside0.mk (And.intro ih4 HF.out.2.2.1)
  clear ih4 ih5
  have Q1 := Aside0.mk (blk_new ((w.alloc (.cells #[.int .i64 5, .int .i64 f1, .int .i64 f2, .string f3, .slice A4 l4.length c4, .slice A5 l5.length c5] 35)).alloc (.cells #[.int .i64 0, .int .i64 0, .int .i64 0, .string ⟨#[]⟩, .slice none 0 0, .slice none 0 0] 35)) (.cells #[.int .i64 5, .int .i64 0, .int .i64 0, .string ⟨#[]⟩, .slice none 0 0, .slice none 0 0] 35))
  have Q2 := Aside0.mk (blk_alloc (blk_new (w.alloc (.cells #[.int .i64 5, .int .i64 f1, .int .i64 f2, .string f3, .slice A4 l4.length c4, .slice A5 l5.length c5] 35)) (.cells #[.int .i64 0, .int .i64 0, .int .i64 0, .string ⟨#[]⟩, .slice none 0 0, .slice none 0 0] 35)) (.cells #[.int .i64 5, .int .i64 0, .int .i64 0, .string ⟨#[]⟩, .slice none 0 0, .slice none 0 0] 35))
  have Q0 := Aside0.mk (blk_alloc (blk_alloc (blk_new w (.cells #[.int .i64 5, .int .i64 f1, .int .i64 f2, .string f3, .slice A4 l4.length c4, .slice A5 l5.length c5] 35)) (.cells #[.int .i64 0, .int .i64 0, .int .i64 0, .string ⟨#[]⟩, .slice none 0 0, .slice none 0 0] 35)) (.cells #[.int .i64 5, .int .i64 0, .int .i64 0, .string ⟨#[]⟩, .slice none 0 0, .slice none 0 0] 35))
  have HW0 := Aside0.mk (below_alloc (below_alloc (below_alloc (RowKit.Below.refl w.heap.size w) (.cells #[.int .i64 5, .int .i64 f1, .int .i64 f2, .string f3, .slice A4 l4.length c4, .slice A5 l5.length c5] 35)) (.cells #[.int .i64 0, .int .i64 0, .int .i64 0, .string ⟨#[]⟩, .slice none 0 0, .slice none 0 0] 35)) (.cells #[.int .i64 5, .int .i64 0, .int .i64 0, .string ⟨#[]⟩, .slice none 0 0, .slice none 0 0] 35))
  have hs0 := Aside0.mk (show (((w.alloc (.cells #[.int .i64 5, .int .i64 f1, .int .i64 f2, .string f3, .slice A4 l4.length c4, .slice A5 l5.length c5] 35)).alloc (.cells #[.int .i64 0, .int .i64 0, .int .i64 0, .string ⟨#[]⟩, .slice none 0 0, .slice none 0 0] 35)).alloc (.cells #[.int .i64 5, .int .i64 0, .int .i64 0, .string ⟨#[]⟩, .slice none 0 0, .slice none 0 0] 35)).heap.size = w.heap.size + 1 + 1 + 1 by simp)
  simp only [World.size_alloc] at Q1 Q2
  have m4 := Kd.C_max HR4.out
  go_enter Try.func60, Try.ntmps60
  go_upto_region 11 with fail
  generalize ((w.alloc (.cells #[.int .i64 5, .int .i64 f1, .int .i64 f2, .string f3, .slice A4 l4.length c4, .slice A5 l5.length c5] 35)).alloc (.cells #[.int .i64 0, .int .i64 0, .int .i64 0, .string ⟨#[]⟩, .slice none 0 0, .slice none 0 0] 35)).alloc (.cells #[.int .i64 5, .int .i64 0, .int .i64 0, .string ⟨#[]⟩, .slice none 0 0, .slice none 0 0] 35) = W0 at *
  go_wp2_with (first | ((with_reducible refine gate_dst (N := 26) rfl ?_); refine Kd.R_lit k35 (w.heap.size + 1 + 1 + 1) 35 ?hg (N := 26) ?hd (w0 := W0) (xs := ([] : List S35)) (inner := []) (ok := fun _ => True) (okp := fun _ => True) ?hr (Reps.none _ _) (fun _ hk => hk) trivial (RowKit.Below.refl _ _) (by rw [hs0.out]; exact Nat.le_refl _) (by simp) ?_; (case hd => rfl); (case hg => rfl); (case hr => first | (go_simp; done) | (go_simp; rfl))))
  intro va w2 HO HB hg2 b hob hle
  have HO2 := Aside0.mk HO
  have HB2 := Aside0.mk HB
  clear HO HB hg2 hob hle
  go_wp2
  go_loopw [4, 5] (fun o i wr => ∃ k : Nat, k ≤ l4.length ∧ i = .int .i64 k ∧ Aside0 (k35.R 35 wr (w.heap.size + 1 + 1 + 1) (fun _ => True) o ((l4.map plain).take k)) ∧ Aside0 (RowKit.Below (w.heap.size + 1 + 1 + 1) W0 wr)) (fun _ i _ => l4.length - (intOf i).toNat)
  case atStart => exact ⟨0, Nat.zero_le _, rfl, HO2, HB2⟩
  case round =>
   clear HO2 HB2
   obtain ⟨k, hk, rfl, HO, HB⟩ := hrel
   have P0 := Aside0.mk ((HB.out.block _ (show w.heap.size < w.heap.size + 1 + 1 + 1 by omega)).trans Q0.out)
   have HBW := Aside0.mk (HW0.out.trans (HB.out.mono (show w.heap.size ≤ w.heap.size + 1 + 1 + 1 by omega)))
   have hsr : w.heap.size + 1 + 1 < wr.heap.size := by have := HB.out.size; have := hs0.out; omega
   have y4 := (box35 P0.out).2.2.2.2.1
   by_cases hlt : k < l4.length
   · obtain ⟨ad, P4, p4, P5, p5, rfl, x0, x1, x2, x3, x4, x5, lp4, gp4, lp5, gp5⟩ := at35 (Kd.C_below HR4.out HBW.out) k hlt
     have hmem := getD_mem l4 k hlt z35
     have IHx := Aside0.mk (And.intro (IH4.out.1 _ hmem) (IH4.out.2 _ hmem))
     have HT := Aside0.mk (show (l4.map plain).take (k + 1) = (l4.map plain).take k ++ [plain (l4.getD k z35)] by
      rw [List.take_succ_eq_append_getElem (by simpa using hlt), List.getElem_map, List.getD_eq_getElem?_getD, List.getElem?_eq_getElem hlt]; rfl)
     have HTL := Aside0.mk (List.length_take_le k (l4.map plain))
     generalize (l4.map plain).take k = tk at *
     generalize l4.getD k z35 = x at *
     have G := Aside0.mk (And.intro lp4 (And.intro gp4 (And.intro lp5 gp5)))
     replace x0 := x0 ⟨wr, RowKit.Below.refl _ _⟩
     replace x1 := x1 ⟨wr, RowKit.Below.refl _ _⟩
     replace x2 := x2 ⟨wr, RowKit.Below.refl _ _⟩
     replace x3 := x3 ⟨wr, RowKit.Below.refl _ _⟩
     replace x4 := x4 ⟨wr, RowKit.Below.refl _ _⟩
     replace x5 := x5 ⟨wr, RowKit.Below.refl _ _⟩
     simp only [] at x0 x1 x2 x3 x4 x5
     clear lp4 gp4 lp5 gp5 hmem
     go_wp2_with fail
     refine Calls.mono (IHx.out.1 P4 p4 P5 p5 _ IHx.out.2 G.out.1 G.out.2.1 G.out.2.2.1 G.out.2.2.2) ?_
     rintro e w7 ⟨q4', q5', rfl, h4, h5, hb⟩
     have hb' : RowKit.Below wr.heap.size wr w7 := hb
     have HBc := Aside0.mk hb'
     generalize plain x = px at *
     obtain ⟨A4', c4', e4⟩ := Kd.R_slice h4
     obtain ⟨A5', c5', e5⟩ := Kd.R_slice h5
     subst e4
     subst e5
     have HOB := Aside0.mk (show ∀ j, (u4 : Value).ownBlock = some j → j < wr.heap.size by
      obtain ⟨inner, ho⟩ := Kd.R_own HO.out
      exact fun j hj => own_lt ho j hj)
     have HM := Aside0.mk (show k35.M w7 (w.heap.size + 1 + 1 + 1) (fun k_ => some k_ ≠ (u4 : Value).ownBlock) px [.int .i64 px.f0, .int .i64 px.f1, .int .i64 px.f2, .string px.f3, .slice A4' px.f4.length c4', .slice A5' px.f5.length c5'] from
      k35.M_lower (show w.heap.size + 1 + 1 + 1 ≤ wr.heap.size by omega) (k35.M_mono (ok' := fun k_ => some k_ ≠ (u4 : Value).ownBlock) (fun j hj e => by have h1 := HOB.out j e.symm; have h2 : wr.heap.size ≤ j := hj.2.1; omega) (k35.M_bound (k35_mkM w7 _ _ px h4 h5))))
     have HR7 := Aside0.mk (Kd.R_below HO.out HBc.out)
     have HB7 := Aside0.mk (HB.out.trans (HBc.out.mono (show w.heap.size + 1 + 1 + 1 ≤ wr.heap.size by omega)))
     have hs7 : w.heap.size + 1 + 1 + 1 ≤ w7.heap.size := by have := hb'.size; omega
     clear h4 h5 hb hb' x0 x1 x2 x3 x4 x5 y4
     go_wp2_with (first | ((with_reducible refine gate_dst (N := 42) rfl ?_); refine Kd.R_append k35 (w0 := W0) (w.heap.size + 1 + 1 + 1) rfl (.tmp 34) (.tmp 41) 32 35 (.agg #[(.int .i64 0), (.int .i64 0), (.int .i64 0), (.string ⟨#[]⟩), (.slice none 0 0), (.slice none 0 0)]) 88 rfl Try.underlying32 info35 rfl (by decide) (by omega) u4 tk px [.int .i64 px.f0, .int .i64 px.f1, .int .i64 px.f2, .string px.f3, .slice A4' px.f4.length c4', .slice A5' px.f5.length c5'] (fun _ => True) (fun k_ => some k_ ≠ (u4 : Value).ownBlock) rfl rfl ?aP (fun _ hk => ⟨trivial, hk⟩) ?aF ?aO ?aB ?aS ?aL ?_; (case aP => exact HM.out); (case aF => exact (fun _ _ => trivial)); (case aO => exact HR7.out); (case aB => exact HB7.out); (case aS => exact hs7); (case aL => have := HTL.out; have := HF.out.1; omega)))
     intro v8 w8 HO8 HB8 hg8 hat8
     have A1 := Aside0.mk HO8
     have A2 := Aside0.mk HB8
     clear HO8 HB8 hg8 hat8
     go_wp2
     exact ⟨⟨k + 1, by omega, by go_num, ⟨by rw [HT.out]; exact A1.out⟩, A2⟩, by simp [intOf]; omega⟩
   · have hT := Aside0.mk (show (l4.map plain).take k = l4.map plain by rw [List.take_of_length_le (by simp; omega)])
     rw [hT.out] at HO
     obtain ⟨A', c', hv⟩ := Kd.R_slice HO.out
     obtain ⟨n', hn'⟩ : ∃ n', n' = (l4.map plain).length := ⟨_, rfl⟩
     rw [← hn'] at hv
     clear hn'
     subst hv
     have P1 := Aside0.mk ((HB.out.block _ (show w.heap.size + 1 + 1 < w.heap.size + 1 + 1 + 1 by omega)).trans Q1.out)
     have P2 := Aside0.mk ((HB.out.block _ (show w.heap.size + 1 < w.heap.size + 1 + 1 + 1 by omega)).trans Q2.out)
     obtain ⟨x0, x1, x2, x3, x4, x5⟩ := box35 P1.out
     obtain ⟨z0, z1, z2, z3, z4, z5⟩ := box35 P2.out
     have s4 := frz P1.out (n := 4)
     have t0 := frz P2.out (n := 0)
     have t1 := frz P2.out (n := 1)
     have t2 := frz P2.out (n := 2)
     have t3 := frz P2.out (n := 3)
     have t4 := frz P2.out (n := 4)
     have t5 := frz P2.out (n := 5)
     go_wp2
     have BF := Aside0.mk (six_set (c0 := .int .i64 5) (c1 := .int .i64 0) (c2 := .int .i64 0) (c3 := .string ⟨#[]⟩) (c4 := .slice A' n' c') (c5 := .slice none 0 0) (cell_far (o := 4) (v := .slice A' n' c') P2.out (show w.heap.size + 1 ≠ w.heap.size + 1 + 1 by omega)))
     have RF := Aside0.mk (show k35.R 35 _ w.heap.size (fun _ => True) (.slice A' n' c') (l4.map plain) from Kd.R_lower (base := w.heap.size + 1 + 1 + 1) (Kd.R_mono (Kd.R_far (p := ⟨w.heap.size + 1, 5, none⟩) (Kd.R_far (p := ⟨w.heap.size + 1, 4, none⟩) (Kd.R_far (p := ⟨w.heap.size + 1, 3, none⟩) (Kd.R_far (p := ⟨w.heap.size + 1, 2, none⟩) (Kd.R_far (p := ⟨w.heap.size + 1, 1, none⟩) (Kd.R_far (p := ⟨w.heap.size + 1, 0, none⟩) (Kd.R_far (p := ⟨w.heap.size + 1 + 1, 4, none⟩) (Kd.R_bound HO.out) (fun k hk => by have := hk.2.1; show k ≠ w.heap.size + 1 + 1; omega) (.slice A' n' c')) (fun k hk => by have := hk.2.1; show k ≠ w.heap.size + 1; omega) (.int .i64 5)) (fun k hk => by have := hk.2.1; show k ≠ w.heap.size + 1; omega) (.int .i64 0)) (fun k hk => by have := hk.2.1; show k ≠ w.heap.size + 1; omega) (.int .i64 0)) (fun k hk => by have := hk.2.1; show k ≠ w.heap.size + 1; omega) (.string ⟨#[]⟩)) (fun k hk => by have := hk.2.1; show k ≠ w.heap.size + 1; omega) (.slice A' n' c')) (fun k hk => by have := hk.2.1; show k ≠ w.heap.size + 1; omega) (.slice none 0 0)) (fun _ _ => trivial)) (by omega))
     have LF := Aside0.mk (RowKit.Below.setCell (RowKit.Below.setCell (RowKit.Below.setCell (RowKit.Below.setCell (RowKit.Below.setCell (RowKit.Below.setCell (RowKit.Below.setCell HBW.out (p := ⟨w.heap.size + 1 + 1, 4, none⟩) (by show w.heap.size ≤ w.heap.size + 1 + 1; omega) (.slice A' n' c')) (p := ⟨w.heap.size + 1, 0, none⟩) (Nat.le_succ _) (.int .i64 5)) (p := ⟨w.heap.size + 1, 1, none⟩) (Nat.le_succ _) (.int .i64 0)) (p := ⟨w.heap.size + 1, 2, none⟩) (Nat.le_succ _) (.int .i64 0)) (p := ⟨w.heap.size + 1, 3, none⟩) (Nat.le_succ _) (.string ⟨#[]⟩)) (p := ⟨w.heap.size + 1, 4, none⟩) (Nat.le_succ _) (.slice A' n' c')) (p := ⟨w.heap.size + 1, 5, none⟩) (Nat.le_succ _) (.slice none 0 0))
     clear x0 x1 x2 x3 x4 x5 z0 z1 z2 z3 z4 z5 s4 t0 t1 t2 t3 t4 t5 y4
     generalize (((((((wr.setCell ⟨w.heap.size + 1 + 1, 4, none⟩ (.slice A' n' c')).setCell ⟨w.heap.size + 1, 0, none⟩ (.int .i64 5)).setCell ⟨w.heap.size + 1, 1, none⟩ (.int .i64 0)).setCell ⟨w.heap.size + 1, 2, none⟩ (.int .i64 0)).setCell ⟨w.heap.size + 1, 3, none⟩ (.string ⟨#[]⟩)).setCell ⟨w.heap.size + 1, 4, none⟩ (.slice A' n' c')).setCell ⟨w.heap.size + 1, 5, none⟩ (.slice none 0 0)) = WF at *
     obtain ⟨r0, r1, r2, r3, r4, r5⟩ := box35 BF.out
     exact bodyPost_ret (v := .agg #[.int .i64 5, .int .i64 0, .int .i64 0, .string ⟨#[]⟩, .slice A' n' c', .slice none 0 0]) (by simp [results, Try.results60, go_sem, r0, r1, r2, r3, r4, r5]) rfl ⟨_, _, rfl, RF.out, Kd.R_nil _ _ _ _ _, LF.out⟩
end Go.Proofs.Ytogpnkkoablmiaa.V
end
