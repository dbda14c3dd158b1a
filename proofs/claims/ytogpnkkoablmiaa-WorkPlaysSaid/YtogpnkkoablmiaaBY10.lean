/- Parts of the proof: what the theorem reaches, put together by a program of this session. -/
import Derived.Lib.Hide
import Derived.Shelf.SlSortCmp.KitK
import Derived.Test.YtogpnkkoablmiaaBY7
import Derived.Test.YtogpnkkoablmiaaBY9
section
namespace Go.Proofs.Ytogpnkkoablmiaa.V
open Go.Shelf Go.RowKit Go.Lib Go.Sort Go.Proofs.Ytogpnkkoablmiaa.Q
set_option linter.unusedVariables false
set_option linter.unusedSimpArgs false
structure RP where
 p : S89
 a4 : Option Addr
 c4 : Nat
 a5 : Option Addr
 c5 : Nat
noncomputable instance : Inhabited RP := ⟨⟨z89, none, 0, none, 0⟩⟩
def encP (x : RP) : List Value := [.string x.p.f0, .int .i64 x.p.f1.f0, .int .i64 x.p.f1.f1, .int .i64 x.p.f1.f2, .string x.p.f1.f3, .slice x.a4 x.p.f1.f4.length x.c4, .slice x.a5 x.p.f1.f5.length x.c5]
theorem encP_len (x : RP) : (encP x).length = 7 := rfl
theorem encP_one (x : RP) : ∀ v ∈ encP x, v.oneCell' = true := by
 intro v hv
 simp only [encP, List.mem_cons, List.not_mem_nil, or_false] at hv
 rcases hv with rfl | rfl | rfl | rfl | rfl | rfl | rfl <;> rfl
structure FamP (P : Program) (k : Nat) : Prop where
 mixed : P.follows .mixedOrders = true
 t0 : P.underlying 0 = some (TypeDesc.tuple #[])
 a0 : ∀ w, (isAgg 0).run P w = .ok false w
 z0 : ∀ w, (Go.sizeOf 0).run P w = .ok 1 w
 v0 : ∀ w, (zeroValue 0).run P w = .ok (Value.tuple #[]) w
 t3 : P.underlying 3 = some (TypeDesc.int IntKind.i64)
 a3 : ∀ w, (isAgg 3).run P w = .ok false w
 z3 : ∀ w, (Go.sizeOf 3).run P w = .ok 1 w
 v3 : ∀ w, (zeroValue 3).run P w = .ok (Value.int IntKind.i64 0) w
 t4 : P.underlying 4 = some (TypeDesc.bool)
 a4 : ∀ w, (isAgg 4).run P w = .ok false w
 z4 : ∀ w, (Go.sizeOf 4).run P w = .ok 1 w
 v4 : ∀ w, (zeroValue 4).run P w = .ok (Value.bool false) w
 t33 : P.underlying 33 = some (TypeDesc.slice 89)
 a33 : ∀ w, (isAgg 33).run P w = .ok false w
 z33 : ∀ w, (Go.sizeOf 33).run P w = .ok 1 w
 v33 : ∀ w, (zeroValue 33).run P w = .ok (Value.slice none 0 0) w
 t191 : P.underlying 191 = some (TypeDesc.func #[89, 89] #[3] false)
 a191 : ∀ w, (isAgg 191).run P w = .ok false w
 z191 : ∀ w, (Go.sizeOf 191).run P w = .ok 1 w
 v191 : ∀ w, (zeroValue 191).run P w = .ok (Value.nilFunc) w
 t203 : P.underlying 203 = some (TypeDesc.int IntKind.u64)
 a203 : ∀ w, (isAgg 203).run P w = .ok false w
 z203 : ∀ w, (Go.sizeOf 203).run P w = .ok 1 w
 v203 : ∀ w, (zeroValue 203).run P w = .ok (Value.int IntKind.u64 0) w
 aE : ∀ w, (isAgg 89).run P w = .ok true w
 zE : ∀ w, (Go.sizeOf 89).run P w = .ok k w
 f206 : P.funcs[206]? = some Try.f206
 f199 : P.funcs[199]? = some Try.f199
 f185 : P.funcs[185]? = some Try.f185
 f184 : P.funcs[184]? = some Try.f184
 f177 : P.funcs[177]? = some Try.f177
theorem famTry : FamP Try.prog 7 where
 mixed := by kernel_rfl
 t0 := by kernel_rfl
 a0 := fun _ => by kernel_rfl
 z0 := fun _ => by kernel_rfl
 v0 := fun _ => by kernel_rfl
 t3 := by kernel_rfl
 a3 := fun _ => by kernel_rfl
 z3 := fun _ => by kernel_rfl
 v3 := fun _ => by kernel_rfl
 t4 := by kernel_rfl
 a4 := fun _ => by kernel_rfl
 z4 := fun _ => by kernel_rfl
 v4 := fun _ => by kernel_rfl
 t33 := by kernel_rfl
 a33 := fun _ => by kernel_rfl
 z33 := fun _ => by kernel_rfl
 v33 := fun _ => by kernel_rfl
 t191 := by kernel_rfl
 a191 := fun _ => by kernel_rfl
 z191 := fun _ => by kernel_rfl
 v191 := fun _ => by kernel_rfl
 t203 := by kernel_rfl
 a203 := fun _ => by kernel_rfl
 z203 := fun _ => by kernel_rfl
 v203 := fun _ => by kernel_rfl
 aE := fun _ => by kernel_rfl
 zE := fun _ => by kernel_rfl
 f206 := by kernel_rfl
 f199 := by kernel_rfl
 f185 := by kernel_rfl
 f184 := by kernel_rfl
 f177 := by kernel_rfl
set_option maxHeartbeats 4000000 in
set_option maxRecDepth 1000000 in
theorem swapRange_any {P : Program} {k : Nat} (L : FamP P k) (enc : RP → List Value) (blk off cap a b n : Nat) (d0 d : Array RP) (w0 w : World) (fv : Value) (R : RowK enc k w0 blk off d0) (hs : d0.size = d.size) (S : SWK enc k w0 blk off d w) (h1 : a + n ≤ b) (h2 : b + n ≤ d.size) (hsz : d.size < 4611686018427387904) :
 Calls P 206 #[.slice (some ⟨blk, off, none⟩) d.size cap, .int .i64 a, .int .i64 b, .int .i64 n, fv] w fun e w' => e = .returned (.tuple #[]) ∧ ∃ d', SwR a b n d d' ∧ SWK enc k w0 blk off d' w' := by
 have mixed := L.mixed; have t0 := L.t0; have a0 := L.a0; have z0 := L.z0; have v0 := L.v0; have t3 := L.t3; have a3 := L.a3; have z3 := L.z3; have v3 := L.v3; have t4 := L.t4; have a4 := L.a4; have z4 := L.z4; have v4 := L.v4; have t33 := L.t33; have a33 := L.a33; have z33 := L.z33; have v33 := L.v33; have t191 := L.t191; have a191 := L.a191; have z191 := L.z191; have v191 := L.v191; have aE := L.aE; have zE := L.zE
 have FG := L.f206
 have S0 : Aside (SWK enc k w0 blk off d w) := S
 clear S
 go_enter FG, Try.ntmps206
 go_wp2
 go_loopg [10] (n) (fun kx s10 wr => ∃ (i : Nat) (dk : Array RP), s10 = .int .i64 i ∧ i ≤ n ∧ n - i ≤ kx ∧ dk.size = d.size ∧ Aside (SwR a b i d dk) ∧ Aside (SWK enc k w0 blk off dk wr))
 case atStart => exact ⟨0, d, rfl, by omega, by omega, rfl, SwR.zero a b d, S0⟩
 case round =>
  clear S0
  obtain ⟨i, dk, rfl, hin, hkx, hds, HW, S1⟩ := hrel
  by_cases hlt : i < n
  · go_wp2_with fail
    have ea44 : ((a : Int) + (i : Int)).toNat = a + i := by omega
    have pa44 : (0 : Int) ≤ (a : Int) + (i : Int) := by omega
    have ba44 : (a : Int) + (i : Int) < (d.size : Int) := by omega
    have ra44 : IntKind.i64.wrap ((a : Int) + (i : Int)) = (a : Int) + (i : Int) := by rw [IntKind.wrap_i64]; omega
    have ec44 : ((b : Int) + (i : Int)).toNat = b + i := by omega
    have pc44 : (0 : Int) ≤ (b : Int) + (i : Int) := by omega
    have bc44 : (b : Int) + (i : Int) < (d.size : Int) := by omega
    have rc44 : IntKind.i64.wrap ((b : Int) + (i : Int)) = (b : Int) + (i : Int) := by rw [IntKind.wrap_i64]; omega
    have S2 : Aside (SWK enc k w0 blk off (swp dk (a + i) (b + i)) ((wr.drew.setCells blk (off + (a + i) * k) (enc dk[b + i]!)).setCells blk (off + (b + i) * k) (enc dk[a + i]!))) := S1.out.swapped R (a + i) (b + i) (by omega) (by omega)
    have l44a := S1.out.ld1 R (by omega) P (a + i) (by omega)
    have l44b := S1.out.ld1 R (by omega) P (b + i) (by omega)
    have s44a := S1.out.st1 R (by omega) P (a + i) (by omega) dk[b + i]!
    have s44b := S1.out.st2 R (by omega) P (a + i) (b + i) (by omega) (by omega) dk[b + i]! dk[a + i]!
    have n44a : (enc dk[a + i]!).length = k := R.hk _
    have n44b : (enc dk[b + i]!).length = k := R.hk _
    generalize enc dk[a + i]! = cI44 at S2 l44a s44b n44a
    generalize enc dk[b + i]! = cJ44 at S2 l44b s44a s44b n44b
    clear S1
    go_wp2_with fail
    go_big_region_o
    clear l44a l44b s44a s44b
    generalize (wr.drew.setCells blk (off + (a + i) * k) cJ44).setCells blk (off + (b + i) * k) cI44 = w2 at S2 ⊢
    go_wp2
    go_roundg (n - (i + 1))
    case measure => omega
    case rel => exact ⟨i + 1, _, by first | rfl | go_num, by omega, by omega, by rw [swp_size]; exact hds, HW.out.step (by omega) (by omega), S2⟩
  · obtain rfl : i = n := by omega
    go_wp2
    go_end0
    exact ⟨rfl, dk, HW.out, S1.out⟩
set_option maxHeartbeats 4000000 in
set_option maxRecDepth 1000000 in
theorem rotate_any {P : Program} {k : Nat} (L : FamP P k) (enc : RP → List Value) (blk off cap a m b : Nat) (d0 d : Array RP) (w0 w : World) (fv : Value) (R : RowK enc k w0 blk off d0) (hs : d0.size = d.size) (S : SWK enc k w0 blk off d w) (h1 : a < m) (h2 : m < b) (h3 : b ≤ d.size) (hsz : d.size < 4611686018427387904) :
 Calls P 199 #[.slice (some ⟨blk, off, none⟩) d.size cap, .int .i64 a, .int .i64 m, .int .i64 b, fv] w fun e w' => e = .returned (.tuple #[]) ∧ ∃ d', RotR a m b d d' ∧ SWK enc k w0 blk off d' w' := by
 have mixed := L.mixed; have t0 := L.t0; have a0 := L.a0; have z0 := L.z0; have v0 := L.v0; have t3 := L.t3; have a3 := L.a3; have z3 := L.z3; have v3 := L.v3; have t4 := L.t4; have a4 := L.a4; have z4 := L.z4; have v4 := L.v4; have t33 := L.t33; have a33 := L.a33; have z33 := L.z33; have v33 := L.v33; have t191 := L.t191; have a191 := L.a191; have z191 := L.z191; have v191 := L.v191; have aE := L.aE; have zE := L.zE
 have FG := L.f199
 have e206 : ∀ args w, (callFunc 206 args).run P w = .ok (.enter 206 args) w := enters_of L.f206 (by kernel_rfl) rfl
 have S0 : Aside (SWK enc k w0 blk off d w) := S
 clear S
 go_enter FG, Try.ntmps199
 go_wp2
 go_loopg [10, 11] (b - a) (fun kx s10 s11 wr => ∃ (i j : Nat) (dk : Array RP), s10 = .int .i64 i ∧ s11 = .int .i64 j ∧ 0 < i ∧ 0 < j ∧ i ≤ m ∧ m + j ≤ b ∧ i + j ≤ kx ∧ dk.size = d.size ∧ Aside (∀ d', RotR (m - i) m (m + j) dk d' → RotR a m b d d') ∧ Aside (SWK enc k w0 blk off dk wr))
 case atStart => exact ⟨m - a, b - m, d, by congr 1; omega, by congr 1; omega, by omega, by omega, by omega, by omega, by omega, rfl, (fun d' h => by rw [show m - (m - a) = a by omega, show m + (b - m) = b by omega] at h; exact h), S0⟩
 case round =>
  clear S0
  obtain ⟨i, j, dk, rfl, rfl, hi0, hj0, him, hjb, hkx, hds, HN, S1⟩ := hrel
  have u0 : 0 ≤ (m : Int) - (i : Int) := by omega
  by_cases hij : i = j
  · subst hij
    have hc := swapRange_any L enc blk off cap (m - i) m i d0 dk w0 wr fv R (by omega) S1.out (by omega) (by omega) (by omega)
    rw [hds, show ((m - i : Nat) : Int) = (m : Int) - (i : Int) by omega] at hc
    have HC := Lib.hid hc
    clear hc
    go_wp2_with (go_at_call 206; refine HC.out.mono ?_; rintro e w1 ⟨rfl, d1, hsw, hS1⟩)
    go_end0
    exact ⟨rfl, d1, HN.out _ (RotR.same (by omega) hsw), hS1⟩
  · by_cases hlt : j < i
    · have hc := swapRange_any L enc blk off cap (m - i) m j d0 dk w0 wr fv R (by omega) S1.out (by omega) (by omega) (by omega)
      rw [hds, show ((m - i : Nat) : Int) = (m : Int) - (i : Int) by omega] at hc
      have HC := Lib.hid hc
      clear hc
      go_wp2_with (go_at_call 206; refine HC.out.mono ?_; rintro e w1 ⟨rfl, d1, hsw, hS1⟩; have HSW : Aside _ := hsw; have HS1 : Aside _ := hS1; clear hsw hS1)
      go_roundg (i + j - j)
      case measure => omega
      case rel =>
       have := HSW.out.size
       exact ⟨i - j, j, d1, by congr 1; omega, rfl, by omega, by omega, by omega, by omega, by omega, by omega, (fun d' h => HN.out _ (RotR.left (by omega) (by omega) (by omega) HSW.out h)), HS1⟩
    · have hc := swapRange_any L enc blk off cap (m - i) (m + j - i) i d0 dk w0 wr fv R (by omega) S1.out (by omega) (by omega) (by omega)
      rw [hds, show ((m - i : Nat) : Int) = (m : Int) - (i : Int) by omega, show ((m + j - i : Nat) : Int) = (m : Int) + (j : Int) - (i : Int) by omega] at hc
      have HC := Lib.hid hc
      clear hc
      go_wp2_with (go_at_call 206; refine HC.out.mono ?_; rintro e w1 ⟨rfl, d1, hsw, hS1⟩; have HSW : Aside _ := hsw; have HS1 : Aside _ := hS1; clear hsw hS1)
      go_roundg (i + j - i)
      case measure => omega
      case rel =>
       have := HSW.out.size
       exact ⟨i, j - i, d1, rfl, by congr 1; omega, by omega, by omega, by omega, by omega, by omega, by omega, (fun d' h => HN.out _ (RotR.right (by omega) (by omega) (by omega) HSW.out h)), HS1⟩
theorem lt_le_of' {α : Type} [Inhabited α] {lt : α → α → Bool} (hS : SWO lt) {x y z : α} (h2 : lt y x = false) (h1 : lt y z = true) : lt x z = true := le_lt_of hS h2 h1
set_option maxHeartbeats 8000000 in
set_option maxRecDepth 1000000 in
theorem symMerge_one {P : Program} {k : Nat} (L : FamP P k) (enc : RP → List Value) (cf : RP → RP → Int) (g : Nat) (cb : Array Value) {β : Type} (q : β → RP → Bool) (hq : ∀ k x y, ltOf cf x y = true → q k x = true → q k y = false) (hqx : ∀ x, ∃ k, q k x = true) (hS : SWO (ltOf cf)) (eg : ∀ args w, (callFunc g args).run P w = .ok (.enter g args) w) (blk off cap : Nat) (d0 : Array RP) (w0 : World) (R : RowK enc k w0 blk off d0) (hcmp : CmpLays P g cb enc k cf blk off d0.size w0) (hsz : d0.size < 4611686018427387904) (a m b : Nat) (d : Array RP) (w : World) (hs : d0.size = d.size) (S : SWK enc k w0 blk off d w) (h1 : a < m) (h2 : m < b) (h3 : b ≤ d.size) (so1 : SortedIn (ltOf cf) a m d) (so2 : SortedIn (ltOf cf) m b d) (hm : m = a + 1) :
 Calls P 185 #[.slice (some ⟨blk, off, none⟩) d.size cap, .int .i64 a, .int .i64 m, .int .i64 b, .func (.func g) #[] cb] w fun e w' => e = .returned (.tuple #[]) ∧ ∃ d', Stab q a b d d' ∧ SortedIn (ltOf cf) a b d' ∧ SWK enc k w0 blk off d' w' := by
 have mixed := L.mixed; have t0 := L.t0; have a0 := L.a0; have z0 := L.z0; have v0 := L.v0; have t3 := L.t3; have a3 := L.a3; have z3 := L.z3; have v3 := L.v3; have t4 := L.t4; have a4 := L.a4; have z4 := L.z4; have v4 := L.v4; have t33 := L.t33; have a33 := L.a33; have z33 := L.z33; have v33 := L.v33; have t191 := L.t191; have a191 := L.a191; have z191 := L.z191; have v191 := L.v191; have t203 := L.t203; have a203 := L.a203; have z203 := L.z203; have v203 := L.v203; have aE := L.aE; have zE := L.zE
 have u3 := run_underlying L.t3; have u203 := run_underlying L.t203
 have FG := L.f185
 have e185 : ∀ args w, (callFunc 185 args).run P w = .ok (.enter 185 args) w := enters_of L.f185 (by kernel_rfl) rfl
 have e199 : ∀ args w, (callFunc 199 args).run P w = .ok (.enter 199 args) w := enters_of L.f199 (by kernel_rfl) rfl
 have S0 : Aside (SWK enc k w0 blk off d w) := S
 have HC : Aside _ := hcmp
 have HQ := Lib.hid hq
 have HQX := Lib.hid hqx
 have HS := Lib.hid hS
 have SO1 := Lib.hid so1
 have SO2 := Lib.hid so2
 clear S hcmp hq hqx hS so1 so2
 have hm1 : m ≤ a + 1 := by omega
 have hm2 : a + 1 ≤ m := by omega
 have HM := Lib.hid hm
 clear hm
 have hdm : (((m : Int) - (a : Int)) == 1) = true := by have : (m : Int) - (a : Int) = 1 := by omega
                                                        simp [this]
 go_enter FG, Try.ntmps185
 go_wp2
 go_loopg [10, 11] (b - m) (fun kx s10 s11 wr => ∃ lo hi : Nat, s10 = .int .i64 lo ∧ s11 = .int .i64 hi ∧ m ≤ lo ∧ lo ≤ hi ∧ hi ≤ b ∧ hi - lo ≤ kx ∧ Aside (SWK enc k w0 blk off d wr) ∧ Hid ((m < lo → ltOf cf d[lo - 1]! d[a]! = true) ∧ (hi < b → ltOf cf d[hi]! d[a]! = false)))
 case atStart => exact ⟨m, b, rfl, rfl, by omega, by omega, by omega, by omega, S0, Lib.hid ⟨fun h => by omega, fun h => by omega⟩⟩
 case round =>
  clear S0
  obtain ⟨lo, hi, rfl, rfl, hml, hlh, hhb, hkx, S1, HI⟩ := hrel
  by_cases hlt : lo < hi
  · skip
    cases HB : ltOf cf d[(lo + hi) / 2]! d[a]! with
    | true =>
      have ea1 : (((lo : Int) + (hi : Int)) / 2).toNat = (lo + hi) / 2 := by omega
      have pa1 : (0 : Int) ≤ ((lo : Int) + (hi : Int)) / 2 := by omega
      have ba1 : ((lo : Int) + (hi : Int)) / 2 < (d.size : Int) := by omega
      have ra1 : IntKind.i64.wrap (((lo : Int) + (hi : Int)) / 2) = ((lo : Int) + (hi : Int)) / 2 := by rw [IntKind.wrap_i64]; omega
      have ec1 : ((a : Int)).toNat = a := by omega
      have pc1 : (0 : Int) ≤ (a : Int) := by omega
      have bc1 : (a : Int) < (d.size : Int) := by omega
      have rc1 : IntKind.i64.wrap ((a : Int)) = (a : Int) := by rw [IntKind.wrap_i64]; omega
      obtain ⟨x1, hx1⟩ : ∃ x, x = d[(lo + hi) / 2]! := ⟨_, rfl⟩
      obtain ⟨y1, hy1⟩ : ∃ x, x = d[a]! := ⟨_, rfl⟩
      have l1a := S1.out.ld R (by omega) P ((lo + hi) / 2) (by omega)
      have l1b := S1.out.ld R (by omega) P (a) (by omega)
      rw [← hx1] at l1a
      rw [← hy1] at l1b
      have hc1 := S1.out.cmp HC.out (by omega) x1 y1
      have hv1 : cf x1 y1 < 0 := by rw [hx1, hy1]; exact of_decide_eq_true HB
      have hd1 : decide (cf x1 y1 < 0) = true := decide_eq_true hv1
      have HB1 := Lib.hid HB
      clear HB hx1 hy1
      go_wp2_with fail
      go_quiet_grown (first | (go_at_fn g; refine Calls.grown_of (hc1 _ _)))
      have S2 : Aside (SWK enc k w0 blk off d (grow (wr.drewN nq) osq)) := S1.out.grown nq osq
      clear l1a l1b hc1 S1
      generalize grow (wr.drewN nq) osq = w2 at S2 ⊢
      clear nq osq
      go_wp2
      go_roundg (hi - ((lo + hi) / 2 + 1))
      case measure => omega
      case rel => exact ⟨(lo + hi) / 2 + 1, hi, by go_num, rfl, by omega, by omega, by omega, by omega, S2, Lib.hid ⟨fun _ => HB1.out, HI.out.2⟩⟩
    | false =>
      have ea1 : (((lo : Int) + (hi : Int)) / 2).toNat = (lo + hi) / 2 := by omega
      have pa1 : (0 : Int) ≤ ((lo : Int) + (hi : Int)) / 2 := by omega
      have ba1 : ((lo : Int) + (hi : Int)) / 2 < (d.size : Int) := by omega
      have ra1 : IntKind.i64.wrap (((lo : Int) + (hi : Int)) / 2) = ((lo : Int) + (hi : Int)) / 2 := by rw [IntKind.wrap_i64]; omega
      have ec1 : ((a : Int)).toNat = a := by omega
      have pc1 : (0 : Int) ≤ (a : Int) := by omega
      have bc1 : (a : Int) < (d.size : Int) := by omega
      have rc1 : IntKind.i64.wrap ((a : Int)) = (a : Int) := by rw [IntKind.wrap_i64]; omega
      obtain ⟨x1, hx1⟩ : ∃ x, x = d[(lo + hi) / 2]! := ⟨_, rfl⟩
      obtain ⟨y1, hy1⟩ : ∃ x, x = d[a]! := ⟨_, rfl⟩
      have l1a := S1.out.ld R (by omega) P ((lo + hi) / 2) (by omega)
      have l1b := S1.out.ld R (by omega) P (a) (by omega)
      rw [← hx1] at l1a
      rw [← hy1] at l1b
      have hc1 := S1.out.cmp HC.out (by omega) x1 y1
      have hv1 : ¬ (cf x1 y1 < 0) := by rw [hx1, hy1]; exact of_decide_eq_false HB
      have hd1 : decide (cf x1 y1 < 0) = false := decide_eq_false hv1
      have HB1 := Lib.hid HB
      clear HB hx1 hy1
      go_wp2_with fail
      go_quiet_grown (first | (go_at_fn g; refine Calls.grown_of (hc1 _ _)))
      have S2 : Aside (SWK enc k w0 blk off d (grow (wr.drewN nq) osq)) := S1.out.grown nq osq
      clear l1a l1b hc1 S1
      generalize grow (wr.drewN nq) osq = w2 at S2 ⊢
      clear nq osq
      go_wp2
      go_roundg ((lo + hi) / 2 - lo)
      case measure => omega
      case rel => exact ⟨lo, (lo + hi) / 2, rfl, by go_num, by omega, by omega, by omega, by omega, S2, Lib.hid ⟨HI.out.1, fun _ => HB1.out⟩⟩
  · obtain rfl : hi = lo := by omega
    go_wp2
    go_loopg [13] (hi - 1 - a) (fun kx s13 wr => ∃ (t : Nat) (dk : Array RP), s13 = .int .i64 t ∧ a ≤ t ∧ t ≤ hi - 1 ∧ hi - 1 - t ≤ kx ∧ dk.size = d.size ∧ Hid (MvU a t d dk) ∧ Hid (Stab q a b d dk) ∧ Aside (SWK enc k w0 blk off dk wr))
    case atStart => exact ⟨a, d, rfl, by omega, by omega, by omega, rfl, Lib.hid (MvU.zero a d), Lib.hid (Stab.refl a b d), S1⟩
    case round =>
     clear S1
     obtain ⟨t, dk, rfl, hat, hth, hkx2, hds, HV, HT, S1⟩ := hrel
     by_cases hlt2 : t < hi - 1
     · have hz2 : (t : Int) < (hi : Int) - 1 := by omega
       have ea2 : ((t : Int)).toNat = t := by omega
       have pa2 : (0 : Int) ≤ (t : Int) := by omega
       have ba2 : (t : Int) < (d.size : Int) := by omega
       have ra2 : IntKind.i64.wrap ((t : Int)) = (t : Int) := by rw [IntKind.wrap_i64]; omega
       have ec2 : ((t : Int) + 1).toNat = t + 1 := by omega
       have pc2 : (0 : Int) ≤ (t : Int) + 1 := by omega
       have bc2 : (t : Int) + 1 < (d.size : Int) := by omega
       have rc2 : IntKind.i64.wrap ((t : Int) + 1) = (t : Int) + 1 := by rw [IntKind.wrap_i64]; omega
       have S2 : Aside (SWK enc k w0 blk off (swp dk (t) (t + 1)) ((wr.drew.setCells blk (off + (t) * k) (enc dk[t + 1]!)).setCells blk (off + (t + 1) * k) (enc dk[t]!))) := S1.out.swapped R (t) (t + 1) (by omega) (by omega)
       have l2a := S1.out.ld1 R (by omega) P (t) (by omega)
       have l2b := S1.out.ld1 R (by omega) P (t + 1) (by omega)
       have s2a := S1.out.st1 R (by omega) P (t) (by omega) dk[t + 1]!
       have s2b := S1.out.st2 R (by omega) P (t) (t + 1) (by omega) (by omega) dk[t + 1]! dk[t]!
       have n2a : (enc dk[t]!).length = k := R.hk _
       have n2b : (enc dk[t + 1]!).length = k := R.hk _
       generalize enc dk[t]! = cI2 at S2 l2a s2b n2a
       generalize enc dk[t + 1]! = cJ2 at S2 l2b s2a s2b n2b
       clear S1
       go_wp2_with fail
       go_big_region_o
       clear l2a l2b s2a s2b
       generalize (wr.drew.setCells blk (off + (t) * k) cJ2).setCells blk (off + (t + 1) * k) cI2 = w2 at S2 ⊢
       go_wp2
       go_roundg (hi - 1 - (t + 1))
       case measure => omega
       case rel =>
        have hl : ltOf cf d[t + 1]! d[a]! = true := lt_le_of' HS.out (sorted_at HS.out SO2.out (i := t + 1) (j := hi - 1) (by omega) (by omega) (by omega)) (HI.out.1 (by omega))
        exact ⟨t + 1, _, by congr 1, by omega, by omega, by omega, by rw [swp_size]; exact hds, Lib.hid (HV.out.step hat (by omega)), Lib.hid (HV.out.stab HQ.out HT.out hat (by omega) h3 hl), S2⟩
     · have hz2 : ¬ (t : Int) < (hi : Int) - 1 := by omega
       obtain rfl : t = hi - 1 := by omega
       go_wp2
       refine bodyPost_ret (results_none rfl _ _ _) rfl ?_
       exact ⟨rfl, dk, HT.out, HV.out.sorted HS.out (by omega) hhb (by rw [← HM.out]; exact SO2.out) (fun h => HI.out.1 (by omega)) HI.out.2, S1.out⟩
set_option maxHeartbeats 8000000 in
set_option maxRecDepth 1000000 in
theorem symMerge_last {P : Program} {k : Nat} (L : FamP P k) (enc : RP → List Value) (cf : RP → RP → Int) (g : Nat) (cb : Array Value) {β : Type} (q : β → RP → Bool) (hq : ∀ k x y, ltOf cf x y = true → q k x = true → q k y = false) (hqx : ∀ x, ∃ k, q k x = true) (hS : SWO (ltOf cf)) (eg : ∀ args w, (callFunc g args).run P w = .ok (.enter g args) w) (blk off cap : Nat) (d0 : Array RP) (w0 : World) (R : RowK enc k w0 blk off d0) (hcmp : CmpLays P g cb enc k cf blk off d0.size w0) (hsz : d0.size < 4611686018427387904) (a m b : Nat) (d : Array RP) (w : World) (hs : d0.size = d.size) (S : SWK enc k w0 blk off d w) (h1 : a < m) (h2 : m < b) (h3 : b ≤ d.size) (so1 : SortedIn (ltOf cf) a m d) (so2 : SortedIn (ltOf cf) m b d) (hm0 : m ≠ a + 1) (hm : b = m + 1) :
 Calls P 185 #[.slice (some ⟨blk, off, none⟩) d.size cap, .int .i64 a, .int .i64 m, .int .i64 b, .func (.func g) #[] cb] w fun e w' => e = .returned (.tuple #[]) ∧ ∃ d', Stab q a b d d' ∧ SortedIn (ltOf cf) a b d' ∧ SWK enc k w0 blk off d' w' := by
 have mixed := L.mixed; have t0 := L.t0; have a0 := L.a0; have z0 := L.z0; have v0 := L.v0; have t3 := L.t3; have a3 := L.a3; have z3 := L.z3; have v3 := L.v3; have t4 := L.t4; have a4 := L.a4; have z4 := L.z4; have v4 := L.v4; have t33 := L.t33; have a33 := L.a33; have z33 := L.z33; have v33 := L.v33; have t191 := L.t191; have a191 := L.a191; have z191 := L.z191; have v191 := L.v191; have t203 := L.t203; have a203 := L.a203; have z203 := L.z203; have v203 := L.v203; have aE := L.aE; have zE := L.zE
 have u3 := run_underlying L.t3; have u203 := run_underlying L.t203
 have FG := L.f185
 have e185 : ∀ args w, (callFunc 185 args).run P w = .ok (.enter 185 args) w := enters_of L.f185 (by kernel_rfl) rfl
 have e199 : ∀ args w, (callFunc 199 args).run P w = .ok (.enter 199 args) w := enters_of L.f199 (by kernel_rfl) rfl
 have S0 : Aside (SWK enc k w0 blk off d w) := S
 have HC : Aside _ := hcmp
 have HQ := Lib.hid hq
 have HQX := Lib.hid hqx
 have HS := Lib.hid hS
 have SO1 := Lib.hid so1
 have SO2 := Lib.hid so2
 clear S hcmp hq hqx hS so1 so2
 have hm1 : b ≤ m + 1 := by omega
 have hm2 : m + 1 ≤ b := by omega
 have HM := Lib.hid hm
 clear hm
 have hdm : (((m : Int) - (a : Int)) == 1) = false := by have : (m : Int) - (a : Int) ≠ 1 := by omega
                                                         simp [this]
 have hdm2 : (((b : Int) - (m : Int)) == 1) = true := by have : (b : Int) - (m : Int) = 1 := by omega
                                                         simp [this]
 clear hm0
 go_enter FG, Try.ntmps185
 go_wp2
 go_loopg [14, 15] (m - a) (fun kx s10 s11 wr => ∃ lo hi : Nat, s10 = .int .i64 lo ∧ s11 = .int .i64 hi ∧ a ≤ lo ∧ lo ≤ hi ∧ hi ≤ m ∧ hi - lo ≤ kx ∧ Aside (SWK enc k w0 blk off d wr) ∧ Hid ((a < lo → ltOf cf d[m]! d[lo - 1]! = false) ∧ (hi < m → ltOf cf d[m]! d[hi]! = true)))
 case atStart => exact ⟨a, m, rfl, rfl, by omega, by omega, by omega, by omega, S0, Lib.hid ⟨fun h => by omega, fun h => by omega⟩⟩
 case round =>
  clear S0
  obtain ⟨lo, hi, rfl, rfl, hml, hlh, hhb, hkx, S1, HI⟩ := hrel
  by_cases hlt : lo < hi
  · skip
    cases HB : ltOf cf d[m]! d[(lo + hi) / 2]! with
    | false =>
      have ea1 : ((m : Int)).toNat = m := by omega
      have pa1 : (0 : Int) ≤ (m : Int) := by omega
      have ba1 : (m : Int) < (d.size : Int) := by omega
      have ra1 : IntKind.i64.wrap ((m : Int)) = (m : Int) := by rw [IntKind.wrap_i64]; omega
      have ec1 : (((lo : Int) + (hi : Int)) / 2).toNat = (lo + hi) / 2 := by omega
      have pc1 : (0 : Int) ≤ ((lo : Int) + (hi : Int)) / 2 := by omega
      have bc1 : ((lo : Int) + (hi : Int)) / 2 < (d.size : Int) := by omega
      have rc1 : IntKind.i64.wrap (((lo : Int) + (hi : Int)) / 2) = ((lo : Int) + (hi : Int)) / 2 := by rw [IntKind.wrap_i64]; omega
      obtain ⟨x1, hx1⟩ : ∃ x, x = d[m]! := ⟨_, rfl⟩
      obtain ⟨y1, hy1⟩ : ∃ x, x = d[(lo + hi) / 2]! := ⟨_, rfl⟩
      have l1a := S1.out.ld R (by omega) P (m) (by omega)
      have l1b := S1.out.ld R (by omega) P ((lo + hi) / 2) (by omega)
      rw [← hx1] at l1a
      rw [← hy1] at l1b
      have hc1 := S1.out.cmp HC.out (by omega) x1 y1
      have hv1 : ¬ (cf x1 y1 < 0) := by rw [hx1, hy1]; exact of_decide_eq_false HB
      have hd1 : decide (cf x1 y1 < 0) = false := decide_eq_false hv1
      have HB1 := Lib.hid HB
      clear HB hx1 hy1
      go_wp2_with fail
      go_quiet_grown (first | (go_at_fn g; refine Calls.grown_of (hc1 _ _)))
      have S2 : Aside (SWK enc k w0 blk off d (grow (wr.drewN nq) osq)) := S1.out.grown nq osq
      clear l1a l1b hc1 S1
      generalize grow (wr.drewN nq) osq = w2 at S2 ⊢
      clear nq osq
      go_wp2
      go_roundg (hi - ((lo + hi) / 2 + 1))
      case measure => omega
      case rel => exact ⟨(lo + hi) / 2 + 1, hi, by go_num, rfl, by omega, by omega, by omega, by omega, S2, Lib.hid ⟨fun _ => HB1.out, HI.out.2⟩⟩
    | true =>
      have ea1 : ((m : Int)).toNat = m := by omega
      have pa1 : (0 : Int) ≤ (m : Int) := by omega
      have ba1 : (m : Int) < (d.size : Int) := by omega
      have ra1 : IntKind.i64.wrap ((m : Int)) = (m : Int) := by rw [IntKind.wrap_i64]; omega
      have ec1 : (((lo : Int) + (hi : Int)) / 2).toNat = (lo + hi) / 2 := by omega
      have pc1 : (0 : Int) ≤ ((lo : Int) + (hi : Int)) / 2 := by omega
      have bc1 : ((lo : Int) + (hi : Int)) / 2 < (d.size : Int) := by omega
      have rc1 : IntKind.i64.wrap (((lo : Int) + (hi : Int)) / 2) = ((lo : Int) + (hi : Int)) / 2 := by rw [IntKind.wrap_i64]; omega
      obtain ⟨x1, hx1⟩ : ∃ x, x = d[m]! := ⟨_, rfl⟩
      obtain ⟨y1, hy1⟩ : ∃ x, x = d[(lo + hi) / 2]! := ⟨_, rfl⟩
      have l1a := S1.out.ld R (by omega) P (m) (by omega)
      have l1b := S1.out.ld R (by omega) P ((lo + hi) / 2) (by omega)
      rw [← hx1] at l1a
      rw [← hy1] at l1b
      have hc1 := S1.out.cmp HC.out (by omega) x1 y1
      have hv1 : cf x1 y1 < 0 := by rw [hx1, hy1]; exact of_decide_eq_true HB
      have hd1 : decide (cf x1 y1 < 0) = true := decide_eq_true hv1
      have HB1 := Lib.hid HB
      clear HB hx1 hy1
      go_wp2_with fail
      go_quiet_grown (first | (go_at_fn g; refine Calls.grown_of (hc1 _ _)))
      have S2 : Aside (SWK enc k w0 blk off d (grow (wr.drewN nq) osq)) := S1.out.grown nq osq
      clear l1a l1b hc1 S1
      generalize grow (wr.drewN nq) osq = w2 at S2 ⊢
      clear nq osq
      go_wp2
      go_roundg ((lo + hi) / 2 - lo)
      case measure => omega
      case rel => exact ⟨lo, (lo + hi) / 2, rfl, by go_num, by omega, by omega, by omega, by omega, S2, Lib.hid ⟨HI.out.1, fun _ => HB1.out⟩⟩
  · obtain rfl : hi = lo := by omega
    go_wp2
    go_loopg [17] (m - hi) (fun kx s17 wr => ∃ (t : Nat) (dk : Array RP), s17 = .int .i64 t ∧ hi ≤ t ∧ t ≤ m ∧ t - hi ≤ kx ∧ dk.size = d.size ∧ Hid (MvD t m d dk) ∧ Hid (Stab q a b d dk) ∧ Aside (SWK enc k w0 blk off dk wr))
    case atStart => exact ⟨m, d, rfl, by omega, by omega, by omega, rfl, Lib.hid (MvD.zero m d), Lib.hid (Stab.refl a b d), S1⟩
    case round =>
     clear S1
     obtain ⟨t, dk, rfl, hat, hth, hkx2, hds, HV, HT, S1⟩ := hrel
     by_cases hlt2 : hi < t
     · obtain ⟨u, rfl⟩ : ∃ u, t = u + 1 := ⟨t - 1, by omega⟩
       have hz3 : (((u + 1 : Nat) : Int)) = (u : Int) + 1 := by omega
       have hz2 : (hi : Int) < (u : Int) + 1 := by omega
       have ea2 : ((u : Int) + 1).toNat = u + 1 := by omega
       have pa2 : (0 : Int) ≤ (u : Int) + 1 := by omega
       have ba2 : (u : Int) + 1 < (d.size : Int) := by omega
       have ra2 : IntKind.i64.wrap ((u : Int) + 1) = (u : Int) + 1 := by rw [IntKind.wrap_i64]; omega
       have ec2 : ((u : Int)).toNat = u := by omega
       have pc2 : (0 : Int) ≤ (u : Int) := by omega
       have bc2 : (u : Int) < (d.size : Int) := by omega
       have rc2 : IntKind.i64.wrap ((u : Int)) = (u : Int) := by rw [IntKind.wrap_i64]; omega
       have S2 : Aside (SWK enc k w0 blk off (swp dk (u + 1) (u)) ((wr.drew.setCells blk (off + (u + 1) * k) (enc dk[u]!)).setCells blk (off + (u) * k) (enc dk[u + 1]!))) := S1.out.swapped R (u + 1) (u) (by omega) (by omega)
       have l2a := S1.out.ld1 R (by omega) P (u + 1) (by omega)
       have l2b := S1.out.ld1 R (by omega) P (u) (by omega)
       have s2a := S1.out.st1 R (by omega) P (u + 1) (by omega) dk[u]!
       have s2b := S1.out.st2 R (by omega) P (u + 1) (u) (by omega) (by omega) dk[u]! dk[u + 1]!
       have n2a : (enc dk[u + 1]!).length = k := R.hk _
       have n2b : (enc dk[u]!).length = k := R.hk _
       generalize enc dk[u + 1]! = cI2 at S2 l2a s2b n2a
       generalize enc dk[u]! = cJ2 at S2 l2b s2a s2b n2b
       clear S1
       go_wp2_with fail
       go_big_region_o
       clear l2a l2b s2a s2b
       generalize (wr.drew.setCells blk (off + (u + 1) * k) cJ2).setCells blk (off + (u) * k) cI2 = w2 at S2 ⊢
       go_wp2
       go_roundg (u - hi)
       case measure => omega
       case rel =>
        have hl : ltOf cf d[m]! d[u]! = true := lt_le_of HS.out (HI.out.2 (by omega)) (sorted_at HS.out SO1.out (i := hi) (j := u) (by omega) (by omega) (by omega))
        exact ⟨u, _, by congr 1, by omega, by omega, by omega, by rw [swp_size]; exact hds, Lib.hid (HV.out.step (by omega) (by omega)), Lib.hid (by have := HM.out; subst this; exact HV.out.stab HQ.out HT.out (by omega) (by omega) (by omega) hl), S2⟩
     · have hz2 : ¬ (hi : Int) < (t : Int) := by omega
       obtain rfl : t = hi := by omega
       go_wp2
       refine bodyPost_ret (results_none rfl _ _ _) rfl ?_
       exact ⟨rfl, dk, HT.out, by have := HM.out; subst this; exact HV.out.sorted HS.out (by omega) (by omega) SO1.out HI.out.1 HI.out.2, S1.out⟩
theorem RotR.triv {α : Type} [Inhabited α] {a m b : Nat} {d : Array α} (h : (a = m ∧ m ≤ b) ∨ (b = m ∧ a ≤ m)) : RotR a m b d d := by
 refine ⟨rfl, fun t => ?_⟩
 repeat' split
 all_goals first | rfl | (exfalso; omega) | (congr 1; done) | (congr 1; omega)
set_option maxHeartbeats 8000000 in
set_option maxRecDepth 1000000 in
theorem symMerge_main {P : Program} {k : Nat} (L : FamP P k) (enc : RP → List Value) (cf : RP → RP → Int) (g : Nat) (cb : Array Value) {β : Type} (q : β → RP → Bool) (hq : ∀ k x y, ltOf cf x y = true → q k x = true → q k y = false) (hqx : ∀ x, ∃ k, q k x = true) (hS : SWO (ltOf cf)) (eg : ∀ args w, (callFunc g args).run P w = .ok (.enter g args) w) (blk off cap : Nat) (d0 : Array RP) (w0 : World) (R : RowK enc k w0 blk off d0) (hcmp : CmpLays P g cb enc k cf blk off d0.size w0) (hsz : d0.size < 4611686018427387904) (a m b : Nat) (d : Array RP) (w : World) (hs : d0.size = d.size) (S : SWK enc k w0 blk off d w) (h1 : a < m) (h2 : m < b) (h3 : b ≤ d.size) (so1 : SortedIn (ltOf cf) a m d) (so2 : SortedIn (ltOf cf) m b d) (hm0 : m ≠ a + 1) (hm : b ≠ m + 1)
 (ih : ∀ (a' m' b' : Nat) (d : Array RP) (w : World), b' - a' < b - a → d0.size = d.size → SWK enc k w0 blk off d w → a' < m' → m' < b' → b' ≤ d.size → SortedIn (ltOf cf) a' m' d → SortedIn (ltOf cf) m' b' d →
  Calls P 185 #[.slice (some ⟨blk, off, none⟩) d.size cap, .int .i64 a', .int .i64 m', .int .i64 b', .func (.func g) #[] cb] w fun e w' => e = .returned (.tuple #[]) ∧ ∃ d', Stab q a' b' d d' ∧ SortedIn (ltOf cf) a' b' d' ∧ SWK enc k w0 blk off d' w') :
 Calls P 185 #[.slice (some ⟨blk, off, none⟩) d.size cap, .int .i64 a, .int .i64 m, .int .i64 b, .func (.func g) #[] cb] w fun e w' => e = .returned (.tuple #[]) ∧ ∃ d', Stab q a b d d' ∧ SortedIn (ltOf cf) a b d' ∧ SWK enc k w0 blk off d' w' := by
 have mixed := L.mixed; have t0 := L.t0; have a0 := L.a0; have z0 := L.z0; have v0 := L.v0; have t3 := L.t3; have a3 := L.a3; have z3 := L.z3; have v3 := L.v3; have t4 := L.t4; have a4 := L.a4; have z4 := L.z4; have v4 := L.v4; have t33 := L.t33; have a33 := L.a33; have z33 := L.z33; have v33 := L.v33; have t191 := L.t191; have a191 := L.a191; have z191 := L.z191; have v191 := L.v191; have t203 := L.t203; have a203 := L.a203; have z203 := L.z203; have v203 := L.v203; have aE := L.aE; have zE := L.zE
 have u3 := run_underlying L.t3; have u203 := run_underlying L.t203
 have FG := L.f185
 have e185 : ∀ args w, (callFunc 185 args).run P w = .ok (.enter 185 args) w := enters_of L.f185 (by kernel_rfl) rfl
 have e199 : ∀ args w, (callFunc 199 args).run P w = .ok (.enter 199 args) w := enters_of L.f199 (by kernel_rfl) rfl
 have S0 : Aside (SWK enc k w0 blk off d w) := S
 have HC : Aside _ := hcmp
 have HQ := Lib.hid hq
 have HQX := Lib.hid hqx
 have HS := Lib.hid hS
 have SO1 := Lib.hid so1
 have SO2 := Lib.hid so2
 clear S hcmp hq hqx hS so1 so2
 have hdm : (((m : Int) - (a : Int)) == 1) = false := by have : (m : Int) - (a : Int) ≠ 1 := by omega
                                                         simp [this]
 have hdm2 : (((b : Int) - (m : Int)) == 1) = false := by have : (b : Int) - (m : Int) ≠ 1 := by omega
                                                          simp [this]
 have IH := Lib.hid ih
 clear hm0 hm ih
 obtain ⟨mid, hmid⟩ : ∃ x, (a + b) / 2 = x := ⟨_, rfl⟩
 have HMID := Lib.hid hmid
 have hmi1 : 2 * mid ≤ a + b := by omega
 have hmi2 : a + b ≤ 2 * mid + 1 := by omega
 have hmi3 : ((a : Int) + (b : Int)) / 2 = (mid : Int) := by omega
 clear hmid
 go_enter FG, Try.ntmps185
 go_upto_if 140 with fail
 go_cut [20, 21] (fun s20 s21 wc => ∃ lo hi : Nat, s20 = .int .i64 lo ∧ s21 = .int .i64 hi ∧ a ≤ lo ∧ lo ≤ hi ∧ hi ≤ m ∧ hi ≤ mid ∧ mid + m ≤ lo + b ∧ m + hi ≤ m + mid ∧ (lo = a ∨ lo + b = mid + m) ∧ (hi = m ∨ hi = mid) ∧ Aside (SWK enc k w0 blk off d wc))
 case first => as_aux_lemma =>
  by_cases hgt : mid < m
  · go_wp2_with fail
    go_meet
    case rel => exact ⟨mid + m - b, mid, by first | (congr 1; done) | (congr 1; omega), rfl, by omega, by omega, by omega, by omega, by omega, by omega, by omega, by omega, S0⟩
  · go_wp2_with fail
    go_meet
    case rel => exact ⟨a, m, rfl, rfl, by omega, by omega, by omega, by omega, by omega, by omega, by omega, by omega, S0⟩
 case rest => as_aux_lemma =>
  clear S0
  obtain ⟨lo0, hi0, rfl, rfl, c1, c2, c3, c4, c5, c6, c7, c8, S0⟩ := hcut
  go_wp2
  go_loopg [20, 21] (hi0 - lo0) (fun kx s10 s11 wr => ∃ lo hi : Nat, s10 = .int .i64 lo ∧ s11 = .int .i64 hi ∧ lo0 ≤ lo ∧ lo ≤ hi ∧ hi ≤ hi0 ∧ hi - lo ≤ kx ∧ Aside (SWK enc k w0 blk off d wr) ∧ Hid ((lo0 < lo → ltOf cf d[mid + m - lo]! d[lo - 1]! = false) ∧ (hi < hi0 → ltOf cf d[mid + m - hi - 1]! d[hi]! = true)))
  case atStart => exact ⟨lo0, hi0, rfl, rfl, by omega, by omega, by omega, by omega, S0, Lib.hid ⟨fun h => by omega, fun h => by omega⟩⟩
  case round => as_aux_lemma =>
   clear S0
   obtain ⟨lo, hi, rfl, rfl, hml, hlh, hhb, hkx, S1, HI⟩ := hrel
   by_cases hlt : lo < hi
   · have q1 : ((lo : Int) + (hi : Int)) / 2 ≤ (mid : Int) + (m : Int) - 1 := by omega
     have q2 : ((lo : Int) + (hi : Int)) / 2 < (mid : Int) + (m : Int) := by omega
     cases HB : ltOf cf d[mid + m - 1 - (lo + hi) / 2]! d[(lo + hi) / 2]! with
     | false => as_aux_lemma =>
       have ea1 : ((mid : Int) + (m : Int) - 1 - ((lo : Int) + (hi : Int)) / 2).toNat = mid + m - 1 - (lo + hi) / 2 := by omega
       have pa1 : (0 : Int) ≤ (mid : Int) + (m : Int) - 1 - ((lo : Int) + (hi : Int)) / 2 := by omega
       have ba1 : (mid : Int) + (m : Int) - 1 - ((lo : Int) + (hi : Int)) / 2 < (d.size : Int) := by omega
       have ra1 : IntKind.i64.wrap ((mid : Int) + (m : Int) - 1 - ((lo : Int) + (hi : Int)) / 2) = (mid : Int) + (m : Int) - 1 - ((lo : Int) + (hi : Int)) / 2 := by rw [IntKind.wrap_i64]; omega
       have ec1 : (((lo : Int) + (hi : Int)) / 2).toNat = (lo + hi) / 2 := by omega
       have pc1 : (0 : Int) ≤ ((lo : Int) + (hi : Int)) / 2 := by omega
       have bc1 : ((lo : Int) + (hi : Int)) / 2 < (d.size : Int) := by omega
       have rc1 : IntKind.i64.wrap (((lo : Int) + (hi : Int)) / 2) = ((lo : Int) + (hi : Int)) / 2 := by rw [IntKind.wrap_i64]; omega
       obtain ⟨x1, hx1⟩ : ∃ x, x = d[mid + m - 1 - (lo + hi) / 2]! := ⟨_, rfl⟩
       obtain ⟨y1, hy1⟩ : ∃ x, x = d[(lo + hi) / 2]! := ⟨_, rfl⟩
       have l1a := S1.out.ld R (by omega) P (mid + m - 1 - (lo + hi) / 2) (by omega)
       have l1b := S1.out.ld R (by omega) P ((lo + hi) / 2) (by omega)
       rw [← hx1] at l1a
       rw [← hy1] at l1b
       have hc1 := S1.out.cmp HC.out (by omega) x1 y1
       have hv1 : ¬ (cf x1 y1 < 0) := by rw [hx1, hy1]; exact of_decide_eq_false HB
       have hd1 : decide (cf x1 y1 < 0) = false := decide_eq_false hv1
       have HB1 := Lib.hid HB
       clear HB hx1 hy1
       go_wp2_with fail
       go_quiet_grown (first | (go_at_fn g; refine Calls.grown_of (hc1 _ _)))
       have S2 : Aside (SWK enc k w0 blk off d (grow (wr.drewN nq) osq)) := S1.out.grown nq osq
       clear l1a l1b hc1 S1
       generalize grow (wr.drewN nq) osq = w2 at S2 ⊢
       clear nq osq
       go_wp2
       go_roundg (hi - ((lo + hi) / 2 + 1))
       case measure => omega
       case rel => exact ⟨(lo + hi) / 2 + 1, hi, by go_num, rfl, by omega, by omega, by omega, by omega, S2, Lib.hid ⟨fun _ => by have h := HB1.out; rw [show mid + m - 1 - (lo + hi) / 2 = mid + m - ((lo + hi) / 2 + 1) by omega] at h; exact h, HI.out.2⟩⟩
     | true => as_aux_lemma =>
       have ea1 : ((mid : Int) + (m : Int) - 1 - ((lo : Int) + (hi : Int)) / 2).toNat = mid + m - 1 - (lo + hi) / 2 := by omega
       have pa1 : (0 : Int) ≤ (mid : Int) + (m : Int) - 1 - ((lo : Int) + (hi : Int)) / 2 := by omega
       have ba1 : (mid : Int) + (m : Int) - 1 - ((lo : Int) + (hi : Int)) / 2 < (d.size : Int) := by omega
       have ra1 : IntKind.i64.wrap ((mid : Int) + (m : Int) - 1 - ((lo : Int) + (hi : Int)) / 2) = (mid : Int) + (m : Int) - 1 - ((lo : Int) + (hi : Int)) / 2 := by rw [IntKind.wrap_i64]; omega
       have ec1 : (((lo : Int) + (hi : Int)) / 2).toNat = (lo + hi) / 2 := by omega
       have pc1 : (0 : Int) ≤ ((lo : Int) + (hi : Int)) / 2 := by omega
       have bc1 : ((lo : Int) + (hi : Int)) / 2 < (d.size : Int) := by omega
       have rc1 : IntKind.i64.wrap (((lo : Int) + (hi : Int)) / 2) = ((lo : Int) + (hi : Int)) / 2 := by rw [IntKind.wrap_i64]; omega
       obtain ⟨x1, hx1⟩ : ∃ x, x = d[mid + m - 1 - (lo + hi) / 2]! := ⟨_, rfl⟩
       obtain ⟨y1, hy1⟩ : ∃ x, x = d[(lo + hi) / 2]! := ⟨_, rfl⟩
       have l1a := S1.out.ld R (by omega) P (mid + m - 1 - (lo + hi) / 2) (by omega)
       have l1b := S1.out.ld R (by omega) P ((lo + hi) / 2) (by omega)
       rw [← hx1] at l1a
       rw [← hy1] at l1b
       have hc1 := S1.out.cmp HC.out (by omega) x1 y1
       have hv1 : cf x1 y1 < 0 := by rw [hx1, hy1]; exact of_decide_eq_true HB
       have hd1 : decide (cf x1 y1 < 0) = true := decide_eq_true hv1
       have HB1 := Lib.hid HB
       clear HB hx1 hy1
       go_wp2_with fail
       go_quiet_grown (first | (go_at_fn g; refine Calls.grown_of (hc1 _ _)))
       have S2 : Aside (SWK enc k w0 blk off d (grow (wr.drewN nq) osq)) := S1.out.grown nq osq
       clear l1a l1b hc1 S1
       generalize grow (wr.drewN nq) osq = w2 at S2 ⊢
       clear nq osq
       go_wp2
       go_roundg ((lo + hi) / 2 - lo)
       case measure => omega
       case rel => exact ⟨lo, (lo + hi) / 2, rfl, by go_num, by omega, by omega, by omega, by omega, S2, Lib.hid ⟨HI.out.1, fun _ => by have h := HB1.out; rw [show mid + m - 1 - (lo + hi) / 2 = mid + m - (lo + hi) / 2 - 1 by omega] at h; exact h⟩⟩
   · obtain rfl : hi = lo := by omega
     have HCUT := Lib.hid (show Cut (ltOf cf) a m b hi d by
      have e := HMID.out
      refine ⟨by omega, by omega, by omega, by omega, by omega, fun u1 u2 => ?_, fun u1 u2 => ?_⟩
      · rw [e] at u2 ⊢; exact HI.out.1 (by omega)
      · rw [e] at u2 ⊢; exact HI.out.2 (by omega))
     clear HI
     have eE : ((mid + m - hi : Nat) : Int) = (mid : Int) + (m : Int) - (hi : Int) := by omega
     obtain ⟨e, he⟩ : ∃ x, mid + m - hi = x := ⟨_, rfl⟩
     rw [he] at eE
     have EE := Lib.hid eE
     have he1 : (e : Int) ≤ (mid : Int) + (m : Int) - (hi : Int) := by omega
     have he2 : (mid : Int) + (m : Int) - (hi : Int) ≤ (e : Int) := by omega
     have HE := Lib.hid he
     clear eE he
     go_upto_region 39 with fail
     go_cut [185] (fun s wc => ∃ c : Bool, s = .bool c ∧ Hid (c = true ↔ (hi < m ∧ m < e)) ∧ Aside (SWK enc k w0 blk off d wc))
     case first => as_aux_lemma =>
      by_cases h5 : hi < m
      · by_cases h6 : m < e
        · have h7 : (m : Int) < (mid : Int) + (m : Int) - (hi : Int) := by omega
          go_wp2_with fail
          go_meet
          case rel => exact ⟨_, rfl, Lib.hid ⟨fun _ => ⟨h5, h6⟩, fun _ => by first | rfl | simp [*]⟩, S1⟩
        · have h7 : ¬ (m : Int) < (mid : Int) + (m : Int) - (hi : Int) := by omega
          go_wp2_with fail
          go_meet
          case rel => exact ⟨_, rfl, Lib.hid ⟨fun h => by first | (exact absurd h (by decide)) | (simp at h; omega), fun h => absurd h.2 h6⟩, S1⟩
      · go_wp2_with fail
        go_meet
        case rel => exact ⟨_, rfl, Lib.hid ⟨fun h => by first | (exact absurd h (by decide)) | (simp at h; omega), fun h => absurd h.1 h5⟩, S1⟩
     case rest => as_aux_lemma =>
      clear S1
      obtain ⟨c, rfl, HB5, S1⟩ := hcut
      go_upto_if 185 with fail
      go_cut [] (fun wc => ∃ d1 : Array RP, d1.size = d.size ∧ Hid (RotR hi m e d d1) ∧ Aside (SWK enc k w0 blk off d1 wc))
      case first => as_aux_lemma =>
       cases c with
       | true => as_aux_lemma =>
         have h5 := HB5.out.1 rfl
         have hc := rotate_any L enc blk off cap hi m e d0 d w0 wc (.func (.func g) #[] cb) R hs S1.out h5.1 h5.2 (by omega) (by omega)
         rw [EE.out] at hc
         have HCC := Lib.hid hc
         clear hc h5
         go_wp2_with (go_at_call 199; refine Calls.mono HCC.out ?_; rintro e1 w2 ⟨rfl, d1, hr1, hS1⟩; have HR1 := Lib.hid hr1; have HS1 : Aside (SWK enc k w0 blk off d1 w2) := hS1; clear hr1 hS1)
         go_meet
         case rel => exact ⟨d1, HR1.out.size, HR1, HS1⟩
       | false => as_aux_lemma =>
         have h5 : ¬ (hi < m ∧ m < e) := fun h => by have := HB5.out.2 h; cases this
         go_wp2_with fail
         go_meet
         case rel => exact ⟨d, rfl, Lib.hid (RotR.triv (by have := HE.out; omega)), S1⟩
      case rest => as_aux_lemma =>
       clear S1 HB5
       obtain ⟨d1, hds1, HR1, S1⟩ := hcut
       have HRR := Lib.hid (show Stab q a b d d1 ∧ SortedIn (ltOf cf) a hi d1 ∧ SortedIn (ltOf cf) hi mid d1 ∧ SortedIn (ltOf cf) mid e d1 ∧ SortedIn (ltOf cf) e b d1 ∧ ∀ i j, a ≤ i → i < mid → mid ≤ j → j < b → ltOf cf d1[j]! d1[i]! = false by
        have h := Cut.rot HS.out HQ.out HCUT.out (by omega) (by omega) h3 SO1.out SO2.out (d' := d1)
        rw [HMID.out, HE.out] at h
        exact h HR1.out)
       clear HR1
       go_upto_region 41 with fail
       go_cut [199] (fun s wc => ∃ c : Bool, s = .bool c ∧ Hid (c = true ↔ (a < hi ∧ hi < mid)) ∧ Aside (SWK enc k w0 blk off d1 wc))
       case first => as_aux_lemma =>
        by_cases h5 : a < hi
        · by_cases h6 : hi < mid
          · go_wp2_with fail
            go_meet
            case rel => exact ⟨_, rfl, Lib.hid ⟨fun _ => ⟨h5, h6⟩, fun _ => by first | rfl | simp [*]⟩, S1⟩
          · go_wp2_with fail
            go_meet
            case rel => exact ⟨_, rfl, Lib.hid ⟨fun h => by first | (exact absurd h (by decide)) | (simp at h; omega), fun h => absurd h.2 h6⟩, S1⟩
        · go_wp2_with fail
          go_meet
          case rel => exact ⟨_, rfl, Lib.hid ⟨fun h => by first | (exact absurd h (by decide)) | (simp at h; omega), fun h => absurd h.1 h5⟩, S1⟩
       case rest => as_aux_lemma =>
        clear S1
        obtain ⟨c, rfl, HB5, S1⟩ := hcut
        go_upto_if 199 with fail
        go_cut [] (fun wc => ∃ d2 : Array RP, d2.size = d.size ∧ Hid (Stab q a mid d1 d2 ∧ SortedIn (ltOf cf) a mid d2) ∧ Aside (SWK enc k w0 blk off d2 wc))
        case first => as_aux_lemma =>
         cases c with
         | true => as_aux_lemma =>
           have h5 := HB5.out.1 rfl
           have hc := IH.out a hi mid d1 wc (by omega) (by omega) S1.out h5.1 h5.2 (by omega) HRR.out.2.1 HRR.out.2.2.1
           rw [hds1] at hc
           have HCC := Lib.hid hc
           clear hc h5
           go_wp2_with (go_at_call 185; refine Calls.mono HCC.out ?_; rintro e1 w2 ⟨rfl, d2, hr1, hr2, hS1⟩; have HR1 := Lib.hid (And.intro hr1 hr2); have HS1 : Aside (SWK enc k w0 blk off d2 w2) := hS1; clear hr1 hr2 hS1)
           go_meet
           case rel => exact ⟨d2, HR1.out.1.size.trans hds1, HR1, HS1⟩
         | false => as_aux_lemma =>
           have h5 : ¬ (a < hi ∧ hi < mid) := fun h => by have := HB5.out.2 h; cases this
           go_wp2_with fail
           go_meet
           case rel =>
            refine ⟨d1, hds1, Lib.hid ⟨Stab.refl _ _ _, ?_⟩, S1⟩
            rcases (show hi = a ∨ hi = mid by omega) with h | h
            · have := HRR.out.2.2.1; rw [h] at this; exact this
            · have := HRR.out.2.1; rw [h] at this; exact this
        case rest => as_aux_lemma =>
         clear S1 HB5
         obtain ⟨d2, hds2, HR2, S1⟩ := hcut
         go_upto_region 43 with fail
         go_cut [213] (fun s wc => ∃ c : Bool, s = .bool c ∧ Hid (c = true ↔ (mid < e ∧ e < b)) ∧ Aside (SWK enc k w0 blk off d2 wc))
         case first => as_aux_lemma =>
          by_cases h5 : mid < e
          · have h7 : (mid : Int) < (mid : Int) + (m : Int) - (hi : Int) := by omega
            by_cases h6 : e < b
            · have h8 : (mid : Int) + (m : Int) - (hi : Int) < (b : Int) := by omega
              go_wp2_with fail
              go_meet
              case rel => exact ⟨_, rfl, Lib.hid ⟨fun _ => ⟨h5, h6⟩, fun _ => by first | rfl | simp [*]⟩, S1⟩
            · have h8 : ¬ (mid : Int) + (m : Int) - (hi : Int) < (b : Int) := by omega
              go_wp2_with fail
              go_meet
              case rel => exact ⟨_, rfl, Lib.hid ⟨fun h => by first | (exact absurd h (by decide)) | (simp at h; omega), fun h => absurd h.2 h6⟩, S1⟩
          · have h7 : ¬ (mid : Int) < (mid : Int) + (m : Int) - (hi : Int) := by omega
            go_wp2_with fail
            go_meet
            case rel => exact ⟨_, rfl, Lib.hid ⟨fun h => by first | (exact absurd h (by decide)) | (simp at h; omega), fun h => absurd h.1 h5⟩, S1⟩
         case rest => as_aux_lemma =>
          clear S1
          obtain ⟨c, rfl, HB5, S1⟩ := hcut
          have s1' : SortedIn (ltOf cf) mid e d2 := fun i j u1 u2 u3 => by rw [HR2.out.1.out i (.inr u1), HR2.out.1.out j (.inr (by omega))]; exact HRR.out.2.2.2.1 i j u1 u2 u3
          have s2' : SortedIn (ltOf cf) e b d2 := fun i j u1 u2 u3 => by rw [HR2.out.1.out i (.inr (by omega)), HR2.out.1.out j (.inr (by omega))]; exact HRR.out.2.2.2.2.1 i j u1 u2 u3
          have ST1 := Lib.hid s1'
          have ST2 := Lib.hid s2'
          clear s1' s2'
          cases c with
          | true => as_aux_lemma =>
            have h5 := HB5.out.1 rfl
            have hc := IH.out mid e b d2 wc (by omega) (by omega) S1.out h5.1 h5.2 (by omega) ST1.out ST2.out
            rw [hds2, EE.out] at hc
            have HCC := Lib.hid hc
            clear hc h5
            go_wp2_with (go_at_call 185; refine Calls.mono HCC.out ?_; rintro e1 w2 ⟨rfl, d3, hr1, hr2, hS1⟩; have HR3 := Lib.hid (And.intro hr1 hr2); have HS1 : Aside (SWK enc k w0 blk off d3 w2) := hS1; clear hr1 hr2 hS1)
            go_end0
            have h := halves HS.out HQX.out (show a ≤ mid by omega) (show mid ≤ b by omega) HRR.out.2.2.2.2.2 HR2.out.1 HR3.out.1 HR2.out.2 HR3.out.2
            exact ⟨rfl, d3, HRR.out.1.trans h.1, h.2, HS1.out⟩
          | false => as_aux_lemma =>
            have h5 : ¬ (mid < e ∧ e < b) := fun h => by have := HB5.out.2 h; cases this
            go_wp2
            go_end0
            have h := halves HS.out HQX.out (show a ≤ mid by omega) (show mid ≤ b by omega) HRR.out.2.2.2.2.2 HR2.out.1 (Stab.refl mid b d2) HR2.out.2 (by
             rcases (show e = mid ∨ e = b by have := HE.out; omega) with h | h
             · have := ST2.out; rw [h] at this; exact this
             · have := ST1.out; rw [h] at this; exact this)
            exact ⟨rfl, d2, HRR.out.1.trans h.1, h.2, S1.out⟩
def rhoS : Ren where
 f := fun n => if n = 20 then 184 else n
 t := fun n => if n = 22 then 33 else if n = 24 then 89 else if n = 25 then 191 else n
 g := fun n => n
theorem lays184 : SlLaysF0.n20 Try.prog rhoS where
 mixed := by kernel_rfl
 f20 := ⟨"slices.insertionSortCmpFunc[bindery/api.Pair]", by kernel_rfl, by kernel_rfl⟩
 t0 := by kernel_rfl
 a0 := fun _ => by kernel_rfl
 z0 := fun _ => by kernel_rfl
 v0 := fun _ => by kernel_rfl
 t3 := by kernel_rfl
 a3 := fun _ => by kernel_rfl
 z3 := fun _ => by kernel_rfl
 v3 := fun _ => by kernel_rfl
 t4 := by kernel_rfl
 a4 := fun _ => by kernel_rfl
 z4 := fun _ => by kernel_rfl
 v4 := fun _ => by kernel_rfl
 t22 := by kernel_rfl
 a22 := fun _ => by kernel_rfl
 z22 := fun _ => by kernel_rfl
 v22 := fun _ => by kernel_rfl
 t25 := by kernel_rfl
 a25 := fun _ => by kernel_rfl
 z25 := fun _ => by kernel_rfl
 v25 := fun _ => by kernel_rfl
theorem symMerge_any {P : Program} {k : Nat} (L : FamP P k) (enc : RP → List Value) (cf : RP → RP → Int) (g : Nat) (cb : Array Value) {β : Type} (q : β → RP → Bool) (hq : ∀ k x y, ltOf cf x y = true → q k x = true → q k y = false) (hqx : ∀ x, ∃ k, q k x = true) (hS : SWO (ltOf cf)) (eg : ∀ args w, (callFunc g args).run P w = .ok (.enter g args) w) (blk off cap : Nat) (d0 : Array RP) (w0 : World) (R : RowK enc k w0 blk off d0) (hcmp : CmpLays P g cb enc k cf blk off d0.size w0) (hsz : d0.size < 4611686018427387904) : ∀ (z a m b : Nat) (d : Array RP) (w : World), b - a ≤ z → d0.size = d.size → SWK enc k w0 blk off d w → a < m → m < b → b ≤ d.size → SortedIn (ltOf cf) a m d → SortedIn (ltOf cf) m b d →
 Calls P 185 #[.slice (some ⟨blk, off, none⟩) d.size cap, .int .i64 a, .int .i64 m, .int .i64 b, .func (.func g) #[] cb] w fun e w' => e = .returned (.tuple #[]) ∧ ∃ d', Stab q a b d d' ∧ SortedIn (ltOf cf) a b d' ∧ SWK enc k w0 blk off d' w' := by
 intro z
 induction z with
 | zero => intro a m b d w hz hs S h1 h2; omega
 | succ z ih =>
   intro a m b d w hz hs S h1 h2 h3 so1 so2
   by_cases c1 : m = a + 1
   · exact symMerge_one L enc cf g cb q hq hqx hS eg blk off cap d0 w0 R hcmp hsz a m b d w hs S h1 h2 h3 so1 so2 c1
   · by_cases c2 : b = m + 1
     · exact symMerge_last L enc cf g cb q hq hqx hS eg blk off cap d0 w0 R hcmp hsz a m b d w hs S h1 h2 h3 so1 so2 c1 c2
     · exact symMerge_main L enc cf g cb q hq hqx hS eg blk off cap d0 w0 R hcmp hsz a m b d w hs S h1 h2 h3 so1 so2 c1 c2 (fun a' m' b' d w h => ih a' m' b' d w (by omega))
set_option maxHeartbeats 8000000 in
set_option maxRecDepth 1000000 in
theorem stable_any {P : Program} {k : Nat} (L : FamP P k) (enc : RP → List Value) (cf : RP → RP → Int) (g : Nat) (cb : Array Value) {β : Type} (q : β → RP → Bool) (hq : ∀ k x y, ltOf cf x y = true → q k x = true → q k y = false) (hqx : ∀ x, ∃ k, q k x = true) (hS : SWO (ltOf cf)) (eg : ∀ args w, (callFunc g args).run P w = .ok (.enter g args) w) (blk off cap : Nat) (d0 : Array RP) (w0 : World) (R : RowK enc k w0 blk off d0) (hcmp : CmpLays P g cb enc k cf blk off d0.size w0) (hsz : d0.size < 4611686018427387904)
 (ins : ∀ (a b : Nat) (d : Array RP) (w : World), d0.size = d.size → SWK enc k w0 blk off d w → a ≤ b → b ≤ d.size → Calls P 184 #[.slice (some ⟨blk, off, none⟩) d.size cap, .int .i64 a, .int .i64 b, .func (.func g) #[] cb] w fun e w' => e = .returned (.tuple #[]) ∧ ∃ d', Stab q a b d d' ∧ SortedIn (ltOf cf) a b d' ∧ SWK enc k w0 blk off d' w')
 (d : Array RP) (w : World) (hs : d0.size = d.size) (S : SWK enc k w0 blk off d w) :
 Calls P 177 #[.slice (some ⟨blk, off, none⟩) d.size cap, .int .i64 d.size, .func (.func g) #[] cb] w fun e w' => e = .returned (.tuple #[]) ∧ ∃ d', Stab q 0 d.size d d' ∧ SortedIn (ltOf cf) 0 d.size d' ∧ SWK enc k w0 blk off d' w' := by
 have mixed := L.mixed; have t0 := L.t0; have a0 := L.a0; have z0 := L.z0; have v0 := L.v0; have t3 := L.t3; have a3 := L.a3; have z3 := L.z3; have v3 := L.v3; have t4 := L.t4; have a4 := L.a4; have z4 := L.z4; have v4 := L.v4; have t33 := L.t33; have a33 := L.a33; have z33 := L.z33; have v33 := L.v33; have t191 := L.t191; have a191 := L.a191; have z191 := L.z191; have v191 := L.v191; have t203 := L.t203; have a203 := L.a203; have z203 := L.z203; have v203 := L.v203; have aE := L.aE; have zE := L.zE
 have u3 := run_underlying L.t3; have u203 := run_underlying L.t203
 have FG := L.f177
 have e184 : ∀ args w, (callFunc 184 args).run P w = .ok (.enter 184 args) w := enters_of L.f184 (by kernel_rfl) rfl
 have e185 : ∀ args w, (callFunc 185 args).run P w = .ok (.enter 185 args) w := enters_of L.f185 (by kernel_rfl) rfl
 have S0 : Aside (SWK enc k w0 blk off d w) := S
 have INS := Lib.hid ins
 have MRG := Lib.hid (fun (a m b : Nat) (d : Array RP) (w : World) => symMerge_any L enc cf g cb q hq hqx hS eg blk off cap d0 w0 R hcmp hsz (b - a) a m b d w (Nat.le_refl _))
 clear S hcmp hq hqx hS ins
 generalize hn : d.size = n at *
 have HN := Lib.hid hn
 have hn1 : n ≤ d.size := by omega
 have hn2 : d.size ≤ n := by omega
 clear hn
 go_enter FG, Try.ntmps177
 go_wp2
 go_loopg [7, 8] (n) (fun kx s7 s8 wr => ∃ (a c : Nat) (dk : Array RP), s7 = .int .i64 a ∧ s8 = .int .i64 ((a : Int) + 20) ∧ a ≤ n ∧ n - a ≤ kx ∧ d0.size = dk.size ∧ Hid (a = c * 20) ∧ Hid (BlkTo (ltOf cf) a 20 dk) ∧ Hid (Stab q 0 n d dk) ∧ Aside (SWK enc k w0 blk off dk wr))
 case atStart => exact ⟨0, 0, d, rfl, rfl, by omega, by omega, by omega, Lib.hid rfl, Lib.hid (fun i j h1 h2 => by omega), Lib.hid (Stab.refl _ _ _), S0⟩
 case round => as_aux_lemma =>
  clear S0
  obtain ⟨a, c, dk, rfl, rfl, han, hkx, hds, HA, HB, HT, S1⟩ := hrel
  by_cases hlt : a + 20 ≤ n
  · have hz : (a : Int) + 20 ≤ (n : Int) := by omega
    have hc := INS.out a (a + 20) dk wr hds S1.out (by omega) (by omega)
    rw [show dk.size = n by omega, show ((a + 20 : Nat) : Int) = (a : Int) + 20 by omega] at hc
    have HCC := Lib.hid hc
    clear hc
    go_wp2_with (go_at_call 184; refine Calls.mono HCC.out ?_; rintro e1 w2 ⟨rfl, d1, hr1, hr2, hS1⟩; have HR1 := Lib.hid (And.intro hr1 hr2); have HS1 : Aside (SWK enc k w0 blk off d1 w2) := hS1; clear hr1 hr2 hS1)
    go_roundg (n - (a + 20))
    case measure => omega
    case rel =>
     have e := HA.out
     exact ⟨a + 20, c + 1, d1, by first | rfl | go_num, by first | rfl | go_num, by omega, by omega, by rw [HR1.out.1.size]; exact hds, Lib.hid (by omega),
      Lib.hid (by have h1 := HR1.out.1; have h2 := HR1.out.2; have h3 := HB.out; rw [e] at h1 h2 h3 ⊢; exact BlkTo.next (by omega) h3 h1 h2 (by omega)), Lib.hid (HT.out.trans (HR1.out.1.widen (Nat.zero_le _) hlt (by omega))), HS1⟩
  · have hz : ¬ (a : Int) + 20 ≤ (n : Int) := by omega
    have hc := INS.out a n dk wr hds S1.out han (by omega)
    rw [show dk.size = n by omega] at hc
    have HCC := Lib.hid hc
    clear hc
    go_wp2_with (go_at_call 184; refine Calls.mono HCC.out ?_; rintro e1 w2 ⟨rfl, d1, hr1, hr2, hS1⟩; have HR1 := Lib.hid (And.intro hr1 hr2); have HS1 : Aside (SWK enc k w0 blk off d1 w2) := hS1; clear hr1 hr2 hS1)
    have HB2 := Lib.hid (show BlkTo (ltOf cf) n 20 d1 by
     have e := HA.out
     have h1 := HR1.out.1; have h2 := HR1.out.2; have h3 := HB.out; rw [e] at h1 h2 h3; exact BlkTo.next (by omega) h3 h1 h2 (by omega))
    have HT2 := Lib.hid (HT.out.trans (HR1.out.1.widen (Nat.zero_le _) (Nat.le_refl _) han))
    have hds1 : d0.size = d1.size := by rw [HR1.out.1.size]; exact hds
    clear HB HT S1 HR1 HA HCC
    go_loopg [6] (n) (fun kx s6 wr => ∃ (z : Nat) (dk : Array RP), s6 = .int .i64 z ∧ 20 ≤ z ∧ z ≤ 2 * n + 20 ∧ n - z ≤ kx ∧ d0.size = dk.size ∧ Hid (BlkTo (ltOf cf) n z dk) ∧ Hid (Stab q 0 n d dk) ∧ Aside (SWK enc k w0 blk off dk wr))
    case atStart => exact ⟨20, d1, rfl, by omega, by omega, by omega, hds1, HB2, HT2, HS1⟩
    case round => as_aux_lemma =>
     clear HB2 HT2 HS1 hds1
     obtain ⟨z, dk, rfl, hz1, hz2, hkx2, hds, HB, HT, S1⟩ := hrel
     by_cases hlt2 : z < n
     · go_wp2
       go_loopg [7, 8] (n) (fun kx s7 s8 wr => ∃ (a c : Nat) (dk : Array RP), s7 = .int .i64 a ∧ s8 = .int .i64 ((a : Int) + 2 * (z : Int)) ∧ a ≤ n ∧ n - a ≤ kx ∧ d0.size = dk.size ∧ Hid (a = c * (2 * z)) ∧ Hid (BlkTo (ltOf cf) a (2 * z) dk ∧ BlkFrom (ltOf cf) a n z dk) ∧ Hid (Stab q 0 n d dk) ∧ Aside (SWK enc k w0 blk off dk wr))
       case atStart => exact ⟨0, 0, dk, rfl, by go_num, by omega, by omega, hds, Lib.hid (by omega), Lib.hid ⟨fun i j h1 h2 => by omega, HB.out.start⟩, HT, S1⟩
       case round => as_aux_lemma =>
        clear HB HT S1 hds
        obtain ⟨a, c, dk, rfl, rfl, han, hkx, hds, HA, HB, HT, S1⟩ := hrel
        by_cases hlt3 : a + 2 * z ≤ n
        · have hz3 : (a : Int) + 2 * (z : Int) ≤ (n : Int) := by omega
          have hc := MRG.out a (a + z) (a + 2 * z) dk wr hds S1.out (by omega) (by omega) (by omega) (by have h := HB.out.2; rw [HA.out] at h ⊢; exact h.left (by omega) (by rw [← HA.out]; omega) (by omega)) (by have h := HB.out.2; rw [HA.out] at h ⊢; exact h.right (by omega) (by rw [← HA.out]; omega) (by omega))
          rw [show dk.size = n by omega, show ((a + 2 * z : Nat) : Int) = (a : Int) + 2 * (z : Int) by omega, show ((a + z : Nat) : Int) = (a : Int) + (z : Int) by omega] at hc
          have HCC := Lib.hid hc
          clear hc
          go_wp2_with (go_at_call 185; refine Calls.mono HCC.out ?_; rintro e1 w2 ⟨rfl, d1, hr1, hr2, hS1⟩; have HR1 := Lib.hid (And.intro hr1 hr2); have HS1 : Aside (SWK enc k w0 blk off d1 w2) := hS1; clear hr1 hr2 hS1)
          go_roundg (n - (a + 2 * z))
          case measure => omega
          case rel =>
           have e := HA.out
           exact ⟨a + 2 * z, c + 1, d1, by first | rfl | go_num, by first | rfl | go_num, by omega, by omega, by rw [HR1.out.1.size]; exact hds, Lib.hid (by rw [Nat.add_mul, ← e]; omega),
            Lib.hid ⟨by have h1 := HR1.out.1; have h2 := HR1.out.2; have h3 := HB.out.1; rw [e] at h1 h2 h3 ⊢; exact BlkTo.next (by omega) h3 h1 h2 (by omega), HB.out.2.next HR1.out.1 (by omega)⟩, Lib.hid (HT.out.trans (HR1.out.1.widen (Nat.zero_le _) hlt3 (by omega))), HS1⟩
        · have hz3 : ¬ (a : Int) + 2 * (z : Int) ≤ (n : Int) := by omega
          by_cases hlt4 : a + z < n
          · have hz4 : (a : Int) + (z : Int) < (n : Int) := by omega
            have hc := MRG.out a (a + z) n dk wr hds S1.out (by omega) (by omega) (by omega) (by have h := HB.out.2; rw [HA.out] at h ⊢; exact h.left (by omega) (by rw [← HA.out]; omega) (by omega)) (by have h := HB.out.2; rw [HA.out] at h ⊢; exact h.right (by omega) (Nat.le_refl _) (by rw [← HA.out]; omega))
            rw [show dk.size = n by omega, show ((a + z : Nat) : Int) = (a : Int) + (z : Int) by omega] at hc
            have HCC := Lib.hid hc
            clear hc
            go_wp2_with (go_at_call 185; refine Calls.mono HCC.out ?_; rintro e1 w2 ⟨rfl, d1, hr1, hr2, hS1⟩; have HR1 := Lib.hid (And.intro hr1 hr2); have HS1 : Aside (SWK enc k w0 blk off d1 w2) := hS1; clear hr1 hr2 hS1)
            go_roundg (n - z * 2)
            case measure => omega
            case rel =>
             have e := HA.out
             exact ⟨2 * z, d1, by first | rfl | go_num | (congr 1; omega), by omega, by omega, by omega, by rw [HR1.out.1.size]; exact hds,
              Lib.hid (by have h1 := HR1.out.1; have h2 := HR1.out.2; have h3 := HB.out.1; rw [e] at h1 h2 h3; exact BlkTo.next (by omega) h3 h1 h2 (by rw [← e]; omega)), Lib.hid (HT.out.trans (HR1.out.1.widen (Nat.zero_le _) (Nat.le_refl _) (by omega))), HS1⟩
          · have hz4 : ¬ (a : Int) + (z : Int) < (n : Int) := by omega
            go_wp2
            go_roundg (n - z * 2)
            case measure => omega
            case rel =>
             have e := HA.out
             exact ⟨2 * z, dk, by first | rfl | go_num | (congr 1; omega), by omega, by omega, by omega, hds,
              Lib.hid (by have h1 := HB.out.1; have h2 := HB.out.2; rw [e] at h1 h2; exact BlkTo.last (by omega) h1 h2 (by rw [← e]; omega)), HT, S1⟩
     · go_wp2
       go_end0
       exact ⟨rfl, dk, HT.out, HB.out.all (by omega), S1.out⟩
end Go.Proofs.Ytogpnkkoablmiaa.V
end
