/- Parts of the proof: what the theorem reaches, put together by a program of this session. -/
import Derived.Test.YtogpnkkoablmiaaProg
import Derived.Test.YtogpnkkoablmiaaBY4
import Derived.Test.YtogpnkkoablmiaaBY5
import Derived.Test.YtogpnkkoablmiaaBY6
namespace Go.Proofs.Ytogpnkkoablmiaa.Q
open Go.RowKit Go.Proofs.YtogpnkkoablmiaaW.PrintWords Go.Proofs.YtogpnkkoablmiaaW.PrintLast Go.Proofs.YtogpnkkoablmiaaW.PrintMore
attribute [local go_sem] max2_int min2_int max_two min_two max_three min_three max_four min_four   -- for this text's walks alone
set_option linter.unusedVariables false
set_option linter.unusedSimpArgs false
def errW : Option Int → Value
 | none => .nilIface
 | some c => .iface 0 (.int .i64 c)
theorem errW_none : errW none = .nilIface := rfl
theorem errW_some (c : Int) : errW (some c) = .iface 0 (.int .i64 c) := rfl
theorem info35 : (Try.prog.info? 35).map (fun i => (i.zero, i.size, i.bytes)) = some (some (.agg #[(.int .i64 0), (.int .i64 0), (.int .i64 0), (.string ⟨#[]⟩), (.slice none 0 0), (.slice none 0 0)]), 6, 88) := by kernel_rfl
theorem info67 : (Try.prog.info? 67).map (fun i => (i.zero, i.size, i.bytes)) = some (some (.agg #[(.int .i64 0), (.int .i64 0), (.bool false), (.int .i64 0), (.int .i64 0), (.int .i64 0), (.string ⟨#[]⟩), (.slice none 0 0), (.slice none 0 0)]), 9, 112) := by kernel_rfl
theorem info69 : (Try.prog.info? 69).map (fun i => (i.zero, i.size, i.bytes)) = some (some (.agg #[(.int .i64 0), (.bool false), (.int .i64 0), (.int .i64 0), (.int .i64 0), (.string ⟨#[]⟩), (.slice none 0 0), (.slice none 0 0)]), 8, 104) := by kernel_rfl
theorem info89 : (Try.prog.info? 89).map (fun i => (i.zero, i.size, i.bytes)) = some (some (.agg #[(.string ⟨#[]⟩), (.int .i64 0), (.int .i64 0), (.int .i64 0), (.string ⟨#[]⟩), (.slice none 0 0), (.slice none 0 0)]), 7, 104) := by kernel_rfl
theorem nest_C_back {β : Type} {D : Nat → Kd β} {d : Kd β} {sz : Nat} (hs : ∀ n, (D n).sz = sz) (hs' : d.sz = sz) (hle : ∀ n m w x cs, n ≤ m → (D n).K w x cs → (D m).K w x cs) (hb : ∀ w x cs, d.K w x cs → ∃ n, (D n).K w x cs)
 {w : World} {A : Option Addr} {m : Nat} {xs : List β} (h : d.C w A m xs) : ∃ n, (D n).C w A m xs := by
 rcases Nat.eq_zero_or_pos m with hz | hpos
 · subst hz
   exact ⟨0, h.1, h.2.1, fun hp => absurd hp (Nat.lt_irrefl 0)⟩
 · obtain ⟨ad, e, hc⟩ := h.2.2 hpos
   rw [hs'] at hc
   obtain ⟨N, hN⟩ := Kd.bounded (P := fun n j => ∀ p, xs[j]? = some p → ∃ c, c.length = sz ∧ (D n).K w p c ∧ ∀ i u, c[i]? = some u → w.cell? (ad.add (j * sz + i)) = some u)
    (fun n n' j hnm hp p hj => by
     obtain ⟨c, h1, h2, h3⟩ := hp p hj
     exact ⟨c, h1, hle _ _ _ _ _ hnm h2, h3⟩) xs.length
    (fun j hj => by
     obtain ⟨c, h1, h2, h3⟩ := hc j _ (List.getElem?_eq_getElem hj)
     obtain ⟨n, h2⟩ := hb _ _ _ h2
     refine ⟨n, fun p hp => ?_⟩
     rw [List.getElem?_eq_getElem hj] at hp
     injection hp with hp
     rw [← hp]
     exact ⟨c, h1, h2, h3⟩)
   refine ⟨N, h.1, h.2.1, fun _ => ⟨ad, e, fun j p hj => ?_⟩⟩
   rw [hs N]
   exact hN j (List.getElem?_eq_some_iff.1 hj).1 p hj
theorem nest_R_back {β : Type} {D : Nat → Kd β} {d : Kd β} {sz : Nat} (hs : ∀ n, (D n).sz = sz) (hs' : d.sz = sz) (hle : ∀ n m w base ok x cs, n ≤ m → (D n).M w base ok x cs → (D m).M w base ok x cs) (hb : ∀ w base ok x cs, d.M w base ok x cs → ∃ n, (D n).M w base ok x cs)
 {e : Nat} {w : World} {base : Nat} {ok : Nat → Prop} {v : Value} {xs : List β} (h : d.R e w base ok v xs) : ∃ n, (D n).R e w base ok v xs := by
 obtain ⟨h0, inner, ho, hr⟩ := h
 have hr' : Reps (fun p c => ∃ n, (D n).M w base (fun k => ok k ∧ some k ≠ v.ownBlock) p c) d.sz xs inner := hr.imp_ (fun _ _ hp => hb _ _ _ _ _ hp)
 obtain ⟨N, hN⟩ := Kd.reps_bounded (R := fun n p c => (D n).M w base (fun k => ok k ∧ some k ≠ v.ownBlock) p c) (fun n m p c hnm hp => hle _ _ _ _ _ _ _ hnm hp) hr'
 refine ⟨N, h0, inner, ?_, ?_⟩
 · rw [hs N, ← hs']; exact ho
 · rw [hs N, ← hs']; exact hN
structure P89 (α : Type) where
 f0 : ByteArray
 f1 : α
structure S35 where
 f0 : Int
 f1 : Int
 f2 : Int
 f3 : ByteArray
 f4 : (List S35)
 f5 : (List (P89 S35))
abbrev S89 := P89 S35
def z35 : S35 := ⟨(0 : Int), (0 : Int), (0 : Int), (⟨#[]⟩ : ByteArray), ([] : List S35), ([] : List S89)⟩
def z89 : S89 := ⟨(⟨#[]⟩ : ByteArray), z35⟩
def G89 (d : Kd S35) : Kd S89 := Kd.iso (Kd.pair Kd.string d) (fun x : S89 => (x.f0, x.f1))
theorem monoG89 : Kd.Mono G89 := Kd.mono_iso _ (Kd.mono_pair (Kd.mono_const _) Kd.mono_id)
def F35 (d : Kd S35) : Kd S35 := Kd.iso (Kd.pair (Kd.int .i64) (Kd.pair (Kd.int .i64) (Kd.pair (Kd.int .i64) (Kd.pair Kd.string (Kd.pair (Kd.slice 35 d) (Kd.slice 89 (G89 d))))))) (fun x : S35 => (x.f0, x.f1, x.f2, x.f3, x.f4, x.f5))
theorem mono35 : Kd.Mono F35 := Kd.mono_iso _ (Kd.mono_pair (Kd.mono_const _) (Kd.mono_pair (Kd.mono_const _) (Kd.mono_pair (Kd.mono_const _) (Kd.mono_pair (Kd.mono_const _) (Kd.mono_pair (Kd.mono_slice 35 Kd.mono_id) (Kd.mono_slice 89 monoG89))))))
theorem sub35 : Kd.Sub F35 [35, 89] := Kd.sub_iso _ (Kd.sub_pair (Kd.sub_const _ (by decide)) (Kd.sub_pair (Kd.sub_const _ (by decide)) (Kd.sub_pair (Kd.sub_const _ (by decide)) (Kd.sub_pair (Kd.sub_const _ (by decide)) (Kd.sub_pair (Kd.sub_slice 35 (by decide) Kd.sub_id) (Kd.sub_slice 89 (by decide) (Kd.sub_iso _ (Kd.sub_pair (Kd.sub_const _ (by decide)) Kd.sub_id))))))))
theorem sz35 : ∀ n, (Kd.upto F35 6 [35, 89] n).sz = 6 := Kd.upto_sz (fun _ => rfl)
def k35 : Kd S35 := Kd.fix F35 6 [35, 89] sz35 (Kd.upto_E sub35)
def k89 : Kd S89 := Kd.iso (Kd.pair Kd.string k35) (fun x : S89 => (x.f0, x.f1))
theorem nestC89 {n : Nat} {w : World} {A : Option Addr} {m : Nat} {xs : List S89} (h : (G89 (Kd.upto F35 6 [35, 89] n)).C w A m xs) : k89.C w A m xs := Kd.C_imp (d' := k89) (monoG89.sz (Kd.upto F35 6 [35, 89] n) k35 (sz35 n)) (monoG89.K (Kd.upto F35 6 [35, 89] n) k35 (sz35 n) (fun w x cs h => ⟨n, h⟩)) h
theorem nestR89 {n : Nat} {e : Nat} {w : World} {base : Nat} {ok : Nat → Prop} {v : Value} {xs : List S89} (h : (G89 (Kd.upto F35 6 [35, 89] n)).R e w base ok v xs) : k89.R e w base ok v xs := Kd.R_imp (d' := k89) (monoG89.sz (Kd.upto F35 6 [35, 89] n) k35 (sz35 n)) (monoG89.M (Kd.upto F35 6 [35, 89] n) k35 (sz35 n) (fun w base ok x cs h => ⟨n, h⟩)) h
theorem nestCb89 {w : World} {A : Option Addr} {m : Nat} {xs : List S89} (h : k89.C w A m xs) : ∃ n, (G89 (Kd.upto F35 6 [35, 89] n)).C w A m xs :=
 nest_C_back (D := fun n => G89 (Kd.upto F35 6 [35, 89] n)) (d := k89) (sz := 7) (fun n => by show 1 + (Kd.upto F35 6 [35, 89] n).sz = 7; rw [sz35 n]) rfl (fun n m w x cs hnm h => by obtain ⟨c0, c1, rfl, h0, h1⟩ := h; exact ⟨c0, c1, rfl, h0, Kd.upto_K_le mono35 sz35 hnm h1⟩) (fun w x cs h => by obtain ⟨c0, c1, rfl, h0, ⟨n, h1⟩⟩ := h; exact ⟨n, c0, c1, rfl, h0, h1⟩) h
theorem nestRb89 {e : Nat} {w : World} {base : Nat} {ok : Nat → Prop} {v : Value} {xs : List S89} (h : k89.R e w base ok v xs) : ∃ n, (G89 (Kd.upto F35 6 [35, 89] n)).R e w base ok v xs :=
 nest_R_back (D := fun n => G89 (Kd.upto F35 6 [35, 89] n)) (d := k89) (sz := 7) (fun n => by show 1 + (Kd.upto F35 6 [35, 89] n).sz = 7; rw [sz35 n]) rfl (fun n m w base ok x cs hnm h => by obtain ⟨c0, c1, rfl, h0, h1⟩ := h; exact ⟨c0, c1, rfl, h0, Kd.upto_M_le mono35 sz35 hnm h1⟩) (fun w base ok x cs h => by obtain ⟨c0, c1, rfl, h0, ⟨n, h1⟩⟩ := h; exact ⟨n, c0, c1, rfl, h0, h1⟩) h
theorem nestCl89 {n m : Nat} (hnm : n ≤ m) {w : World} {A : Option Addr} {l : Nat} {xs : List S89} (h : (G89 (Kd.upto F35 6 [35, 89] n)).C w A l xs) : (G89 (Kd.upto F35 6 [35, 89] m)).C w A l xs := Kd.C_imp (monoG89.sz (Kd.upto F35 6 [35, 89] n) (Kd.upto F35 6 [35, 89] m) (by rw [sz35 n, sz35 m])) (monoG89.K (Kd.upto F35 6 [35, 89] n) (Kd.upto F35 6 [35, 89] m) (by rw [sz35 n, sz35 m]) (fun w x cs h => Kd.upto_K_le mono35 sz35 hnm h)) h
theorem nestRl89 {n m : Nat} (hnm : n ≤ m) {e : Nat} {w : World} {base : Nat} {ok : Nat → Prop} {v : Value} {xs : List S89} (h : (G89 (Kd.upto F35 6 [35, 89] n)).R e w base ok v xs) : (G89 (Kd.upto F35 6 [35, 89] m)).R e w base ok v xs := Kd.R_imp (monoG89.sz (Kd.upto F35 6 [35, 89] n) (Kd.upto F35 6 [35, 89] m) (by rw [sz35 n, sz35 m])) (monoG89.M (Kd.upto F35 6 [35, 89] n) (Kd.upto F35 6 [35, 89] m) (by rw [sz35 n, sz35 m]) (fun w base ok x cs h => Kd.upto_M_le mono35 sz35 hnm h)) h
theorem k35_open {w : World} {x : S35} {cs : List Value} (h : k35.K w x cs) : ∃ A4 c4 A5 c5, cs = [.int .i64 x.f0, .int .i64 x.f1, .int .i64 x.f2, .string x.f3, .slice A4 x.f4.length c4, .slice A5 x.f5.length c5] ∧ x.f4.length ≤ c4 ∧ k35.C w A4 x.f4.length x.f4 ∧ x.f5.length ≤ c5 ∧ k89.C w A5 x.f5.length x.f5 := by
 obtain ⟨n, h⟩ := h
 cases n with
 | zero => exact h.elim
 | succ n =>
   obtain ⟨_, _, rfl, rfl, ⟨_, _, rfl, rfl, ⟨_, _, rfl, rfl, ⟨_, _, rfl, rfl, ⟨_, _, rfl, ⟨A4, c4, rfl, l4, g4⟩, ⟨A5, c5, rfl, l5, g5⟩⟩⟩⟩⟩⟩ := h
   exact ⟨A4, c4, A5, c5, rfl, l4, Kd.fix_C g4, l5, nestC89 g5⟩
theorem k35_openM {w : World} {base : Nat} {ok : Nat → Prop} {x : S35} {cs : List Value} (h : k35.M w base ok x cs) : ∃ v4 v5, cs = [.int .i64 x.f0, .int .i64 x.f1, .int .i64 x.f2, .string x.f3, v4, v5] ∧ k35.R 35 w base ok v4 x.f4 ∧ k89.R 89 w base ok v5 x.f5 := by
 obtain ⟨n, h⟩ := h
 cases n with
 | zero => exact h.elim
 | succ n =>
   obtain ⟨_, _, rfl, rfl, ⟨_, _, rfl, rfl, ⟨_, _, rfl, rfl, ⟨_, _, rfl, rfl, ⟨_, _, rfl, ⟨v4, rfl, g4⟩, ⟨v5, rfl, g5⟩⟩⟩⟩⟩⟩ := h
   exact ⟨v4, v5, rfl, Kd.fix_R g4, nestR89 g5⟩
theorem k35_mk (w : World) (x : S35) {A4 : Option Addr} {c4 : Nat} (l4 : x.f4.length ≤ c4) (g4 : k35.C w A4 x.f4.length x.f4) {A5 : Option Addr} {c5 : Nat} (l5 : x.f5.length ≤ c5) (g5 : k89.C w A5 x.f5.length x.f5) : k35.K w x [.int .i64 x.f0, .int .i64 x.f1, .int .i64 x.f2, .string x.f3, .slice A4 x.f4.length c4, .slice A5 x.f5.length c5] := by
 obtain ⟨n4, q4⟩ := Kd.fix_C_back mono35 g4
 obtain ⟨n5, q5⟩ := nestCb89 g5
 have r4 := Kd.upto_C_le mono35 sz35 (show n4 ≤ max n4 n5 by omega) q4
 have r5 := nestCl89 (show n5 ≤ max n4 n5 by omega) q5
 exact ⟨max n4 n5 + 1, ⟨[.int .i64 x.f0], [.int .i64 x.f1, .int .i64 x.f2, .string x.f3, .slice A4 x.f4.length c4, .slice A5 x.f5.length c5], rfl, rfl, ⟨[.int .i64 x.f1], [.int .i64 x.f2, .string x.f3, .slice A4 x.f4.length c4, .slice A5 x.f5.length c5], rfl, rfl, ⟨[.int .i64 x.f2], [.string x.f3, .slice A4 x.f4.length c4, .slice A5 x.f5.length c5], rfl, rfl, ⟨[.string x.f3], [.slice A4 x.f4.length c4, .slice A5 x.f5.length c5], rfl, rfl, ⟨[.slice A4 x.f4.length c4], [.slice A5 x.f5.length c5], rfl, ⟨A4, c4, rfl, l4, r4⟩, ⟨A5, c5, rfl, l5, r5⟩⟩⟩⟩⟩⟩⟩
theorem k35_mkM (w : World) (base : Nat) (ok : Nat → Prop) (x : S35) {v4 : Value} (g4 : k35.R 35 w base ok v4 x.f4) {v5 : Value} (g5 : k89.R 89 w base ok v5 x.f5) : k35.M w base ok x [.int .i64 x.f0, .int .i64 x.f1, .int .i64 x.f2, .string x.f3, v4, v5] := by
 obtain ⟨n4, q4⟩ := Kd.fix_R_back mono35 g4
 obtain ⟨n5, q5⟩ := nestRb89 g5
 have r4 := Kd.upto_R_le mono35 sz35 (show n4 ≤ max n4 n5 by omega) q4
 have r5 := nestRl89 (show n5 ≤ max n4 n5 by omega) q5
 exact ⟨max n4 n5 + 1, ⟨[.int .i64 x.f0], [.int .i64 x.f1, .int .i64 x.f2, .string x.f3, v4, v5], rfl, rfl, ⟨[.int .i64 x.f1], [.int .i64 x.f2, .string x.f3, v4, v5], rfl, rfl, ⟨[.int .i64 x.f2], [.string x.f3, v4, v5], rfl, rfl, ⟨[.string x.f3], [v4, v5], rfl, rfl, ⟨[v4], [v5], rfl, ⟨v4, rfl, r4⟩, ⟨v5, rfl, r5⟩⟩⟩⟩⟩⟩⟩
def rd_T35 (xs : List S35) (i : Int) : S35 := xs.getD i.toNat z35
theorem at_T35 {w : World} {A : Option Addr} {n : Nat} {xs : List S35} (h : Kd.C k35 w A n xs) (i : Int) (h0 : 0 ≤ i) (h1 : i < n) : ∃ ad A4 c4 A5 c5, A = some ad ∧ w.cell? (ad.add (i.toNat * 6)) = some (.int .i64 (rd_T35 xs i).f0) ∧ w.cell? ⟨(ad.add (i.toNat * 6)).block, (ad.add (i.toNat * 6)).off + 1, none⟩ = some (.int .i64 (rd_T35 xs i).f1) ∧ w.cell? ⟨(ad.add (i.toNat * 6)).block, (ad.add (i.toNat * 6)).off + 2, none⟩ = some (.int .i64 (rd_T35 xs i).f2) ∧ w.cell? ⟨(ad.add (i.toNat * 6)).block, (ad.add (i.toNat * 6)).off + 3, none⟩ = some (.string (rd_T35 xs i).f3) ∧ w.cell? ⟨(ad.add (i.toNat * 6)).block, (ad.add (i.toNat * 6)).off + 4, none⟩ = some (.slice A4 (rd_T35 xs i).f4.length c4) ∧ w.cell? ⟨(ad.add (i.toNat * 6)).block, (ad.add (i.toNat * 6)).off + 5, none⟩ = some (.slice A5 (rd_T35 xs i).f5.length c5) ∧ (rd_T35 xs i).f4.length ≤ c4 ∧ k35.C w A4 (rd_T35 xs i).f4.length (rd_T35 xs i).f4 ∧ (rd_T35 xs i).f5.length ≤ c5 ∧ k89.C w A5 (rd_T35 xs i).f5.length (rd_T35 xs i).f5 := by
 obtain ⟨ad, c, e, _, hK, hc0⟩ := Kd.C_get h z35 i h0 h1
 have hc : ∀ j u, c[j]? = some u → w.cell? (ad.add (i.toNat * 6 + j)) = some u := hc0
 obtain ⟨A4, c4, A5, c5, rfl, l4, g4, l5, g5⟩ := k35_open hK
 exact ⟨ad, A4, c4, A5, c5, e, hc 0 _ rfl, by rw [← add_field _ _ 1 (by omega)]; exact hc 1 _ rfl, by rw [← add_field _ _ 2 (by omega)]; exact hc 2 _ rfl, by rw [← add_field _ _ 3 (by omega)]; exact hc 3 _ rfl, by rw [← add_field _ _ 4 (by omega)]; exact hc 4 _ rfl, by rw [← add_field _ _ 5 (by omega)]; exact hc 5 _ rfl, l4, g4, l5, g5⟩
theorem k89_open {w : World} {x : S89} {cs : List Value} (h : k89.K w x cs) : ∃ A5 c5 A6 c6, cs = [.string x.f0, .int .i64 x.f1.f0, .int .i64 x.f1.f1, .int .i64 x.f1.f2, .string x.f1.f3, .slice A5 x.f1.f4.length c5, .slice A6 x.f1.f5.length c6] ∧ x.f1.f4.length ≤ c5 ∧ k35.C w A5 x.f1.f4.length x.f1.f4 ∧ x.f1.f5.length ≤ c6 ∧ k89.C w A6 x.f1.f5.length x.f1.f5 := by
 obtain ⟨_, _, rfl, rfl, s1⟩ := h
 obtain ⟨A5, c5, A6, c6, rfl, l5, g5, l6, g6⟩ := k35_open s1
 exact ⟨A5, c5, A6, c6, rfl, l5, g5, l6, g6⟩
theorem k89_openM {w : World} {base : Nat} {ok : Nat → Prop} {x : S89} {cs : List Value} (h : k89.M w base ok x cs) : ∃ v5 v6, cs = [.string x.f0, .int .i64 x.f1.f0, .int .i64 x.f1.f1, .int .i64 x.f1.f2, .string x.f1.f3, v5, v6] ∧ k35.R 35 w base ok v5 x.f1.f4 ∧ k89.R 89 w base ok v6 x.f1.f5 := by
 obtain ⟨_, _, rfl, rfl, s1⟩ := h
 obtain ⟨v5, v6, rfl, g5, g6⟩ := k35_openM s1
 exact ⟨v5, v6, rfl, g5, g6⟩
theorem k89_mkM (w : World) (base : Nat) (ok : Nat → Prop) (x : S89) {v5 : Value} (g5 : k35.R 35 w base ok v5 x.f1.f4) {v6 : Value} (g6 : k89.R 89 w base ok v6 x.f1.f5) : k89.M w base ok x [.string x.f0, .int .i64 x.f1.f0, .int .i64 x.f1.f1, .int .i64 x.f1.f2, .string x.f1.f3, v5, v6] := ⟨[.string x.f0], [.int .i64 x.f1.f0, .int .i64 x.f1.f1, .int .i64 x.f1.f2, .string x.f1.f3, v5, v6], rfl, rfl, (k35_mkM w base ok x.f1 g5 g6)⟩
def rd_T89 (xs : List S89) (i : Int) : S89 := xs.getD i.toNat z89
theorem at_T89 {w : World} {A : Option Addr} {n : Nat} {xs : List S89} (h : Kd.C k89 w A n xs) (i : Int) (h0 : 0 ≤ i) (h1 : i < n) : ∃ ad A5 c5 A6 c6, A = some ad ∧ w.cell? (ad.add (i.toNat * 7)) = some (.string (rd_T89 xs i).f0) ∧ w.cell? ⟨(ad.add (i.toNat * 7)).block, (ad.add (i.toNat * 7)).off + 1, none⟩ = some (.int .i64 (rd_T89 xs i).f1.f0) ∧ w.cell? ⟨(ad.add (i.toNat * 7)).block, (ad.add (i.toNat * 7)).off + 2, none⟩ = some (.int .i64 (rd_T89 xs i).f1.f1) ∧ w.cell? ⟨(ad.add (i.toNat * 7)).block, (ad.add (i.toNat * 7)).off + 3, none⟩ = some (.int .i64 (rd_T89 xs i).f1.f2) ∧ w.cell? ⟨(ad.add (i.toNat * 7)).block, (ad.add (i.toNat * 7)).off + 4, none⟩ = some (.string (rd_T89 xs i).f1.f3) ∧ w.cell? ⟨(ad.add (i.toNat * 7)).block, (ad.add (i.toNat * 7)).off + 5, none⟩ = some (.slice A5 (rd_T89 xs i).f1.f4.length c5) ∧ w.cell? ⟨(ad.add (i.toNat * 7)).block, (ad.add (i.toNat * 7)).off + 6, none⟩ = some (.slice A6 (rd_T89 xs i).f1.f5.length c6) ∧ (rd_T89 xs i).f1.f4.length ≤ c5 ∧ k35.C w A5 (rd_T89 xs i).f1.f4.length (rd_T89 xs i).f1.f4 ∧ (rd_T89 xs i).f1.f5.length ≤ c6 ∧ k89.C w A6 (rd_T89 xs i).f1.f5.length (rd_T89 xs i).f1.f5 := by
 obtain ⟨ad, c, e, _, hK, hc0⟩ := Kd.C_get h z89 i h0 h1
 have hc : ∀ j u, c[j]? = some u → w.cell? (ad.add (i.toNat * 7 + j)) = some u := hc0
 obtain ⟨A5, c5, A6, c6, rfl, l5, g5, l6, g6⟩ := k89_open hK
 exact ⟨ad, A5, c5, A6, c6, e, hc 0 _ rfl, by rw [← add_field _ _ 1 (by omega)]; exact hc 1 _ rfl, by rw [← add_field _ _ 2 (by omega)]; exact hc 2 _ rfl, by rw [← add_field _ _ 3 (by omega)]; exact hc 3 _ rfl, by rw [← add_field _ _ 4 (by omega)]; exact hc 4 _ rfl, by rw [← add_field _ _ 5 (by omega)]; exact hc 5 _ rfl, by rw [← add_field _ _ 6 (by omega)]; exact hc 6 _ rfl, l5, g5, l6, g6⟩
structure S28 where
 f0 : Int
 f1 : Int
def z28 : S28 := ⟨(0 : Int), (0 : Int)⟩
def k28 : Kd S28 := Kd.iso (Kd.pair (Kd.int .i64) (Kd.int .i64)) (fun x : S28 => (x.f0, x.f1))
theorem k28_open {w : World} {x : S28} {cs : List Value} (h : k28.K w x cs) : cs = [.int .i64 x.f0, .int .i64 x.f1] := by
 obtain ⟨_, _, rfl, rfl, rfl⟩ := h
 exact rfl
def rd_T28 (xs : List S28) (i : Int) : S28 := xs.getD i.toNat z28
theorem at_T28 {w : World} {A : Option Addr} {n : Nat} {xs : List S28} (h : Kd.C k28 w A n xs) (i : Int) (h0 : 0 ≤ i) (h1 : i < n) : ∃ ad , A = some ad ∧ w.cell? (ad.add (i.toNat * 2)) = some (.int .i64 (rd_T28 xs i).f0) ∧ w.cell? ⟨(ad.add (i.toNat * 2)).block, (ad.add (i.toNat * 2)).off + 1, none⟩ = some (.int .i64 (rd_T28 xs i).f1) := by
 obtain ⟨ad, c, e, _, hK, hc0⟩ := Kd.C_get h z28 i h0 h1
 have hc : ∀ j u, c[j]? = some u → w.cell? (ad.add (i.toNat * 2 + j)) = some u := hc0
 obtain rfl := k28_open hK
 exact ⟨ad, e, hc 0 _ rfl, by rw [← add_field _ _ 1 (by omega)]; exact hc 1 _ rfl⟩
structure S37 where
 f0 : Int
 f1 : S28
 f2 : S35
def z37 : S37 := ⟨(0 : Int), z28, z35⟩
def k37 : Kd S37 := Kd.iso (Kd.pair (Kd.int .u8) (Kd.pair k28 k35)) (fun x : S37 => (x.f0, x.f1, x.f2))
theorem k37_open {w : World} {x : S37} {cs : List Value} (h : k37.K w x cs) : ∃ A7 c7 A8 c8, cs = [.int .u8 x.f0, .int .i64 x.f1.f0, .int .i64 x.f1.f1, .int .i64 x.f2.f0, .int .i64 x.f2.f1, .int .i64 x.f2.f2, .string x.f2.f3, .slice A7 x.f2.f4.length c7, .slice A8 x.f2.f5.length c8] ∧ x.f2.f4.length ≤ c7 ∧ k35.C w A7 x.f2.f4.length x.f2.f4 ∧ x.f2.f5.length ≤ c8 ∧ k89.C w A8 x.f2.f5.length x.f2.f5 := by
 obtain ⟨_, _, rfl, rfl, ⟨_, _, rfl, s1, s3⟩⟩ := h
 obtain rfl := k28_open s1
 obtain ⟨A7, c7, A8, c8, rfl, l7, g7, l8, g8⟩ := k35_open s3
 exact ⟨A7, c7, A8, c8, rfl, l7, g7, l8, g8⟩
def rd_T37 (xs : List S37) (i : Int) : S37 := xs.getD i.toNat z37
theorem at_T37 {w : World} {A : Option Addr} {n : Nat} {xs : List S37} (h : Kd.C k37 w A n xs) (i : Int) (h0 : 0 ≤ i) (h1 : i < n) : ∃ ad A7 c7 A8 c8, A = some ad ∧ w.cell? (ad.add (i.toNat * 9)) = some (.int .u8 (rd_T37 xs i).f0) ∧ w.cell? ⟨(ad.add (i.toNat * 9)).block, (ad.add (i.toNat * 9)).off + 1, none⟩ = some (.int .i64 (rd_T37 xs i).f1.f0) ∧ w.cell? ⟨(ad.add (i.toNat * 9)).block, (ad.add (i.toNat * 9)).off + 2, none⟩ = some (.int .i64 (rd_T37 xs i).f1.f1) ∧ w.cell? ⟨(ad.add (i.toNat * 9)).block, (ad.add (i.toNat * 9)).off + 3, none⟩ = some (.int .i64 (rd_T37 xs i).f2.f0) ∧ w.cell? ⟨(ad.add (i.toNat * 9)).block, (ad.add (i.toNat * 9)).off + 4, none⟩ = some (.int .i64 (rd_T37 xs i).f2.f1) ∧ w.cell? ⟨(ad.add (i.toNat * 9)).block, (ad.add (i.toNat * 9)).off + 5, none⟩ = some (.int .i64 (rd_T37 xs i).f2.f2) ∧ w.cell? ⟨(ad.add (i.toNat * 9)).block, (ad.add (i.toNat * 9)).off + 6, none⟩ = some (.string (rd_T37 xs i).f2.f3) ∧ w.cell? ⟨(ad.add (i.toNat * 9)).block, (ad.add (i.toNat * 9)).off + 7, none⟩ = some (.slice A7 (rd_T37 xs i).f2.f4.length c7) ∧ w.cell? ⟨(ad.add (i.toNat * 9)).block, (ad.add (i.toNat * 9)).off + 8, none⟩ = some (.slice A8 (rd_T37 xs i).f2.f5.length c8) ∧ (rd_T37 xs i).f2.f4.length ≤ c7 ∧ k35.C w A7 (rd_T37 xs i).f2.f4.length (rd_T37 xs i).f2.f4 ∧ (rd_T37 xs i).f2.f5.length ≤ c8 ∧ k89.C w A8 (rd_T37 xs i).f2.f5.length (rd_T37 xs i).f2.f5 := by
 obtain ⟨ad, c, e, _, hK, hc0⟩ := Kd.C_get h z37 i h0 h1
 have hc : ∀ j u, c[j]? = some u → w.cell? (ad.add (i.toNat * 9 + j)) = some u := hc0
 obtain ⟨A7, c7, A8, c8, rfl, l7, g7, l8, g8⟩ := k37_open hK
 exact ⟨ad, A7, c7, A8, c8, e, hc 0 _ rfl, by rw [← add_field _ _ 1 (by omega)]; exact hc 1 _ rfl, by rw [← add_field _ _ 2 (by omega)]; exact hc 2 _ rfl, by rw [← add_field _ _ 3 (by omega)]; exact hc 3 _ rfl, by rw [← add_field _ _ 4 (by omega)]; exact hc 4 _ rfl, by rw [← add_field _ _ 5 (by omega)]; exact hc 5 _ rfl, by rw [← add_field _ _ 6 (by omega)]; exact hc 6 _ rfl, by rw [← add_field _ _ 7 (by omega)]; exact hc 7 _ rfl, by rw [← add_field _ _ 8 (by omega)]; exact hc 8 _ rfl, l7, g7, l8, g8⟩
structure S69 where
 f0 : Int
 f1 : Bool
 f2 : S35
def z69 : S69 := ⟨(0 : Int), false, z35⟩
def k69 : Kd S69 := Kd.iso (Kd.pair (Kd.int .i64) (Kd.pair Kd.bool k35)) (fun x : S69 => (x.f0, x.f1, x.f2))
theorem k69_open {w : World} {x : S69} {cs : List Value} (h : k69.K w x cs) : ∃ A6 c6 A7 c7, cs = [.int .i64 x.f0, .bool x.f1, .int .i64 x.f2.f0, .int .i64 x.f2.f1, .int .i64 x.f2.f2, .string x.f2.f3, .slice A6 x.f2.f4.length c6, .slice A7 x.f2.f5.length c7] ∧ x.f2.f4.length ≤ c6 ∧ k35.C w A6 x.f2.f4.length x.f2.f4 ∧ x.f2.f5.length ≤ c7 ∧ k89.C w A7 x.f2.f5.length x.f2.f5 := by
 obtain ⟨_, _, rfl, rfl, ⟨_, _, rfl, rfl, s2⟩⟩ := h
 obtain ⟨A6, c6, A7, c7, rfl, l6, g6, l7, g7⟩ := k35_open s2
 exact ⟨A6, c6, A7, c7, rfl, l6, g6, l7, g7⟩
theorem k69_mk (w : World) (x : S69) {A6 : Option Addr} {c6 : Nat} (l6 : x.f2.f4.length ≤ c6) (g6 : k35.C w A6 x.f2.f4.length x.f2.f4) {A7 : Option Addr} {c7 : Nat} (l7 : x.f2.f5.length ≤ c7) (g7 : k89.C w A7 x.f2.f5.length x.f2.f5) : k69.K w x [.int .i64 x.f0, .bool x.f1, .int .i64 x.f2.f0, .int .i64 x.f2.f1, .int .i64 x.f2.f2, .string x.f2.f3, .slice A6 x.f2.f4.length c6, .slice A7 x.f2.f5.length c7] := ⟨[.int .i64 x.f0], [.bool x.f1, .int .i64 x.f2.f0, .int .i64 x.f2.f1, .int .i64 x.f2.f2, .string x.f2.f3, .slice A6 x.f2.f4.length c6, .slice A7 x.f2.f5.length c7], rfl, rfl, ⟨[.bool x.f1], [.int .i64 x.f2.f0, .int .i64 x.f2.f1, .int .i64 x.f2.f2, .string x.f2.f3, .slice A6 x.f2.f4.length c6, .slice A7 x.f2.f5.length c7], rfl, rfl, (k35_mk w x.f2 l6 g6 l7 g7)⟩⟩
theorem k69_openF {W : World} {ok : Nat → Prop} {x : S69} {cs : List Value} (h : Kd.FK k69 W ok x cs) : ∃ A6 c6 A7 c7, cs = [.int .i64 x.f0, .bool x.f1, .int .i64 x.f2.f0, .int .i64 x.f2.f1, .int .i64 x.f2.f2, .string x.f2.f3, .slice A6 x.f2.f4.length c6, .slice A7 x.f2.f5.length c7] ∧ x.f2.f4.length ≤ c6 ∧ Kd.F k35 W ok A6 x.f2.f4.length x.f2.f4 ∧ x.f2.f5.length ≤ c7 ∧ Kd.F k89 W ok A7 x.f2.f5.length x.f2.f5 := by
 obtain ⟨A6, c6, A7, c7, rfl, l6, _, l7, _⟩ := k69_open (Kd.FK_now h)
 exact ⟨A6, c6, A7, c7, rfl, l6, (fun W' hW => by obtain ⟨A6_, c6_, A7_, c7_, he, l6_, g6_, l7_, g7_⟩ := k69_open (h W' hW); injection (Option.some.inj (show some (Value.slice A6 x.f2.f4.length c6) = some (Value.slice A6_ x.f2.f4.length c6_) from congrArg (fun l => l[6]?) he)) with ha_ _ _; rw [ha_]; exact g6_), l7, (fun W' hW => by obtain ⟨A6_, c6_, A7_, c7_, he, l6_, g6_, l7_, g7_⟩ := k69_open (h W' hW); injection (Option.some.inj (show some (Value.slice A7 x.f2.f5.length c7) = some (Value.slice A7_ x.f2.f5.length c7_) from congrArg (fun l => l[7]?) he)) with ha_ _ _; rw [ha_]; exact g7_)⟩
def rd_T69 (xs : List S69) (i : Int) : S69 := xs.getD i.toNat z69
theorem at_T69 {w : World} {A : Option Addr} {n : Nat} {xs : List S69} (h : Kd.C k69 w A n xs) (i : Int) (h0 : 0 ≤ i) (h1 : i < n) : ∃ ad A6 c6 A7 c7, A = some ad ∧ w.cell? (ad.add (i.toNat * 8)) = some (.int .i64 (rd_T69 xs i).f0) ∧ w.cell? ⟨(ad.add (i.toNat * 8)).block, (ad.add (i.toNat * 8)).off + 1, none⟩ = some (.bool (rd_T69 xs i).f1) ∧ w.cell? ⟨(ad.add (i.toNat * 8)).block, (ad.add (i.toNat * 8)).off + 2, none⟩ = some (.int .i64 (rd_T69 xs i).f2.f0) ∧ w.cell? ⟨(ad.add (i.toNat * 8)).block, (ad.add (i.toNat * 8)).off + 3, none⟩ = some (.int .i64 (rd_T69 xs i).f2.f1) ∧ w.cell? ⟨(ad.add (i.toNat * 8)).block, (ad.add (i.toNat * 8)).off + 4, none⟩ = some (.int .i64 (rd_T69 xs i).f2.f2) ∧ w.cell? ⟨(ad.add (i.toNat * 8)).block, (ad.add (i.toNat * 8)).off + 5, none⟩ = some (.string (rd_T69 xs i).f2.f3) ∧ w.cell? ⟨(ad.add (i.toNat * 8)).block, (ad.add (i.toNat * 8)).off + 6, none⟩ = some (.slice A6 (rd_T69 xs i).f2.f4.length c6) ∧ w.cell? ⟨(ad.add (i.toNat * 8)).block, (ad.add (i.toNat * 8)).off + 7, none⟩ = some (.slice A7 (rd_T69 xs i).f2.f5.length c7) ∧ (rd_T69 xs i).f2.f4.length ≤ c6 ∧ k35.C w A6 (rd_T69 xs i).f2.f4.length (rd_T69 xs i).f2.f4 ∧ (rd_T69 xs i).f2.f5.length ≤ c7 ∧ k89.C w A7 (rd_T69 xs i).f2.f5.length (rd_T69 xs i).f2.f5 := by
 obtain ⟨ad, c, e, _, hK, hc0⟩ := Kd.C_get h z69 i h0 h1
 have hc : ∀ j u, c[j]? = some u → w.cell? (ad.add (i.toNat * 8 + j)) = some u := hc0
 obtain ⟨A6, c6, A7, c7, rfl, l6, g6, l7, g7⟩ := k69_open hK
 exact ⟨ad, A6, c6, A7, c7, e, hc 0 _ rfl, by rw [← add_field _ _ 1 (by omega)]; exact hc 1 _ rfl, by rw [← add_field _ _ 2 (by omega)]; exact hc 2 _ rfl, by rw [← add_field _ _ 3 (by omega)]; exact hc 3 _ rfl, by rw [← add_field _ _ 4 (by omega)]; exact hc 4 _ rfl, by rw [← add_field _ _ 5 (by omega)]; exact hc 5 _ rfl, by rw [← add_field _ _ 6 (by omega)]; exact hc 6 _ rfl, by rw [← add_field _ _ 7 (by omega)]; exact hc 7 _ rfl, l6, g6, l7, g7⟩
structure S67 where
 f0 : Int
 f1 : Int
 f2 : Bool
 f3 : S35
def z67 : S67 := ⟨(0 : Int), (0 : Int), false, z35⟩
def k67 : Kd S67 := Kd.iso (Kd.pair (Kd.int .i64) (Kd.pair (Kd.int .i64) (Kd.pair Kd.bool k35))) (fun x : S67 => (x.f0, x.f1, x.f2, x.f3))
theorem k67_open {w : World} {x : S67} {cs : List Value} (h : k67.K w x cs) : ∃ A7 c7 A8 c8, cs = [.int .i64 x.f0, .int .i64 x.f1, .bool x.f2, .int .i64 x.f3.f0, .int .i64 x.f3.f1, .int .i64 x.f3.f2, .string x.f3.f3, .slice A7 x.f3.f4.length c7, .slice A8 x.f3.f5.length c8] ∧ x.f3.f4.length ≤ c7 ∧ k35.C w A7 x.f3.f4.length x.f3.f4 ∧ x.f3.f5.length ≤ c8 ∧ k89.C w A8 x.f3.f5.length x.f3.f5 := by
 obtain ⟨_, _, rfl, rfl, ⟨_, _, rfl, rfl, ⟨_, _, rfl, rfl, s3⟩⟩⟩ := h
 obtain ⟨A7, c7, A8, c8, rfl, l7, g7, l8, g8⟩ := k35_open s3
 exact ⟨A7, c7, A8, c8, rfl, l7, g7, l8, g8⟩
theorem k67_mk (w : World) (x : S67) {A7 : Option Addr} {c7 : Nat} (l7 : x.f3.f4.length ≤ c7) (g7 : k35.C w A7 x.f3.f4.length x.f3.f4) {A8 : Option Addr} {c8 : Nat} (l8 : x.f3.f5.length ≤ c8) (g8 : k89.C w A8 x.f3.f5.length x.f3.f5) : k67.K w x [.int .i64 x.f0, .int .i64 x.f1, .bool x.f2, .int .i64 x.f3.f0, .int .i64 x.f3.f1, .int .i64 x.f3.f2, .string x.f3.f3, .slice A7 x.f3.f4.length c7, .slice A8 x.f3.f5.length c8] := ⟨[.int .i64 x.f0], [.int .i64 x.f1, .bool x.f2, .int .i64 x.f3.f0, .int .i64 x.f3.f1, .int .i64 x.f3.f2, .string x.f3.f3, .slice A7 x.f3.f4.length c7, .slice A8 x.f3.f5.length c8], rfl, rfl, ⟨[.int .i64 x.f1], [.bool x.f2, .int .i64 x.f3.f0, .int .i64 x.f3.f1, .int .i64 x.f3.f2, .string x.f3.f3, .slice A7 x.f3.f4.length c7, .slice A8 x.f3.f5.length c8], rfl, rfl, ⟨[.bool x.f2], [.int .i64 x.f3.f0, .int .i64 x.f3.f1, .int .i64 x.f3.f2, .string x.f3.f3, .slice A7 x.f3.f4.length c7, .slice A8 x.f3.f5.length c8], rfl, rfl, (k35_mk w x.f3 l7 g7 l8 g8)⟩⟩⟩
def rd_T67 (xs : List S67) (i : Int) : S67 := xs.getD i.toNat z67
theorem at_T67 {w : World} {A : Option Addr} {n : Nat} {xs : List S67} (h : Kd.C k67 w A n xs) (i : Int) (h0 : 0 ≤ i) (h1 : i < n) : ∃ ad A7 c7 A8 c8, A = some ad ∧ w.cell? (ad.add (i.toNat * 9)) = some (.int .i64 (rd_T67 xs i).f0) ∧ w.cell? ⟨(ad.add (i.toNat * 9)).block, (ad.add (i.toNat * 9)).off + 1, none⟩ = some (.int .i64 (rd_T67 xs i).f1) ∧ w.cell? ⟨(ad.add (i.toNat * 9)).block, (ad.add (i.toNat * 9)).off + 2, none⟩ = some (.bool (rd_T67 xs i).f2) ∧ w.cell? ⟨(ad.add (i.toNat * 9)).block, (ad.add (i.toNat * 9)).off + 3, none⟩ = some (.int .i64 (rd_T67 xs i).f3.f0) ∧ w.cell? ⟨(ad.add (i.toNat * 9)).block, (ad.add (i.toNat * 9)).off + 4, none⟩ = some (.int .i64 (rd_T67 xs i).f3.f1) ∧ w.cell? ⟨(ad.add (i.toNat * 9)).block, (ad.add (i.toNat * 9)).off + 5, none⟩ = some (.int .i64 (rd_T67 xs i).f3.f2) ∧ w.cell? ⟨(ad.add (i.toNat * 9)).block, (ad.add (i.toNat * 9)).off + 6, none⟩ = some (.string (rd_T67 xs i).f3.f3) ∧ w.cell? ⟨(ad.add (i.toNat * 9)).block, (ad.add (i.toNat * 9)).off + 7, none⟩ = some (.slice A7 (rd_T67 xs i).f3.f4.length c7) ∧ w.cell? ⟨(ad.add (i.toNat * 9)).block, (ad.add (i.toNat * 9)).off + 8, none⟩ = some (.slice A8 (rd_T67 xs i).f3.f5.length c8) ∧ (rd_T67 xs i).f3.f4.length ≤ c7 ∧ k35.C w A7 (rd_T67 xs i).f3.f4.length (rd_T67 xs i).f3.f4 ∧ (rd_T67 xs i).f3.f5.length ≤ c8 ∧ k89.C w A8 (rd_T67 xs i).f3.f5.length (rd_T67 xs i).f3.f5 := by
 obtain ⟨ad, c, e, _, hK, hc0⟩ := Kd.C_get h z67 i h0 h1
 have hc : ∀ j u, c[j]? = some u → w.cell? (ad.add (i.toNat * 9 + j)) = some u := hc0
 obtain ⟨A7, c7, A8, c8, rfl, l7, g7, l8, g8⟩ := k67_open hK
 exact ⟨ad, A7, c7, A8, c8, e, hc 0 _ rfl, by rw [← add_field _ _ 1 (by omega)]; exact hc 1 _ rfl, by rw [← add_field _ _ 2 (by omega)]; exact hc 2 _ rfl, by rw [← add_field _ _ 3 (by omega)]; exact hc 3 _ rfl, by rw [← add_field _ _ 4 (by omega)]; exact hc 4 _ rfl, by rw [← add_field _ _ 5 (by omega)]; exact hc 5 _ rfl, by rw [← add_field _ _ 6 (by omega)]; exact hc 6 _ rfl, by rw [← add_field _ _ 7 (by omega)]; exact hc 7 _ rfl, by rw [← add_field _ _ 8 (by omega)]; exact hc 8 _ rfl, l7, g7, l8, g8⟩
end Go.Proofs.Ytogpnkkoablmiaa.Q
