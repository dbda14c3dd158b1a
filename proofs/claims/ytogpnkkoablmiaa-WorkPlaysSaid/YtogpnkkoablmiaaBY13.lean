/- Parts of the proof: what the theorem reaches, put together by a program of this session. -/
import Derived.Lib.Bytealg
import Derived.Test.YtogpnkkoablmiaaBY12
section
namespace Go.Proofs.Ytogpnkkoablmiaa.V
open Go.RowKit Go.Proofs.Ytogpnkkoablmiaa.Q Go.Proofs.YtogpnkkoablmiaaW.PrintWords Go.Proofs.YtogpnkkoablmiaaW.PrintLast Go.Proofs.YtogpnkkoablmiaaW.PrintMore
set_option linter.unusedVariables false
set_option linter.unusedSimpArgs false
set_option maxRecDepth 100000 in
theorem stringslite_IndexByte (s : ByteArray) (c : Int) (w : World) : Calls Try.prog 183 #[.string s, .int .u8 c] w fun e w' => e = .returned (.int .i64 (Lib.indexByte s.data.toList c.toNat.toUInt8)) ∧ w' = w := by
 go_enter Try.func183, Try.ntmps183
 go_wp2
 rw [run_callFunc_extern Try.func198 (by kernel_rfl) (by kernel_rfl) (by kernel_rfl) (e := Extern.BytealgIndexByte.indexByte) (by kernel_rfl), Lib.run_indexByteString]
 simp only [Result.andThen]
 rw [Oper.upon_value]
 go_wp2
 go_ret
 exact ⟨rfl, rfl⟩
set_option maxRecDepth 100000 in
theorem strings_IndexByte (s : ByteArray) (c : Int) (w : World) : Calls Try.prog 173 #[.string s, .int .u8 c] w fun e w' => e = .returned (.int .i64 (Lib.indexByte s.data.toList c.toNat.toUInt8)) ∧ w' = w := by
 go_enter Try.func173, Try.ntmps173
 go_wp2_with (go_at_call 183; refine (stringslite_IndexByte _ _ _).mono ?_; rintro e w' ⟨rfl, rfl⟩)
 go_ret
 exact ⟨rfl, rfl⟩
def hasZero (s : ByteArray) : Bool := s.data.toList.any (· == 0)
theorem indexByte_pos : ∀ l : List UInt8, 0 ≤ Lib.indexByte l 0 ↔ l.any (· == 0) = true := by
 intro l
 induction l with
 | nil => constructor <;> intro h <;> simp [Lib.indexByte] at h
 | cons x l ih =>
   have hge := Lib.indexByte_ge l 0
   unfold Lib.indexByte
   rw [List.any_cons]
   by_cases h : x = 0
   · subst h; simp
   · have h2 : (x == 0) = false := by simpa using h
     rw [h2, Bool.false_or, ← ih, if_neg (by decide)]
     split
     · rename_i h3
       have := eq_of_beq h3
       omega
     · rename_i h3
       have : Lib.indexByte l 0 ≠ -1 := fun e => h3 (by rw [e]; rfl)
       omega
theorem indexByte_any (l : List UInt8) : decide (0 ≤ Lib.indexByte l 0) = l.any (· == 0) := by
 rw [Bool.eq_iff_iff, decide_eq_true_eq]
 exact indexByte_pos l
set_option maxRecDepth 100000 in
theorem nul_calls (s : ByteArray) (w : World) : Calls Try.prog 150 #[.string s] w fun e w' => e = .returned (.bool (hasZero s)) ∧ w' = w := by
 have H := Aside0.mk (indexByte_any s.data.toList)
 go_enter Try.func150, Try.ntmps150
 go_wp2_with (go_at_call 173; refine (strings_IndexByte _ _ _).mono ?_; rintro e w' ⟨rfl, rfl⟩)
 go_ret
 exact ⟨ret_b H.out, rfl⟩
def hasT (k : Int) : Bool × Bool × Bool × Bool × Bool × Bool :=
 if k = 0 then (false, false, false, false, false, true) else if k = 1 ∨ k = 2 then (true, false, false, false, false, true) else if k = 3 ∨ k = 4 then (false, false, true, false, false, true) else
 if k = 5 then (false, false, false, true, false, true) else if k = 6 then (false, false, false, false, true, true) else if k = 7 then (true, true, false, false, false, true) else
 if k = 8 then (false, false, true, false, true, true) else (false, false, false, false, false, false)
theorem kinds9 (k : Int) : k = 0 ∨ k = 1 ∨ k = 2 ∨ k = 3 ∨ k = 4 ∨ k = 5 ∨ k = 6 ∨ k = 7 ∨ k = 8 ∨ (k ≠ 0 ∧ k ≠ 1 ∧ k ≠ 2 ∧ k ≠ 3 ∧ k ≠ 4 ∧ k ≠ 5 ∧ k ≠ 6 ∧ k ≠ 7 ∧ k ≠ 8) := by omega
set_option maxHeartbeats 4000000 in
set_option maxRecDepth 100000 in
theorem has_calls (k : Int) (n g s l d ok : Bool) (h : hasT k = (n, g, s, l, d, ok)) (w : World) : Calls Try.prog 120 #[.int .i64 k] w fun e w' => e = .returned (.tuple #[.agg #[.bool n, .bool g, .bool s, .bool l, .bool d], .bool ok]) ∧ Below w.heap.size w w' := by
 rcases kinds9 k with rfl | rfl | rfl | rfl | rfl | rfl | rfl | rfl | rfl | ⟨h0, h1, h2, h3, h4, h5, h6, h7, h8⟩
 all_goals
  simp [hasT, *] at h
  obtain ⟨rfl, rfl, rfl, rfl, rfl, rfl⟩ := h
  go_enter Try.func120, Try.ntmps120
  go_wp2
  exact bodyPost_ret (v := .tuple #[.agg #[.bool _, .bool _, .bool _, .bool _, .bool _], .bool _]) (by simp [results, Try.results120, go_sem]; try exact ⟨rfl, rfl, rfl, rfl, rfl⟩) rfl ⟨rfl, by first | exact (Below.refl _ _).alloc (Nat.le_refl _) _ | exact ((Below.refl _ _).alloc (Nat.le_refl _) _).setCell (Nat.le_refl _) _⟩
def beyondB (k N G : Int) : Bool :=
 (decide (k = 1) && !(decide (N = 0) || decide (N = 1))) || (decide (k = 2) && (decide (N < -2147483647) || decide (2147483647 < N))) || (decide (k = 7) && (decide (N < 1) || decide (8388607 < N) || decide (G < 0) || decide (65535 < G)))
set_option maxHeartbeats 4000000 in
set_option maxRecDepth 100000 in
theorem beyond_calls (f0 f1 f2 : Int) (f3 : ByteArray) (L D : Nat) (A4 : Option Addr) (c4 : Nat) (A5 : Option Addr) (c5 : Nat) (w : World) : Calls Try.prog 172 #[.agg #[.int .i64 f0, .int .i64 f1, .int .i64 f2, .string f3, .slice A4 L c4, .slice A5 D c5]] w fun e w' => e = .returned (.bool (beyondB f0 f1 f2)) ∧ Below w.heap.size w w' := by
 have hu35 := Try.underlying35
 have HB := fun x => Aside0.mk ((Below.refl w.heap.size w).alloc (Nat.le_refl _) x)
 rcases (show f0 = 1 ∨ f0 = 2 ∨ f0 = 7 ∨ (f0 ≠ 1 ∧ f0 ≠ 2 ∧ f0 ≠ 7) by omega) with rfl | rfl | rfl | ⟨h1, h2, h3⟩
 all_goals
  go_enter Try.func172, Try.ntmps172
  go_wp2
  all_goals
   go_ret
   refine ⟨ret_b ?_, (HB _).out⟩
   clear HB
   try simp_all [beyondB]
   try (first | omega | (rw [Bool.eq_iff_iff]; simp; omega))
def ownE (k N G : Int) (S : ByteArray) (L D : Nat) (stream : Bool) (within : Int) : Int :=
 if k < 0 ∨ 8 < k ∨ (k = 8 ∧ stream = false) then 10 else if extraB k N G S L D = true ∨ (k = 3 ∧ hasZero S = true) then 4 else if beyondB k N G = true then 3 else
 if (k = 3 ∧ 127 < S.size) ∨ (k = 4 ∧ 65535 < S.size) then 8 else if k = 8 ∧ 1048576 < S.size then 7 else if (k = 5 ∨ k = 6 ∨ k = 8) ∧ 64 ≤ within then 9 else 0
theorem foreign_extra (k N G : Int) (S : ByteArray) (L D : Nat) (n g s l d ok : Bool) (h : hasT k = (n, g, s, l, d, ok)) (hk : 0 ≤ k ∧ k ≤ 8) : extraB k N G S L D = foreignB N G S L D n g s l d := by
 rcases kinds9 k with rfl | rfl | rfl | rfl | rfl | rfl | rfl | rfl | rfl | h9
 · simp [hasT] at h; obtain ⟨rfl, rfl, rfl, rfl, rfl, rfl⟩ := h; simp [extraB, foreignB]
 all_goals first | omega | (simp [hasT] at h; obtain ⟨rfl, rfl, rfl, rfl, rfl, rfl⟩ := h; simp [extraB, foreignB])
theorem foreign_to (f0 f1 f2 : Int) (f3 : ByteArray) (L D : Nat) (A4 : Option Addr) (c4 : Nat) (A5 : Option Addr) (c5 : Nat) (n g s l d b : Bool) (h : foreignB f1 f2 f3 L D n g s l d = b) (w : World) : Calls Try.prog 171 #[.agg #[.int .i64 f0, .int .i64 f1, .int .i64 f2, .string f3, .slice A4 L c4, .slice A5 D c5], .agg #[.bool n, .bool g, .bool s, .bool l, .bool d]] w fun e w' => e = .returned (.bool b) ∧ Below w.heap.size w w' := by
 subst h; exact foreign_calls f0 f1 f2 f3 L D A4 c4 A5 c5 n g s l d w
theorem nul_to (s : ByteArray) (b : Bool) (h : hasZero s = b) (w : World) : Calls Try.prog 150 #[.string s] w fun e w' => e = .returned (.bool b) ∧ w' = w := by
 subst h; exact nul_calls s w
theorem beyond_to (f0 f1 f2 : Int) (f3 : ByteArray) (L D : Nat) (A4 : Option Addr) (c4 : Nat) (A5 : Option Addr) (c5 : Nat) (b : Bool) (h : beyondB f0 f1 f2 = b) (w : World) : Calls Try.prog 172 #[.agg #[.int .i64 f0, .int .i64 f1, .int .i64 f2, .string f3, .slice A4 L c4, .slice A5 D c5]] w fun e w' => e = .returned (.bool b) ∧ Below w.heap.size w w' := by
 subst h; exact beyond_calls f0 f1 f2 f3 L D A4 c4 A5 c5 w
theorem box35 {w : World} {b T : Nat} {c0 c1 c2 c3 c4 c5 : Value} (h : w.heap[b]? = some (.cells #[c0, c1, c2, c3, c4, c5] T (0, 0))) : w.cell? ⟨b, 0, none⟩ = some c0 ∧ w.cell? ⟨b, 1, none⟩ = some c1 ∧ w.cell? ⟨b, 2, none⟩ = some c2 ∧ w.cell? ⟨b, 3, none⟩ = some c3 ∧ w.cell? ⟨b, 4, none⟩ = some c4 ∧ w.cell? ⟨b, 5, none⟩ = some c5 := by
 refine ⟨?_, ?_, ?_, ?_, ?_, ?_⟩ <;> (rw [cell_of_row w b _ _ _ _ h]; rfl)
theorem box5 {w : World} {b T : Nat} {c0 c1 c2 c3 c4 : Value} (h : w.heap[b]? = some (.cells #[c0, c1, c2, c3, c4] T (0, 0))) : w.cell? ⟨b, 0, none⟩ = some c0 ∧ w.cell? ⟨b, 1, none⟩ = some c1 ∧ w.cell? ⟨b, 2, none⟩ = some c2 ∧ w.cell? ⟨b, 3, none⟩ = some c3 ∧ w.cell? ⟨b, 4, none⟩ = some c4 := by
 refine ⟨?_, ?_, ?_, ?_, ?_⟩ <;> (rw [cell_of_row w b _ _ _ _ h]; rfl)
theorem ret_i {k : IntKind} {b c : Int} (h : b = c) : Ending.returned (.int k b) = .returned (.int k c) := by rw [h]
set_option maxHeartbeats 16000000 in
set_option maxRecDepth 100000 in
theorem own_calls (f0 f1 f2 : Int) (f3 : ByteArray) (L D : Nat) (A4 : Option Addr) (c4 : Nat) (A5 : Option Addr) (c5 : Nat) (stream : Bool) (within : Int) (w : World) : Calls Try.prog 149 #[.agg #[.int .i64 f0, .int .i64 f1, .int .i64 f2, .string f3, .slice A4 L c4, .slice A5 D c5], .bool stream, .int .i64 within] w fun e w' => e = .returned (.int .i64 (ownE f0 f1 f2 f3 L D stream within)) ∧ Below w.heap.size w w' := by
 have hu35 := Try.underlying35
 obtain ⟨⟨n, g, s, l, d, ok⟩, hT⟩ : ∃ x, hasT f0 = x := ⟨_, rfl⟩
 have HT := fun w => Aside0.mk (has_calls f0 n g s l d ok hT w)
 have HX := Aside0.mk (foreign_extra f0 f1 f2 f3 L D n g s l d ok hT)
 obtain ⟨fb, hf⟩ : ∃ b, foreignB f1 f2 f3 L D n g s l d = b := ⟨_, rfl⟩
 have HF := fun w => Aside0.mk (foreign_to f0 f1 f2 f3 L D A4 c4 A5 c5 n g s l d fb hf w)
 have NF := Aside0.mk hf
 obtain ⟨zb, hz⟩ : ∃ b, hasZero f3 = b := ⟨_, rfl⟩
 have HZ := fun w => Aside0.mk (nul_to f3 zb hz w)
 have NZ := Aside0.mk hz
 obtain ⟨bb, hb⟩ : ∃ b, beyondB f0 f1 f2 = b := ⟨_, rfl⟩
 have HBY := fun w => Aside0.mk (beyond_to f0 f1 f2 f3 L D A4 c4 A5 c5 bb hb w)
 have NB := Aside0.mk hb
 clear hf hz hb
 have HB := Aside0.mk (Below.refl w.heap.size w)
 rcases kinds9 f0 with rfl | rfl | rfl | rfl | rfl | rfl | rfl | rfl | rfl | ⟨h0, h1, h2, h3, h4, h5, h6, h7, h8⟩
 all_goals
  simp [hasT, *] at hT
  obtain ⟨rfl, rfl, rfl, rfl, rfl, rfl⟩ := hT
 case' inr.inr.inr.inr.inr.inr.inr.inr.inr =>
  skip
 all_goals
  try have hx := Aside0.mk ((HX.out (by omega)).trans NF.out)
 case' inr.inr.inr.inl => cases zb
 all_goals first | (have hx' := hx; clear hx'; cases fb) | skip
 all_goals first | (have hx' := hx; clear hx'; cases bb) | skip
 all_goals
  go_enter Try.func149, Try.ntmps149
  go_wp2_with (first
   | (go_at_call 120; refine ((HT _).out).mono ?_; rintro e w1 ⟨rfl, hb⟩; have hb1 := Aside0.mk (below_step (below_alloc (Below.refl w.heap.size w) _) hb); have bk := Aside0.mk (blk_below (blk_new w _) hb); have hlt : w.heap.size < w1.heap.size := Nat.lt_of_lt_of_le (by simp) hb.size; obtain ⟨x0, x1, x2, x3, x4, x5⟩ := box35 bk.out; clear hb)
   | (go_at_call 171; refine ((HF _).out).mono ?_; rintro e w2 ⟨rfl, hb⟩; have hb2 := Aside0.mk (below_step (below_alloc hb1.out _) hb); have bk2 := Aside0.mk (blk_below (blk_alloc bk.out _) hb); have fk2 := Aside0.mk (blk_below (blk_new w1 _) hb); clear x0 x1 x2 x3 x4 x5; obtain ⟨x0, x1, x2, x3, x4, x5⟩ := box35 bk2.out; obtain ⟨y0, y1, y2, y3, y4⟩ := box5 fk2.out; clear hb)
   | (go_at_call 150; refine ((HZ _).out).mono ?_; rintro e w' ⟨rfl, rfl⟩)
   | (go_at_call 172; refine ((HBY _).out).mono ?_; rintro e w3 ⟨rfl, hb⟩; have hb3 := Aside0.mk (below_step hb2.out hb); have bk3 := Aside0.mk (blk_below bk2.out hb); have fk3 := Aside0.mk (blk_below fk2.out hb); clear x0 x1 x2 x3 x4 x5 y0 y1 y2 y3 y4; obtain ⟨x0, x1, x2, x3, x4, x5⟩ := box35 bk3.out; obtain ⟨y0, y1, y2, y3, y4⟩ := box5 fk3.out; clear hb))
  all_goals
   go_ret
   refine ⟨ret_i ?_, by first | exact hb3.out | exact hb2.out | exact below_alloc hb1.out _⟩
   try have e1 := hx.out
   have e2 := NZ.out
   have e3 := NB.out
   simp_all [ownE]
   try omega
theorem hasZero_iff (s : ByteArray) : hasZero s = true ↔ ∃ (k : Nat) (h : k < s.size), s[k] = 0 := by
 unfold hasZero
 rw [List.any_eq_true]
 constructor
 · rintro ⟨x, hx, h0⟩
   obtain ⟨k, hk, rfl⟩ := List.getElem_of_mem hx
   have h1 : s.data.toList[k] = 0 := eq_of_beq h0
   rw [Array.getElem_toList] at h1
   exact ⟨k, by simpa using hk, h1⟩
 · rintro ⟨k, hk, h0⟩
   exact ⟨s[k], by exact Array.getElem_mem_toList hk, by simpa using h0⟩
set_option maxHeartbeats 1000000 in
set_option maxRecDepth 100000 in
theorem zero_calls (s : ByteArray) (w : World) (hs : s.size ≤ 9223372036854775807) : Calls Try.prog 175 #[.string s] w fun e w' => e = .returned (.bool (hasZero s)) ∧ w' = w := by
 go_enter Try.func175, Try.ntmps175
 go_wp2
 go_loop [3] (fun i => ∃ k : Nat, k ≤ s.size ∧ i = .int .i64 k ∧ Aside0 (∀ (j : Nat) (h : j < s.size), j < k → s[j] ≠ 0)) (fun i => s.size - (intOf i).toNat)
 case atStart => exact ⟨0, Nat.zero_le _, rfl, ⟨fun j _ h => by omega⟩⟩
 case round =>
  obtain ⟨k, hk, rfl, HZ⟩ := hrel
  by_cases hlt : k < s.size
  · by_cases hz : s[k] = 0
    · have h1 := Aside0.mk ((hasZero_iff s).2 ⟨k, hlt, hz⟩)
      have hz' : (s[k].toNat : Int) = 0 := by rw [hz]; rfl
      clear hz
      go_wp2
      go_ret
      exact ⟨ret_b h1.out.symm, rfl⟩
    · have hz' : ¬ (s[k].toNat : Int) = 0 := fun h => hz (by have h2 : s[k].toNat = 0 := by omega
                                                             exact UInt8.toNat_inj.1 (by simpa using h2))
      have HZ' := Aside0.mk hz
      clear hz
      go_wp2
      go_round
      case rel => exact ⟨k + 1, by omega, by go_num, ⟨fun j h hj => by
       rcases Nat.lt_or_ge j k with h2 | h2
       · exact HZ.out j h h2
       · have : j = k := by omega
         subst this
         exact HZ'.out⟩⟩
      case measure => simp [intOf]; omega
  · have h1 := Aside0.mk (show hasZero s = false by
     cases hb : hasZero s with
     | false => rfl
     | true =>
       obtain ⟨j, hj, h0⟩ := (hasZero_iff s).1 hb
       exact absurd h0 (HZ.out j hj (by omega)))
    go_wp2
    go_ret
    exact ⟨ret_b h1.out.symm, rfl⟩
set_option maxHeartbeats 4000000 in
set_option maxRecDepth 100000 in
theorem out_calls (f0 f1 f2 : Int) (f3 : ByteArray) (L D : Nat) (A4 : Option Addr) (c4 : Nat) (A5 : Option Addr) (c5 : Nat) (b : Bool) (h : beyondB f0 f1 f2 = b) (w : World) : Calls Try.prog 176 #[.agg #[.int .i64 f0, .int .i64 f1, .int .i64 f2, .string f3, .slice A4 L c4, .slice A5 D c5]] w fun e w' => e = .returned (.bool b) ∧ Below w.heap.size w w' := by
 subst h
 have hu35 := Try.underlying35
 have HB := fun x => Aside0.mk ((Below.refl w.heap.size w).alloc (Nat.le_refl _) x)
 rcases (show f0 = 1 ∨ f0 = 2 ∨ f0 = 7 ∨ (f0 ≠ 1 ∧ f0 ≠ 2 ∧ f0 ≠ 7) by omega) with rfl | rfl | rfl | ⟨h1, h2, h3⟩
 all_goals
  go_enter Try.func176, Try.ntmps176
  go_wp2
  all_goals
   go_ret
   refine ⟨ret_b ?_, (HB _).out⟩
   clear HB
   try simp_all [beyondB]
   try (first | omega | (rw [Bool.eq_iff_iff]; simp; done) | (rw [Bool.eq_iff_iff]; simp; omega))
def holderB (k : Int) : Bool := decide (k = 5) || decide (k = 6) || decide (k = 8)
set_option maxRecDepth 100000 in
theorem holder_calls (k : Int) (b : Bool) (h : holderB k = b) (w : World) : Calls Try.prog 119 #[.int .i64 k] w fun e w' => e = .returned (.bool b) ∧ w' = w := by
 subst h
 go_enter Try.func119, Try.ntmps119
 go_wp2
 all_goals
  go_ret
  refine ⟨ret_b ?_, rfl⟩
  simp_all [holderB]
  try (rw [Bool.eq_iff_iff]; simp; done)
theorem extra_to (f0 f1 f2 : Int) (f3 : ByteArray) (L D : Nat) (A4 : Option Addr) (c4 : Nat) (A5 : Option Addr) (c5 : Nat) (b : Bool) (h : extraB f0 f1 f2 f3 L D = b) (w : World) : Calls Try.prog 174 #[.agg #[.int .i64 f0, .int .i64 f1, .int .i64 f2, .string f3, .slice A4 L c4, .slice A5 D c5]] w fun e w' => e = .returned (.bool b) ∧ Below w.heap.size w w' := by
 subst h; exact extra_calls f0 f1 f2 f3 L D A4 c4 A5 c5 w
theorem zero_to (s : ByteArray) (b : Bool) (h : hasZero s = b) (w : World) (hs : s.size ≤ 9223372036854775807) : Calls Try.prog 175 #[.string s] w fun e w' => e = .returned (.bool b) ∧ w' = w := by
 subst h; exact zero_calls s w hs
set_option maxHeartbeats 16000000 in
set_option maxRecDepth 100000 in
theorem one_calls (f0 f1 f2 : Int) (f3 : ByteArray) (L D : Nat) (A4 : Option Addr) (c4 : Nat) (A5 : Option Addr) (c5 : Nat) (stream : Bool) (within : Int) (w : World) (hs : f3.size ≤ 9223372036854775807) : Calls Try.prog 151 #[.agg #[.int .i64 f0, .int .i64 f1, .int .i64 f2, .string f3, .slice A4 L c4, .slice A5 D c5], .bool stream, .int .i64 within] w fun e w' => e = .returned (.int .i64 (ownE f0 f1 f2 f3 L D stream within)) ∧ Below w.heap.size w w' := by
 have hu35 := Try.underlying35
 obtain ⟨fb, hf⟩ : ∃ b, extraB f0 f1 f2 f3 L D = b := ⟨_, rfl⟩
 have HF := fun w => Aside0.mk (extra_to f0 f1 f2 f3 L D A4 c4 A5 c5 fb hf w)
 have NF := Aside0.mk hf
 obtain ⟨zb, hz⟩ : ∃ b, hasZero f3 = b := ⟨_, rfl⟩
 have HZ := fun w => Aside0.mk (zero_to f3 zb hz w hs)
 have NZ := Aside0.mk hz
 obtain ⟨bb, hb⟩ : ∃ b, beyondB f0 f1 f2 = b := ⟨_, rfl⟩
 have HBY := fun w => Aside0.mk (out_calls f0 f1 f2 f3 L D A4 c4 A5 c5 bb hb w)
 have NB := Aside0.mk hb
 clear hf hz hb
 have HH := Aside0.mk (fun (b : Bool) (h : holderB f0 = b) w => holder_calls f0 b h w)
 have HB := Aside0.mk (Below.refl w.heap.size w)
 rcases (show f0 = 0 ∨ f0 = 1 ∨ f0 = 2 ∨ f0 = 3 ∨ f0 = 4 ∨ f0 = 5 ∨ f0 = 6 ∨ f0 = 7 ∨ f0 = 8 ∨ f0 < 0 ∨ (8 < f0 ∧ 0 ≤ f0) by omega) with rfl | rfl | rfl | rfl | rfl | rfl | rfl | rfl | rfl | h9 | ⟨h9, h9'⟩
 all_goals
  (try cases fb) <;> (try cases bb)
 case' inr.inr.inr.inl.false.false | inr.inr.inr.inl.false.true => cases zb
 all_goals
  go_enter Try.func151, Try.ntmps151
  go_wp2_with (first
   | (go_at_call 174; refine ((HF _).out).mono ?_; rintro e w2 ⟨rfl, hb⟩; have hb2 := Aside0.mk (below_step (below_alloc (Below.refl w.heap.size w) _) hb); have bk2 := Aside0.mk (blk_below (blk_new w _) hb); obtain ⟨x0, x1, x2, x3, x4, x5⟩ := box35 bk2.out; clear hb)
   | (go_at_call 175; refine ((HZ _).out).mono ?_; rintro e w' ⟨rfl, rfl⟩)
   | (go_at_call 176; refine ((HBY _).out).mono ?_; rintro e w3 ⟨rfl, hb⟩; have hb3 := Aside0.mk (below_step hb2.out hb); have bk3 := Aside0.mk (blk_below bk2.out hb); clear x0 x1 x2 x3 x4 x5; obtain ⟨x0, x1, x2, x3, x4, x5⟩ := box35 bk3.out; clear hb)
   | (go_at_call 119; refine ((HH.out _ (by simp [holderB, *]; rfl) _)).mono ?_; rintro e w' ⟨rfl, rfl⟩))
  all_goals
   go_ret
   refine ⟨ret_i ?_, by first | exact hb3.out | exact hb2.out | exact below_alloc (Below.refl w.heap.size w) _⟩
   have e1 := NF.out
   have e2 := NZ.out
   have e3 := NB.out
   simp_all [ownE]
   try omega
end Go.Proofs.Ytogpnkkoablmiaa.V
end
