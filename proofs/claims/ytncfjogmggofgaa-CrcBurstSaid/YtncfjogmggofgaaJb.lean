/- CrcBurst: the walk, and the plain law: a burst of turned bits has another sum. -/
import Derived.Test.YtncfjogmggofgaaJa
import Derived.OpenShut
import Derived.Test.YtncfjogmggofgaaProg
import Derived.Below
import Derived.Deep.Draws
import Derived.Deep.AppendLies
import Derived.Maps.AppendAt
import Derived.OwnWalk
import Derived.Laws.BytesArg
import Derived.Laws.MakeOwn
import Derived.Laws.OwnMore
import Derived.Deep.OwnRows
import Derived.Tactics
import Derived.Lib.ConvBytes
import Derived.Laws.Slices
import Derived.WalkKit
import Derived.KernelRfl
import Derived.RowKit3
import Derived.Deep.LoopGhost
import Derived.Deep.QuietTactic
import Derived.BigQuiet
import Derived.WideLaws
import Derived.Deep.DeepCutAuto
import Derived.Deep.CutBlock
import Derived.Deep.RegionHeld3
import Derived.Laws.Rows
import Derived.Lib.AppendStr
import Derived.ArgAppend
import Derived.Laws.IdiomCopy
import Derived.OrdersHeld
import Derived.Laws.BitsLemmas
import Derived.RowKit
import Derived.Test.YtncfjogmggofgaaWWords
import Derived.Test.YtncfjogmggofgaaWLast
import Derived.Test.YtncfjogmggofgaaWTab
import Derived.Test.YtncfjogmggofgaaWFour
import Derived.Test.YtncfjogmggofgaaWQPut
import Derived.Test.YtncfjogmggofgaaWApart
import Derived.Test.YtncfjogmggofgaaWArr
import Derived.Test.YtncfjogmggofgaaWZeros
import Derived.Test.YtncfjogmggofgaaWFoot
import Derived.Test.YtncfjogmggofgaaWKept
import Derived.Test.YtncfjogmggofgaaWShare
import Derived.Test.YtncfjogmggofgaaWN
import Derived.Test.YtncfjogmggofgaaWFootNe
import Derived.Test.YtncfjogmggofgaaWAt
import Derived.Test.YtncfjogmggofgaaWEqStruct
import Derived.Test.YtncfjogmggofgaaWRepsOne
import Derived.Test.YtncfjogmggofgaaWInv
import Derived.Test.YtncfjogmggofgaaWInvWords
import Derived.Test.YtncfjogmggofgaaWGuard
import Derived.Test.YtncfjogmggofgaaWNEv
import Derived.Test.YtncfjogmggofgaaWMore
namespace Go.Proofs.Ytncfjogmggofgaa.J
open Go.RowKit Go.Proofs.YtncfjogmggofgaaW.PrintWords Go.Proofs.YtncfjogmggofgaaW.PrintLast Go.Proofs.YtncfjogmggofgaaW.PrintMore
set_option linter.unusedVariables false
set_option linter.unusedSimpArgs false
open Go.Proofs.Ytncfjogmggofgaa.Q Go.Proofs.Ytncfjogmggofgaa.H
theorem bytes_str (xs : List Int) (h : ∀ x ∈ xs, 0 ≤ x ∧ x < 256) : bytesOf (strOfNums xs) = xs := by
  simp only [bytesOf, strOfNums, List.map_map, List.toList_toArray]
  refine (List.map_congr_left (fun x hx => ?_)).trans (List.map_id _)
  have := h x hx
  simp
  omega
structure Byt (W : World) (g : Nat) (l : List Int) : Prop where
  cell : ∀ j, j < l.length → W.cell? ⟨g, j, none⟩ = some (.int .u8 (l.getD j 0))
  live : ∀ j, j < l.length → W.frozen? ⟨g, j, none⟩ = false
theorem Byt.set {W : World} {g : Nat} {l : List Int} (h : Byt W g l) (i : Nat) (hi : i < l.length) (x : Int) : Byt (W.setCell ⟨g, i, none⟩ (.int .u8 x)) g (l.set i x) := by
  refine ⟨fun j hj => ?_, fun j hj => ?_⟩
  · rw [List.length_set] at hj
    by_cases hji : i = j
    · subst hji
      rw [World.cell?_setCell_same W _ _ (h.cell i hi), List.getD_eq_getElem?_getD, List.getElem?_set_self hi]
      rfl
    · have hne : (⟨g, i, none⟩ : Addr) ≠ ⟨g, j, none⟩ := by
        intro e
        injection e with _ e
        exact hji e
      rw [World.cell?_setCell_other _ _ _ _ hne, h.cell j hj, List.getD_eq_getElem?_getD, List.getD_eq_getElem?_getD, List.getElem?_set_ne hji]
  · rw [List.length_set] at hj
    rw [World.frozen?_setCell]
    exact h.live j hj
theorem Byt.new (W : World) (s : ByteArray) : Byt (Lib.bytesWorld W 5 s) W.heap.size (bytesOf s) := by
  have hl := bytes_length s
  refine ⟨fun j hj => ?_, fun j hj => ?_⟩
  · rw [Lib.bytesWorld_cell W 5 s j (by omega)]
    have h' : j < s.data.toList.length := by rw [data_length]; omega
    simp [bytesOf, List.getD_eq_getElem?_getD, List.getElem?_eq_getElem h']
  · have hc : j < (Lib.bytesCells W 5 s).size := by
      have h1 := Lib.bytesWorld_cell W 5 s j (by omega)
      have h2 := Lib.bytesWorld_at_new W 5 s
      simp only [World.cell?, h2] at h1
      exact (Array.getElem?_eq_some_iff.1 h1).1
    simp only [World.frozen?, Lib.bytesWorld_at_new W 5 s]
    simp
    omega
def flip (l : List Int) (k : Int) : List Int := l.set (k / 8).toNat (Go.bits .xor .u8 (l.getD (k / 8).toNat 0) (2 ^ (k % 8).toNat % 256))
def bst (s : ByteArray) (f mask : Int) : Nat → List Int × Bool
  | 0 => (bytesOf s, false)
  | i + 1 => if Go.bits .and .u32 (mask / 2 ^ i) 1 = 1 then (flip (bst s f mask i).1 (f + i), true) else bst s f mask i
theorem bst_len (s : ByteArray) (f mask : Int) (i : Nat) : (bst s f mask i).1.length = s.size := by
  induction i with
  | zero => exact bytes_length s
  | succ i ih =>
    simp only [bst]
    split
    · simp only [flip, List.length_set]; exact ih
    · exact ih
/-! ### the plain law of a burst -/
theorem xor8 : ∀ n, n < 256 → ∀ r, r < 8 → U (Go.bits .xor .u8 (n : Nat) (2 ^ r % 256)) = U (n : Nat) ^^^ 1#32 <<< r ∧ 0 ≤ Go.bits .xor .u8 (n : Nat) (2 ^ r % 256) ∧ Go.bits .xor .u8 (n : Nat) (2 ^ r % 256) < 256 := by decide +kernel
theorem shl_one (i : Nat) : ∀ j, i + j < 32 → it hv i (1#32 <<< (i + j)) = 1#32 <<< j := by
  induction i with
  | zero => intro j _; rw [Nat.zero_add]; rfl
  | succ i ih =>
    intro j hj
    rw [it_succ]
    have e : i + 1 + j = i + (j + 1) := by omega
    rw [e, ih (j + 1) (by omega)]
    have e2 : (1#32 <<< (j + 1) : B) = (1#32 <<< j) <<< 1 := by rw [← BitVec.shiftLeft_add]
    rw [e2, hv_shl]
    rw [BitVec.toNat_shiftLeft, Nat.shiftLeft_eq]
    have h2 : 2 ^ j ≤ 2 ^ 30 := Nat.pow_le_pow_right (by decide) (by omega)
    have e1 : (1#32 : B).toNat = 1 := by decide
    rw [e1]
    omega
theorem hv_inj_zero (x : B) (h : hv x = 0#32) : x = 0#32 := by
  unfold hv at h
  by_cases hb : x.getLsbD 0
  · rw [if_pos hb] at h
    have h31 := congrArg (fun b : B => b.getLsbD 31) h
    simp [Pl] at h31
  · rw [if_neg hb, BitVec.xor_zero] at h
    have hn := congrArg BitVec.toNat h
    rw [BitVec.toNat_ushiftRight, Nat.shiftRight_eq_div_pow] at hn
    have h0 : x.toNat % 2 = 0 := by
      have : x.getLsbD 0 = decide (x.toNat % 2 = 1) := by rw [BitVec.getLsbD, Nat.testBit_zero]
      rw [this] at hb
      simp at hb
      omega
    apply BitVec.eq_of_toNat_eq
    simp at hn ⊢
    omega
theorem it_zero (n : Nat) : ∀ x, it hv n x = 0#32 → x = 0#32 := by
  induction n with
  | zero => intro x h; exact h
  | succ n ih => intro x h; exact hv_inj_zero x (ih _ h)
theorem it_L (n : Nat) : ∀ x, it L n x = it hv (8 * n) x := by
  induction n with
  | zero => intro x; rfl
  | succ n ih =>
    intro x
    show it L n (L x) = _
    rw [ih]
    unfold L
    rw [← it_add]
    congr 1
    omega
theorem run_flip (l : List Int) (q r : Nat) (hq : q < l.length) (hr : r < 8) (hl : ∀ x ∈ l, 0 ≤ x ∧ x < 256) (x : B) :
    runB x ((l.set q (Go.bits .xor .u8 (l.getD q 0) (2 ^ r % 256))).map U) = runB x (l.map U) ^^^ it hv (8 * l.length - (8 * q + r)) 1#32 := by
  obtain ⟨pre, c, post, rfl, hp⟩ : ∃ pre c post, l = pre ++ c :: post ∧ pre.length = q := ⟨l.take q, l[q], l.drop (q + 1), by rw [← List.drop_eq_getElem_cons hq, List.take_append_drop], by rw [List.length_take]; omega⟩
  subst hp
  have hc := hl c (by simp)
  obtain ⟨n, rfl⟩ := Int.eq_ofNat_of_zero_le hc.1
  have h8 := (xor8 n (by omega) r hr).1
  have eg : (pre ++ (n : Int) :: post).getD pre.length 0 = (n : Int) := by
    rw [List.getD_eq_getElem?_getD, List.getElem?_append_right (Nat.le_refl _)]
    simp
  have es : (pre ++ (n : Int) :: post).set pre.length (Go.bits .xor .u8 (n : Int) (2 ^ r % 256)) = pre ++ Go.bits .xor .u8 (n : Int) (2 ^ r % 256) :: post := by
    rw [List.set_append_right _ _ (Nat.le_refl _)]
    simp
  rw [eg, es, List.map_append, List.map_cons, List.map_append, List.map_cons, runB_append, runB_append, runB_cons, runB_cons, h8, ← BitVec.xor_assoc, lin_L.xor, runB_xor, List.length_map, it_L]
  congr 1
  have e1 : it hv (8 * post.length) (L (1#32 <<< r)) = it hv (8 + 8 * post.length) (1#32 <<< r) := by
    unfold L
    rw [← it_add]
  have e2 : 8 + 8 * post.length = r + (8 * (pre ++ (n : Int) :: post).length - (8 * pre.length + r)) := by
    simp only [List.length_append, List.length_cons]
    omega
  rw [e1, e2, it_add hv r]
  have h1 := shl_one r 0 (by omega)
  rw [Nat.add_zero] at h1
  rw [h1]
  rfl
theorem bst_range (s : ByteArray) (f mask : Int) (i : Nat) (hf : 0 ≤ f) (hfi : f + i ≤ 8 * (s.size : Int)) : ∀ x ∈ (bst s f mask i).1, 0 ≤ x ∧ x < 256 := by
  induction i with
  | zero =>
    intro x hx
    simp only [bst, bytesOf, List.mem_map] at hx
    obtain ⟨b, _, rfl⟩ := hx
    have := b.toNat_lt
    omega
  | succ i ih =>
    have ih := ih (by omega)
    simp only [bst]
    split
    · intro x hx
      simp only [flip] at hx
      rcases List.mem_or_eq_of_mem_set hx with h | h
      · exact ih x h
      · have hq : ((f + (i : Int)) / 8).toNat < (bst s f mask i).1.length := by rw [bst_len]; omega
        have hc := ih ((bst s f mask i).1.getD ((f + (i : Int)) / 8).toNat 0) (by rw [List.getD_eq_getElem?_getD, List.getElem?_eq_getElem hq]; exact List.getElem_mem hq)
        obtain ⟨n, hn⟩ := Int.eq_ofNat_of_zero_le hc.1
        rw [h, hn]
        exact (xor8 n (by omega) _ (by omega)).2
    · exact ih
theorem bit_add (mask : Int) (h0 : 0 ≤ mask) (h1 : mask ≤ 4294967295) (i : Nat) (hi : i < 32) :
    (Go.bits .and .u32 (mask / 2 ^ i) 1 = 1 → U (mask % 2 ^ (i + 1)) = U (mask % 2 ^ i) ^^^ 1#32 <<< i ∧ mask % 2 ^ (i + 1) ≠ 0) ∧ (¬ Go.bits .and .u32 (mask / 2 ^ i) 1 = 1 → mask % 2 ^ (i + 1) = mask % 2 ^ i) := by
  obtain ⟨m, rfl⟩ := Int.eq_ofNat_of_zero_le h0
  have hp : (2 : Int) ^ i = ((2 ^ i : Nat) : Int) := by simp
  have hp1 : (2 : Int) ^ (i + 1) = ((2 ^ (i + 1) : Nat) : Int) := by simp
  have hb : Go.bits .and .u32 ((m : Int) / 2 ^ i) 1 = ((m / 2 ^ i % 2 : Nat) : Int) := by
    rw [hp, ← Int.natCast_ediv, and_eq]
    have e1 : U 1 = 1#32 := by decide
    rw [e1]
    unfold I U
    rw [BitVec.ofInt_natCast, BitVec.toNat_and, BitVec.toNat_ofNat]
    have e2 : (1#32 : B).toNat = 1 := by decide
    have hle : m / 2 ^ i ≤ m := Nat.div_le_self _ _
    rw [e2, Nat.and_one_is_mod, Nat.mod_eq_of_lt (a := m / 2 ^ i) (by omega)]
  have hm : m % 2 ^ (i + 1) = m % 2 ^ i + 2 ^ i * (m / 2 ^ i % 2) := by rw [Nat.pow_succ, Nat.mod_mul]
  have hpos : 0 < 2 ^ i := Nat.two_pow_pos i
  rw [hb, hp, hp1, ← Int.natCast_emod, ← Int.natCast_emod]
  refine ⟨fun h => ?_, fun h => ?_⟩
  · have h1 : m / 2 ^ i % 2 = 1 := by omega
    rw [h1, Nat.mul_one] at hm
    refine ⟨?_, by rw [hm]; omega⟩
    rw [hm]
    unfold U
    rw [BitVec.ofInt_natCast, BitVec.ofInt_natCast]
    apply BitVec.eq_of_toNat_eq
    have hlt : m % 2 ^ i < 2 ^ i := Nat.mod_lt _ hpos
    have h32 : 2 ^ i ≤ 2 ^ 31 := Nat.pow_le_pow_right (by decide) (by omega)
    have e1 : (1#32 : B).toNat = 1 := by decide
    rw [BitVec.toNat_xor, BitVec.toNat_ofNat, BitVec.toNat_ofNat, BitVec.toNat_shiftLeft, Nat.shiftLeft_eq, e1, Nat.one_mul, Nat.mod_eq_of_lt (b := 2 ^ 32) (by omega), Nat.mod_eq_of_lt (b := 2 ^ 32) (by omega), Nat.mod_eq_of_lt (a := 2 ^ i) (by omega)]
    apply Nat.eq_of_testBit_eq
    intro j
    rw [Nat.testBit_xor]
    have hadd := Nat.testBit_two_pow_mul_add 1 hlt j
    rw [Nat.mul_one, Nat.add_comm] at hadd
    rw [hadd, Nat.testBit_two_pow]
    by_cases hj : j < i
    · rw [if_pos hj]
      have : ¬ i = j := by omega
      simp [this]
    · rw [if_neg hj]
      have hz : (m % 2 ^ i).testBit j = false := Nat.testBit_lt_two_pow (Nat.lt_of_lt_of_le hlt (Nat.pow_le_pow_right (by decide) (by omega)))
      rw [hz]
      by_cases hji : i = j
      · subst hji; simp
      · have : ¬ j - i = 0 := by omega
        obtain ⟨k, hk⟩ : ∃ k, j - i = k + 1 := ⟨j - i - 1, by omega⟩
        have h1 : Nat.testBit 1 (j - i) = false := by rw [hk, Nat.testBit_succ]; simp
        rw [h1]
        simp [hji]
  · have h1 : m / 2 ^ i % 2 = 0 := by
      have : m / 2 ^ i % 2 < 2 := Nat.mod_lt _ (by decide)
      omega
    rw [hm, h1]
    simp
theorem burst_eq (s : ByteArray) (f mask : Int) (hs : s.size ≤ 2000) (hf : 0 ≤ f) (h0 : 0 ≤ mask) (h1 : mask ≤ 4294967295) (i : Nat) : i ≤ 32 → f + i ≤ 8 * (s.size : Int) →
    runB Ff ((bst s f mask i).1.map U) = runB Ff (bs s) ^^^ it hv (8 * s.size - f.toNat) (U (mask % 2 ^ i)) ∧ (bst s f mask i).2 = decide (mask % 2 ^ i ≠ 0) := by
  induction i with
  | zero =>
    intro _ _
    have e : mask % 2 ^ 0 = 0 := by simp
    rw [e, U0, (lin_hv.it _).zero, BitVec.xor_zero]
    exact ⟨rfl, rfl⟩
  | succ i ih =>
    intro hi hfi
    obtain ⟨ih1, ih2⟩ := ih (by omega) (by omega)
    obtain ⟨b1, b2⟩ := bit_add mask h0 h1 i (by omega)
    simp only [bst]
    by_cases hb : Go.bits .and .u32 (mask / 2 ^ i) 1 = 1
    · obtain ⟨c1, c2⟩ := b1 hb
      rw [if_pos hb]
      refine ⟨?_, by simp [c2]⟩
      simp only [flip]
      have hq : ((f + (i : Int)) / 8).toNat < (bst s f mask i).1.length := by rw [bst_len]; omega
      rw [run_flip _ _ _ hq (by omega) (bst_range s f mask i hf (by omega)), ih1, c1, (lin_hv.it _).xor, bst_len, BitVec.xor_assoc]
      congr 2
      have e : 8 * s.size - f.toNat = i + (8 * s.size - (8 * ((f + (i : Int)) / 8).toNat + ((f + (i : Int)) % 8).toNat)) := by omega
      rw [e, it_add hv i]
      have h1 := shl_one i 0 (by omega)
      rw [Nat.add_zero] at h1
      rw [h1]
      rfl
    · rw [if_neg hb, ih1, b2 hb]
      exact ⟨rfl, by rw [ih2]⟩
theorem burst_law (s : ByteArray) (f mask : Int) (i : Nat) (hs : (s.size : Int) ≤ 2000) (hf : 0 ≤ f) (h0 : 0 ≤ mask) (h1 : mask ≤ 4294967295) (hi : i ≤ 32) (hfi : f + i ≤ 8 * (s.size : Int)) :
    ∃ v v', crc_Sum.f 30 [strOfNums (bst s f mask i).1] = some v ∧ crc_Sum.f 30 [s] = some v' ∧ (if (bst s f mask i).2 = true then v ≠ v' else v = v') := by
  obtain ⟨e1, e2⟩ := burst_eq s f mask (by omega) hf h0 h1 i hi hfi
  refine ⟨_, _, Sum_one _ (by rw [strOfNums_size, bst_len]; omega) 30 (by omega), Sum_one s (by omega) 30 (by omega), ?_⟩
  have hb : sm (strOfNums (bst s f mask i).1) = sm s ^^^ it hv (8 * s.size - f.toNat) (U (mask % 2 ^ i)) := by
    unfold sm
    have : bs (strOfNums (bst s f mask i).1) = (bst s f mask i).1.map U := by
      unfold bs
      rw [bytes_str _ (bst_range s f mask i hf hfi)]
    rw [this, e1]
    generalize runB Ff (bs s) = a
    generalize it hv (8 * s.size - f.toNat) (U (mask % 2 ^ i)) = b
    rw [BitVec.xor_assoc, BitVec.xor_comm b, ← BitVec.xor_assoc]
  rw [hb, e2]
  by_cases hz : mask % 2 ^ i = 0
  · rw [hz, U0, (lin_hv.it _).zero, BitVec.xor_zero]
    simp
  · rw [if_pos (by simpa using hz)]
    intro h
    have h := I_inj h
    have hx : it hv (8 * s.size - f.toNat) (U (mask % 2 ^ i)) = 0#32 := by
      have := congrArg (fun b => sm s ^^^ b) h
      simpa [← BitVec.xor_assoc] using this
    have hx := it_zero _ _ hx
    have hp : (2 : Int) ^ i ≤ 4294967296 := by
      have : ∀ j, j ≤ 32 → (2 : Int) ^ j ≤ 4294967296 := by decide
      exact this i hi
    have hpos : (0 : Int) < 2 ^ i := Int.pow_pos (by decide)
    have hI := I_U (mask % 2 ^ i) (Int.emod_nonneg _ (by omega)) (by have := Int.emod_lt_of_pos mask hpos; omega)
    rw [hx] at hI
    exact hz (by rw [← hI]; decide)
set_option maxHeartbeats 8000000 in
set_option maxRecDepth 100000 in
theorem burst_calls (s : ByteArray) (a mask : Int) (w : World) (h0 : s.size ≠ 0) (hs : s.size ≤ 2000) (hm0 : 0 ≤ mask) (hm1 : mask ≤ 4294967295) (ha0 : -9223372036854775808 ≤ a) (ha1 : a ≤ 9223372036854775807) :
    Calls Try.prog 6 #[.string s, .int .i64 a, .int .u32 mask] w fun e w' => e = .returned (.bool true) ∧ Below w.heap.size w w' := by
  have d1 : decide (2000 < (s.size : Int)) = false := decide_eq_false (by omega)
  have d1' : decide (2000 < s.size) = false := decide_eq_false (by omega)
  have hne : s.toList.isEmpty = false := by
    rw [List.isEmpty_eq_false_iff]
    intro h
    apply h0
    have := congrArg List.length h
    simpa [ByteArray.toList_eq] using this
  have hne2 : ¬ s.toList = [] := by
    intro h; rw [h] at hne; simp at hne
  have kb := fun W => print_bytes (P := Try.prog) 9 38 5 Try.underlying9 Try.underlying38 Try.underlying5 s W
  have HA := Aside0.mk (And.intro ha0 ha1)
  have hs1 : (1 : Int) ≤ s.size := by omega
  have hs2 : (s.size : Int) ≤ 2000 := by omega
  clear ha0 ha1 h0 hs
  go_enter Try.func6, Try.ntmps6
  go_wp2
  have HBY := Aside0.mk (Byt.new w s)
  have HB := Aside0.mk (bytes_below (Below.refl w.heap.size w) (Nat.le_refl _) 5 s)
  generalize Lib.bytesWorld w 5 s = W at HBY HB ⊢
  generalize grownCap w s.size 0 5 = cp at ⊢
  obtain ⟨g, hg⟩ : ∃ g, w.heap.size = g := ⟨_, rfl⟩
  simp only [hg]
  rw [hg] at HBY
  have HG := Aside0.mk (show w.heap.size ≤ g from by omega)
  obtain ⟨f, hf⟩ : ∃ f, (wrap64 (a.tmod (8 * (s.size : Int)) + 8 * (s.size : Int))).tmod (8 * (s.size : Int)) = f := ⟨_, rfl⟩
  have hf0 : 0 ≤ f ∧ f < 8 * (s.size : Int) := by
    have hp : 0 < 8 * (s.size : Int) := by omega
    have q1 := Int.lt_tmod_of_pos a hp
    have q2 := Int.tmod_lt_of_pos a hp
    have e1 : wrap64 (a.tmod (8 * (s.size : Int)) + 8 * (s.size : Int)) = a.tmod (8 * (s.size : Int)) + 8 * (s.size : Int) := by unfold wrap64; omega
    rw [e1, Int.tmod_eq_emod_of_nonneg (by omega)] at hf
    rw [← hf]
    exact ⟨Int.emod_nonneg _ (by omega), Int.emod_lt_of_pos _ hp⟩
  simp only [hf]
  obtain ⟨hf0, hf1⟩ := hf0
  clear hg hf kb
  go_loopg [9, 10] 33 (fun kq v9 v10 w' => ∃ (i : Nat), v9 = .bool (bst s f mask i).2 ∧ v10 = .int .i64 i ∧ Aside0 (i + kq = 33 ∧ i ≤ 32 ∧ f + i ≤ 8 * (s.size : Int)) ∧ Aside0 (Byt w' g (bst s f mask i).1) ∧ Aside0 (Below w.heap.size w w'))
  case atStart => exact ⟨0, rfl, rfl, ⟨by omega, by omega, by simp; omega⟩, HBY, HB⟩
  case round =>
    clear HBY HB
    obtain ⟨i, rfl, rfl, HI, HBY, HB⟩ := hrel
    by_cases hlt : i < 32
    · by_cases hfi : f + i < 8 * (s.size : Int)
      · obtain ⟨k1, rfl⟩ : ∃ k1, gk = k1 + 1 := ⟨gk - 1, by have := HI.out; omega⟩
        have h00 : (0 : Int) ≤ (i : Int) := by omega
        have h32 : (i : Int) < 32 := by omega
        by_cases hb : Go.bits .and .u32 (mask / 2 ^ i) 1 = 1
        · have hb1 : (Go.bits .and .u32 (mask / 2 ^ i) 1 == 1) = true := by simpa using hb
          have HL : Aside0 ((bst s f mask i).1.length = s.size) := ⟨bst_len s f mask i⟩
          obtain ⟨q, hq⟩ : ∃ q : Nat, (f + (i : Int)) / 8 = q := ⟨((f + (i : Int)) / 8).toNat, by omega⟩
          have hq8 : (q : Int) < s.size := by omega
          have hq9 : q < s.size := by omega
          have hc := HBY.out.cell q (by rw [HL.out]; exact hq9)
          have hl := HBY.out.live q (by rw [HL.out]; exact hq9)
          obtain ⟨r, hr⟩ : ∃ r : Nat, (f + (i : Int)) % 8 = r := ⟨((f + (i : Int)) % 8).toNat, by omega⟩
          have hr8 : (r : Int) < 8 := by omega
          have hbst : bst s f mask (i + 1) = (flip (bst s f mask i).1 (f + i), true) := by rw [bst, if_pos hb]
          have hfl : flip (bst s f mask i).1 (f + i) = (bst s f mask i).1.set q (Go.bits .xor .u8 ((bst s f mask i).1.getD q 0) (2 ^ r % 256)) := by
            unfold flip
            rw [hq, hr, Int.toNat_natCast, Int.toNat_natCast]
          rw [hfl] at hbst
          have HBS := Aside0.mk hbst
          clear hbst hfl
          go_wp2
          go_roundg k1
          case measure => omega
          case rel =>
            exact ⟨i + 1, by rw [HBS.out], by go_num, ⟨by have := HI.out; omega, by omega, by omega⟩, ⟨by rw [HBS.out]; exact HBY.out.set q (by rw [HL.out]; exact hq9) _⟩, ⟨HB.out.setCell HG.out _⟩⟩
        · have hb1 : (Go.bits .and .u32 (mask / 2 ^ i) 1 == 1) = false := by simpa using hb
          have hbst : bst s f mask (i + 1) = bst s f mask i := by rw [bst, if_neg hb]
          have HBS := Aside0.mk hbst
          clear hbst
          go_wp2
          go_roundg k1
          case measure => omega
          case rel =>
            exact ⟨i + 1, by rw [HBS.out], by go_num, ⟨by have := HI.out; omega, by omega, by omega⟩, ⟨by rw [HBS.out]; exact HBY.out⟩, HB⟩
      · have hfi2 : decide (f + (i : Int) < 8 * (s.size : Int)) = false := decide_eq_false hfi
        have hi2 : decide ((i : Int) < 32) = true := decide_eq_true (by omega)
        have h32 : (i : Int) < 32 := by omega
        have h00 : (0 : Int) ≤ (i : Int) := by omega
        have HW2 := Aside0.mk (burst_law s f mask i hs2 hf0 hm0 hm1 HI.out.2.1 HI.out.2.2)
        have HLL := Aside0.mk (bst_len s f mask i)
        clear hfi hlt HI
        generalize (bst s f mask i).1 = l at HBY HW2 HLL
        generalize (bst s f mask i).2 = tn at HW2 ⊢
        obtain ⟨v, v', S1, S2, hv⟩ := HW2.out
        have S1 := Aside0.mk S1
        have S2 := Aside0.mk S2
        have hconv : (convert 38 9 (.slice (some ⟨g, 0, none⟩) s.size cp)).run Try.prog wr = .ok (.string (strOfNums l)) wr :=
          run_convert_bytes_arg wr 38 5 Try.underlying38 Try.underlying5 g 0 s.size cp l HLL.out (fun j hj => by rw [Nat.zero_add]; exact HBY.out.cell j (by rw [HLL.out]; exact hj)) 9 Try.underlying9
        clear HW2 HLL
        have hcmp : (tn = true ∧ (v != v') = true) ∨ (tn = false ∧ v = v') := by
          cases tn with
          | true => rw [if_pos rfl] at hv; exact .inl ⟨rfl, by simpa using hv⟩
          | false => rw [if_neg (by decide)] at hv; exact .inr ⟨rfl, hv⟩
        clear hv
        rcases hcmp with ⟨rfl, hv⟩ | ⟨rfl, rfl⟩
        all_goals
          go_wp2_with fail
          refine (sum1 (strOfNums l) _ _ S1.out).mono ?_
          rintro e w1 ⟨rfl, hb1⟩
          go_wp2_with fail
          refine (sum1 s _ _ S2.out).mono ?_
          rintro e w2 ⟨rfl, hb2⟩
          go_wp2_with fail
          refine (binderylaw04_sums.calls true _ rfl).mono ?_
          rintro e w3 ⟨rfl, hb3⟩
          go_wp2_with fail
          go_ret
          have a0 := HB.out.alloc HB.out.size (.cells #[.string (strOfNums l)] 9)
          have t1 := below_then a0 a0.size hb1
          have a1 := below_alloc t1 (.cells #[.string s] 9)
          have t2 := below_then a1 a1.size hb2
          have t3 := below_then t2 t2.size hb3
          exact ⟨rfl, t3⟩
    · have hi2 : decide ((i : Int) < 32) = false := decide_eq_false (by omega)
      have HW2 := Aside0.mk (burst_law s f mask i hs2 hf0 hm0 hm1 HI.out.2.1 HI.out.2.2)
      have HLL := Aside0.mk (bst_len s f mask i)
      clear hlt HI
      generalize (bst s f mask i).1 = l at HBY HW2 HLL
      generalize (bst s f mask i).2 = tn at HW2 ⊢
      obtain ⟨v, v', S1, S2, hv⟩ := HW2.out
      have S1 := Aside0.mk S1
      have S2 := Aside0.mk S2
      have hconv : (convert 38 9 (.slice (some ⟨g, 0, none⟩) s.size cp)).run Try.prog wr = .ok (.string (strOfNums l)) wr :=
        run_convert_bytes_arg wr 38 5 Try.underlying38 Try.underlying5 g 0 s.size cp l HLL.out (fun j hj => by rw [Nat.zero_add]; exact HBY.out.cell j (by rw [HLL.out]; exact hj)) 9 Try.underlying9
      clear HW2 HLL
      have hcmp : (tn = true ∧ (v != v') = true) ∨ (tn = false ∧ v = v') := by
        cases tn with
        | true => rw [if_pos rfl] at hv; exact .inl ⟨rfl, by simpa using hv⟩
        | false => rw [if_neg (by decide)] at hv; exact .inr ⟨rfl, hv⟩
      clear hv
      rcases hcmp with ⟨rfl, hv⟩ | ⟨rfl, rfl⟩
      all_goals
        go_wp2_with fail
        refine (sum1 (strOfNums l) _ _ S1.out).mono ?_
        rintro e w1 ⟨rfl, hb1⟩
        go_wp2_with fail
        refine (sum1 s _ _ S2.out).mono ?_
        rintro e w2 ⟨rfl, hb2⟩
        go_wp2_with fail
        refine (binderylaw04_sums.calls true _ rfl).mono ?_
        rintro e w3 ⟨rfl, hb3⟩
        go_wp2_with fail
        go_ret
        have a0 := HB.out.alloc HB.out.size (.cells #[.string (strOfNums l)] 9)
        have t1 := below_then a0 a0.size hb1
        have a1 := below_alloc t1 (.cells #[.string s] 9)
        have t2 := below_then a1 a1.size hb2
        have t3 := below_then t2 t2.size hb3
        exact ⟨rfl, t3⟩
set_option maxHeartbeats 4000000 in
set_option maxRecDepth 100000 in
theorem burst_all (s : ByteArray) (a mask : Int) (w : World) (hs : s.size ≤ 140737488351232) (ha : (Lit.int .i64 a).wf = true) (hm : (Lit.int .u32 mask).wf = true) :
    Calls Try.prog 6 #[.string s, .int .i64 a, .int .u32 mask] w fun e w' => e = .returned (.bool true) ∧ Below w.heap.size w w' := by
  have hb := bounds_u32 hm
  have hb2 := bounds_i64 ha
  by_cases h1 : s.size ≤ 2000
  · by_cases h0 : s.size = 0
    · have d1 : decide (2000 < (s.size : Int)) = false := decide_eq_false (by omega)
      have d1' : decide (2000 < s.size) = false := decide_eq_false (by omega)
      have hl : s.toList = [] := by
        have h := data_length s
        rw [h0] at h
        rw [ByteArray.toList_eq]
        exact List.eq_nil_of_length_eq_zero h
      have he : s.toList.isEmpty = true := by rw [hl]; rfl
      clear hs ha hm hb hb2 h1 h0
      go_enter Try.func6, Try.ntmps6
      go_wp2_with (go_at_call 7; refine (binderylaw04_sums.calls true _ rfl).mono ?_; rintro e w12 ⟨rfl, hb12⟩)
      go_ret
      exact ⟨rfl, hb12⟩
    · exact burst_calls s a mask w h0 h1 hb.1 hb.2 hb2.1 hb2.2
  · have d1 : decide (2000 < (s.size : Int)) = true := decide_eq_true (by omega)
    have d1' : decide (2000 < s.size) = true := decide_eq_true (by omega)
    clear hs ha hm hb hb2 h1
    go_enter Try.func6, Try.ntmps6
    go_wp2_with (go_at_call 7; refine (binderylaw04_sums.calls true _ rfl).mono ?_; rintro e w12 ⟨rfl, hb12⟩)
    go_ret
    exact ⟨rfl, hb12⟩
end Go.Proofs.Ytncfjogmggofgaa.J
