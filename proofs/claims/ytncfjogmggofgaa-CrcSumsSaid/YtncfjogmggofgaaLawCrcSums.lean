/- The statement CrcSums as given, for every input, without conditions: which sum any texts have: the program, of the texts and of them all in one, tells what the document's answer tells. -/
import Derived.Test.YtncfjogmggofgaaRows
import Derived.Test.YtncfjogmggofgaaQx2
import Derived.Test.YtncfjogmggofgaaHb
import Derived.WalkKit
import Derived.ProofKit
import Derived.OpenShut
import Derived.ShutString
import Derived.ChangeOld
import Derived.Below
import Derived.SizedLaws
import Derived.SliceStrings
import Derived.Test.YtncfjogmggofgaaWSized
namespace Go.Proofs.Ytncfjogmggofgaa.crcSums
open Go.ChangeShapes Go.WideShapes Go.ChangeAt Go.RowKit Go.Proofs.YtncfjogmggofgaaW.PrintWords Go.Proofs.YtncfjogmggofgaaW.PrintLast
open Go.ChangeMaps (open_string shut_string)
open Go.Proofs.Ytncfjogmggofgaa.Q Go.Proofs.Ytncfjogmggofgaa.H Go.Proofs.Ytncfjogmggofgaa.G
set_option linter.unusedVariables false
set_option linter.unusedSimpArgs false

/-! ### the plain law -/
def rdS (l : List ByteArray) (i : Int) : ByteArray := rdOf ByteArray.empty l i
theorem drop_strs (l : List ByteArray) (i : Int) (h0 : 0 ≤ i) (h1 : i < l.length) : l.drop i.toNat = rdOf ByteArray.empty l i :: l.drop (i + 1).toNat := by
  have hl : i.toNat < l.length := by omega
  rw [List.drop_eq_getElem_cons hl]
  have e : (i + 1).toNat = i.toNat + 1 := by omega
  rw [e]
  unfold rdOf
  rw [List.getD_eq_getElem?_getD, List.getElem?_eq_getElem hl]
  rfl
def catB (l : List ByteArray) : List B := (l.map bs).flatten
theorem Sum_l0 (l : List ByteArray) (hl : l.length ≤ 20) (hs : ∀ s ∈ l, s.size ≤ 2000) (d : Nat) : ∀ (k : Nat) (x i : Int), 0 ≤ x → x < 4294967296 → 0 ≤ i → (l.length : Int) - i = d → d < k →
    crc_Sum.l0 k x l l.length i = some (I (runB (U x) (catB (l.drop i.toNat)) ^^^ Ff)) := by
  induction d with
  | zero =>
    intro k x i h0 h1 hi hd hk
    obtain ⟨k, rfl⟩ : ∃ m, k = m + 1 := ⟨k - 1, by omega⟩
    rw [List.drop_of_length_le (by omega)]
    simp only [crc_Sum.l0]
    rw [if_neg (by omega), xor_eq, wrap_I, max_eq, BitVec.xor_comm]
    rfl
  | succ d ih =>
    intro k x i h0 h1 hi hd hk
    obtain ⟨k, rfl⟩ : ∃ m, k = m + 1 := ⟨k - 1, by omega⟩
    have hlt : i < l.length := by omega
    have hd2 := drop_strs l i hi hlt
    have hsz : (rdOf ByteArray.empty l i).size ≤ 2000 := hs _ (List.mem_of_mem_drop (i := i.toNat) (by rw [hd2]; simp))
    rw [hd2]
    simp only [crc_Sum.l0]
    have e : wrap64 (i + 1) = i + 1 := by unfold wrap64; omega
    rw [if_pos hlt, if_pos hi, if_pos hlt, crun_eq x _ (by omega) h0 h1, e]
    simp only [Option.bind_some]
    have r := I_range (runB (U x) (bs (rdOf ByteArray.empty l i)))
    rw [ih k _ (i + 1) r.1 r.2 (by omega) (by omega) (by omega), U_I]
    unfold catB
    rw [List.map_cons, List.flatten_cons, runB_append]
theorem Sum_eq (l : List ByteArray) (hl : l.length ≤ 20) (hs : ∀ s ∈ l, s.size ≤ 2000) (k : Nat) (hk : 30 ≤ k) : crc_Sum.f k l = some (I (runB Ff (catB l) ^^^ Ff)) := by
  unfold crc_Sum.f
  rw [Sum_l0 l hl hs l.length k 4294967295 0 (by omega) (by omega) (by omega) (by omega) (by omega)]
  rfl
theorem Sum_one (s : ByteArray) (hs : s.size ≤ 40000) (k : Nat) (hk : 30 ≤ k) : crc_Sum.f k [s] = some (I (runB Ff (bs s) ^^^ Ff)) := by
  obtain ⟨k, rfl⟩ : ∃ m, k = m + 1 + 1 := ⟨k - 2, by omega⟩
  unfold crc_Sum.f
  have hr : rdOf ByteArray.empty [s] 0 = s := rfl
  have e : wrap64 (0 + 1) = (1 : Int) := by unfold wrap64; omega
  simp only [crc_Sum.l0, List.length_cons, List.length_nil]
  rw [if_pos (by omega), if_pos (by omega), if_pos (by omega), hr, crun_eq _ s (by omega) (by omega) (by omega), e]
  simp only [Option.bind_some]
  rw [if_neg (by omega), xor_eq, wrap_I, U_I, max_eq, BitVec.xor_comm]
  rfl
theorem bs_append (s t : ByteArray) : bs (s ++ t) = bs s ++ bs t := by simp [bs, bytesOf]
theorem sums_l0 (l : List ByteArray) (hl : l.length ≤ 20) (d : Nat) : ∀ (k : Nat) (x : ByteArray) (i : Int), 0 ≤ i → (l.length : Int) - i = d → x.size + 2000 * d ≤ 40000 → 41000 + d ≤ k →
    (∀ s ∈ l.take i.toNat, s.size ≤ 2000) → bs x = catB (l.take i.toNat) → binderylaw04_CrcSums.l0 k l x i = some true := by
  induction d with
  | zero =>
    intro k x i hi hd hx hk hs hb
    obtain ⟨k, rfl⟩ : ∃ m, k = m + 1 := ⟨k - 1, by omega⟩
    rw [List.take_of_length_le (by omega)] at hs hb
    simp only [binderylaw04_CrcSums.l0]
    rw [if_neg (by omega), Sum_eq l hl hs k (by omega), refSum_eq x (by omega) k (by omega)]
    simp only [Option.bind_some]
    rw [hb, if_pos rfl, Sum_one x (by omega) k (by omega)]
    simp only [Option.bind_some]
    rw [hb, if_pos rfl]
    rfl
  | succ d ih =>
    intro k x i hi hd hx hk hs hb
    obtain ⟨k, rfl⟩ : ∃ m, k = m + 1 := ⟨k - 1, by omega⟩
    have hlt : i < l.length := by omega
    have e : wrap64 (i + 1) = i + 1 := by unfold wrap64; omega
    have hln : i.toNat < l.length := by omega
    have ht : l.take (i + 1).toNat = l.take i.toNat ++ [rdOf ByteArray.empty l i] := by
      have e1 : (i + 1).toNat = i.toNat + 1 := by omega
      rw [e1, List.take_succ_eq_append_getElem hln]
      unfold rdOf
      rw [List.getD_eq_getElem?_getD, List.getElem?_eq_getElem hln]
      rfl
    simp only [binderylaw04_CrcSums.l0]
    rw [if_pos hlt, if_pos hi]
    by_cases h2 : ((rdOf ByteArray.empty l i).size : Int) > 2000
    · rw [if_pos h2]; rfl
    · rw [if_neg h2, if_pos (by omega), e]
      refine ih k _ (i + 1) (by omega) (by omega) (by rw [ByteArray.size_append]; omega) (by omega) ?_ ?_
      · rw [ht]
        intro s hs2
        rcases List.mem_append.1 hs2 with h | h
        · exact hs s h
        · rw [List.mem_singleton.1 h]; omega
      · rw [ht, bs_append, hb]
        simp [catB]
theorem pure (l : List ByteArray) : binderylaw04_CrcSums.f 42000 l = some true := by
  unfold binderylaw04_CrcSums.f
  by_cases h : (l.length : Int) > 20
  · rw [if_pos h]; rfl
  · rw [if_neg h]
    exact sums_l0 l (by omega) l.length 42000 _ 0 (by omega) (by omega) (by show 0 + _ ≤ 40000; omega) (by omega) (by simp) rfl

/-! ### the row -/
theorem own : ownKnob Try.prog.godebug = none := by kernel_rfl
theorem laidOut : laidOutB Try.prog = true := by kernel_rfl
theorem reads_strs {w : World} {a : Addr} {len cap : Nat} {ss : List ByteArray} (hl : len ≤ cap) (hm : cap ≤ maxLen) (hz : ss.length = cap) (hc : ∀ i, i < ss.length → w.cell? (a.add i) = some (.string (ss.getD i ByteArray.empty))) :
    Kd.C Kd.string w (some a) (ss.take len).length (ss.take len) := by
  have e : (ss.take len).length = len := by rw [List.length_take]; omega
  refine ⟨rfl, by rw [e]; unfold maxLen at hm; omega, fun _ => ⟨a, rfl, fun j p hj => ⟨[.string p], rfl, rfl, fun i u hu => ?_⟩⟩⟩
  cases i with
  | succ i => simp at hu
  | zero =>
    obtain rfl : Value.string p = u := by simpa using hu
    have hjl : j < len := by
      have := (List.getElem?_eq_some_iff.1 hj).1
      rw [e] at this
      exact this
    have e1 : a.add (j * Kd.string.sz + 0) = a.add j := by simp [Kd.string, Kd.scalar]
    rw [e1, hc j (by omega)]
    rw [List.getElem?_take, if_pos hjl] at hj
    rw [List.getD_eq_getElem?_getD, hj]
    rfl
set_option maxRecDepth 100000 in
theorem lifted (os : Os) (started : os.Started) (H : Type) (enc : TypeId × Value → H) :
    ReturnsInHanded {} Try.checked os 3 .any (Rows.crcSumsSpec.pre6 enc Try.prog Try.f3 Rows.crcSumsRow.domain false) (Rows.crcSumsSpec.post enc Try.prog Try.f3 false true false false) := by
  refine returnsInHanded_of_change_sized (C := Try.checked) own started (by kernel_rfl) Try.func3
    (ChangeSpec.witness6 (enc := enc) (C := Try.checked) false ⟨#[], #[.slice none 0 0], []⟩ 8 (by kernel_rfl) (by kernel_rfl) (by kernel_rfl) (by kernel_rfl)) ?_
  intro W base args ds gs before hval0 hW hcnd hsz0 _
  have hval : ∀ (j : Nat) t v, Try.f3.params[j]? = some t → args[j]? = some v → Value.okWide Try.prog W .any base t v := hval0
  have hW' := hW
  obtain ⟨p, q, hA0, hV, rfl, hfz, hnd⟩ := hW
  have hA : DataW.TrodAll enc Try.prog W 0 (fun _ => true) true Try.f3.params.toList args.toList ds p := hA0
  rw [Try.params3] at hA hval
  obtain ⟨v0, vs0, d0, ds0, p0, q0, hargs, rfl, rfl, h0, r0⟩ := trodAll_cons hA
  obtain ⟨rfl, rfl, rfl⟩ := trodAll_nil r0
  obtain rfl : args = #[v0] := by cases args; simp_all
  obtain ⟨rfl, rfl⟩ := trodVars_none hV
  obtain ⟨a0, len0, cap0, rfl⟩ := okWide_slice Try.underlying22 (hval 0 22 v0 rfl rfl)
  have k0 := h0
  have lt0 : ∀ x ∈ p0, x.block < W.heap.size := by obtain ⟨m, hm⟩ := k0; exact DataW.trod_lt m _ _ _ hm
  obtain ⟨l, hl, hC, hcap⟩ : ∃ l : List ByteArray, l.length = len0 ∧ Kd.C Kd.string W a0 l.length l ∧ l.length ≤ cap0 := by
    obtain ⟨fuel, hf⟩ := h0
    rcases open_strings Try.underlying22 Try.underlying9 (by kernel_rfl) hf with ⟨hcs, _⟩ | ⟨x, l, c, ss, hcs, _, hl, hm, hz, _, hcell, _⟩
    · simp [Value.cells] at hcs
      obtain ⟨rfl, rfl, rfl⟩ := hcs
      exact ⟨[], rfl, Kd.C_nil _ _, Nat.le_refl _⟩
    · simp [Value.cells] at hcs
      obtain ⟨rfl, rfl, rfl⟩ := hcs
      have hz2 : ss.length = cap0 := by simpa using hz
      have e : (ss.take len0).length = len0 := by rw [List.length_take]; omega
      exact ⟨ss.take len0, e, reads_strs hl hm hz2 hcell, by omega⟩
  subst hl
  clear hA0 hval0 hsz0
  refine (Q.binderylaw04_CrcSums.calls 42000 a0 cap0 l true W hC hcap (pure l)).mono fun e W' ⟨he, bel⟩ => ?_
  subst he
  exact ⟨_, rfl, _, _, _, [], _, [], hW', trodAll_mk1 (shut_bool Try.underlying4 _), (trodAll_cons_mk (Below.trod laidOut (by kernel_rfl) (of_decide_eq_true (by kernel_rfl)) k0 bel lt0) trodAll_mk0), rfl, bel.frame _, fun h => by cases h⟩
theorem over : Rows.crcSumsRow.holds Try.pinned (OpenSpec.ofChange Rows.crcSumsSpec) :=
  OpenClaim.holds_of_wide 3 Try.f3 rfl rfl rfl rfl rfl rfl rfl ⟨rfl, rfl, rfl, rfl, rfl⟩ rfl rfl rfl rfl rfl (by kernel_rfl) Try.func3 (by kernel_rfl)
    (of_decide_eq_true (by kernel_rfl)) (by unfold Func.isWrapper; first | (rw [if_pos (by decide +kernel)]; kernel_rfl) | (rw [if_neg (by decide +kernel)]; exact ⟨rfl, rfl⟩))
    (fun os started H enc _ => lifted os started H enc)
theorem proved : Rows.CrcSumsSaid := over
#print axioms proved
end Go.Proofs.Ytncfjogmggofgaa.crcSums
namespace Go.Proofs.Ytncfjogmggofgaa
/-- The row, under a short name, for the claim. -/
theorem crcSums_holds : Rows.CrcSumsSaid := crcSums.proved
end Go.Proofs.Ytncfjogmggofgaa
