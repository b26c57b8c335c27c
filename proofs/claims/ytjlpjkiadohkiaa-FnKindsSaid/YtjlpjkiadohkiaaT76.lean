import Derived.Test.YtjlpjkiadohkiaaT70
import Derived.Test.YtjlpjkiadohkiaaT71
import Derived.Test.YtjlpjkiadohkiaaHs
import Derived.Test.YtjlpjkiadohkiaaT79
set_option linter.unusedSimpArgs false
set_option linter.unusedVariables false
set_option maxHeartbeats 2000000
namespace Go.Proofs.Ytjlpjkiadohkiaa
open Go Go.Ab
attribute [local irreducible] aol
attribute [local irreducible] popN


theorem cut_ex {n : Int} {rs : List (List Value)} (h : edgV n rs = true) {s i k : Nat} (hik : i ≠ k) (h1 : Nat.testBit s i = false) (h2 : Nat.testBit s k = false) :
    ∀ j, j ≤ rs.length → cutX rs (s ||| 2 ^ i ||| 2 ^ k) j + cutX rs s j ≤ cutX rs (s ||| 2 ^ i) j + cutX rs (s ||| 2 ^ k) j
  | 0, _ => by simp [cutX]
  | j + 1, hj => by
    have ih := cut_ex h hik h1 h2 j (by omega)
    have hw := (edg_at h (i := j) (by omega)).2.2.2
    unfold cutX
    generalize (cellI rs j 0).toNat = a
    generalize (cellI rs j 1).toNat = b
    generalize cellI rs j 2 = w at hw
    simp only [bit_or]
    have x1 : i = a → Nat.testBit s a = false := fun e => e ▸ h1
    have x2 : k = a → Nat.testBit s a = false := fun e => e ▸ h2
    have y1 : i = b → Nat.testBit s b = false := fun e => e ▸ h1
    have y2 : k = b → Nat.testBit s b = false := fun e => e ▸ h2
    by_cases e1 : i = a <;> by_cases e2 : k = a <;> by_cases e3 : i = b <;> by_cases e4 : k = b <;> first
      | omega
      | (cases hp : Nat.testBit s a <;> cases hq : Nat.testBit s b <;> simp_all <;> omega)
theorem dc_ex {n : Int} {rs : List (List Value)} (h : edgV n rs = true) {s i k : Nat} (hik : i ≠ k) (h1 : Nat.testBit s i = false) (h2 : Nat.testBit s k = false) :
    ∀ j, j ≤ rs.length → dcX rs (s ||| 2 ^ i ||| 2 ^ k) j + dcX rs s j ≤ dcX rs (s ||| 2 ^ i) j + dcX rs (s ||| 2 ^ k) j
  | 0, _ => by simp [dcX]
  | j + 1, hj => by
    have ih := dc_ex h hik h1 h2 j (by omega)
    have hw := (edg_at h (i := j) (by omega)).2.2.2
    unfold dcX
    generalize (cellI rs j 0).toNat = a
    generalize (cellI rs j 1).toNat = b
    generalize cellI rs j 2 = w at hw
    simp only [bit_or]
    have x1 : i = a → Nat.testBit s a = false := fun e => e ▸ h1
    have x2 : k = a → Nat.testBit s a = false := fun e => e ▸ h2
    have y1 : i = b → Nat.testBit s b = false := fun e => e ▸ h1
    have y2 : k = b → Nat.testBit s b = false := fun e => e ▸ h2
    by_cases e1 : i = a <;> by_cases e2 : k = a <;> by_cases e3 : i = b <;> by_cases e4 : k = b <;> first
      | omega
      | (cases hp : Nat.testBit s a <;> cases hq : Nat.testBit s b <;> simp_all <;> omega)
theorem and_or0 (s t a : Nat) : (s ||| t) &&& a = 0 ↔ s &&& a = 0 ∧ t &&& a = 0 := by
  rw [Nat.and_or_distrib_right, Nat.or_eq_zero_iff]
theorem cv_ex {n : Int} {rs : List (List Value)} (h : cvOk n rs = true) {s i k : Nat} :
    ∀ j, j ≤ rs.length → cvX rs (s ||| 2 ^ i ||| 2 ^ k) j + cvX rs s j ≤ cvX rs (s ||| 2 ^ i) j + cvX rs (s ||| 2 ^ k) j ∧ cvX rs s j ≤ cvX rs (s ||| 2 ^ i) j ∧ cvX rs 0 j = 0
  | 0, _ => by simp [cvX]
  | j + 1, hj => by
    have ih := cv_ex h (s := s) (i := i) (k := k) j (by omega)
    have hw := ((cvOk_iff.1 h).2.2 j (by omega)).2
    unfold cvX
    generalize (cellI rs j 0).toNat = a
    generalize cellI rs j 1 = w at hw
    simp only [and_or0]
    have hz : (0 : Nat) &&& a = 0 := Nat.zero_and a
    by_cases e1 : s &&& a = 0 <;> by_cases e2 : 2 ^ i &&& a = 0 <;> by_cases e3 : 2 ^ k &&& a = 0 <;> simp [e1, e2, e3, hz] <;> omega
theorem cut_subV {n : Int} {rs : List (List Value)} (h : cutOk n rs = true) : subV n (cutL rs (2 ^ n.toNat)) = true := by
  unfold cutOk at h
  rw [Bool.and_eq_true, inR_iff] at h
  have hf := cutF_fn h.1 h.2
  rw [← mkL_cut] at hf ⊢
  refine sub_mk hf fun s i k _ hik _ h1 h2 => ?_
  unfold cuV; simp only [Int.toNat_natCast]
  exact cut_ex h.2 (by omega) h1 h2 _ (Nat.le_refl _)
theorem dc_subV {n : Int} {rs : List (List Value)} (h : cutOk n rs = true) : subV n (dcL rs (2 ^ n.toNat)) = true := by
  unfold cutOk at h
  rw [Bool.and_eq_true, inR_iff] at h
  have hf := dcF_fn h.1 h.2
  rw [← mkL_dc] at hf ⊢
  refine sub_mk hf fun s i k _ hik _ h1 h2 => ?_
  unfold dcV; simp only [Int.toNat_natCast]
  exact dc_ex h.2 (by omega) h1 h2 _ (Nat.le_refl _)
theorem compl_all : ((List.range 6).all fun n => (List.range 32).all fun s => !decide (s < 2 ^ n) || (List.range n).all fun a => Nat.testBit (2 ^ n - 1 - s) a == !Nat.testBit s a) = true := by kernel_rfl
theorem compl_bit {n s a : Nat} (hn : n ≤ 5) (hs : s < 2 ^ n) (ha : a < n) : Nat.testBit (2 ^ n - 1 - s) a = !Nat.testBit s a := by
  have h32 : 2 ^ n ≤ 32 := Nat.le_trans (Nat.pow_le_pow_right (by omega) hn) (by decide)
  have := List.all_eq_true.1 (List.all_eq_true.1 compl_all n (List.mem_range.2 (by omega))) s (List.mem_range.2 (by omega))
  rw [decide_eq_true hs, Bool.not_true, Bool.false_or] at this
  exact eq_of_beq (List.all_eq_true.1 this a (List.mem_range.2 ha))
theorem cut_compl {n : Int} {rs : List (List Value)} (h : edgV n rs = true) (hn : n.toNat ≤ 5) {s : Nat} (hs : s < 2 ^ n.toNat) : ∀ j, j ≤ rs.length → cutX rs (2 ^ n.toNat - 1 - s) j = cutX rs s j
  | 0, _ => rfl
  | j + 1, hj => by
    have ih := cut_compl h hn hs j (by omega)
    have hw := edg_at h (i := j) (by omega)
    unfold cutX
    rw [ih, compl_bit hn hs (by omega), compl_bit hn hs (by omega)]
    cases Nat.testBit s (cellI rs j 0).toNat <;> cases Nat.testBit s (cellI rs j 1).toNat <;> rfl
theorem cut_symV {n : Int} {rs : List (List Value)} (h : cutOk n rs = true) : symV n (cutL rs (2 ^ n.toNat)) = true := by
  unfold cutOk at h
  rw [Bool.and_eq_true, inR_iff] at h
  have hf := cutF_fn h.1 h.2
  unfold symV
  rw [hf, Bool.true_and, decide_eq_true_eq]
  unfold opL
  rw [← mkL_cut]
  refine mkL_congr fun k hk => ?_
  have hk1 := Nat.one_le_two_pow (n := n.toNat)
  unfold opF
  rw [Int.toNat_natCast]
  have e : cbF n - k < 2 ^ n.toNat := by unfold cbF; omega
  rw [mkL_get e]
  unfold cuV
  rw [Int.toNat_natCast, Int.toNat_natCast]
  exact (cut_compl h.2 (by omega) hk _ (Nat.le_refl _)).symm
theorem cv_polV {n : Int} {rs : List (List Value)} (h : cvOk n rs = true) : polV n (mkL (cvV rs) (2 ^ n.toNat)) = true := by
  have hf := cv_fn h
  refine pol_mk hf ?_ (fun s i _ _ => ?_) (sub_mk hf fun s i k _ _ _ _ _ => ?_)
  · exact (cv_ex h (s := 0) (i := 0) (k := 0) rs.length (Nat.le_refl _)).2.2
  · unfold cvV; simp only [Int.toNat_natCast]
    exact (cv_ex h (s := s) (i := i) (k := 0) rs.length (Nat.le_refl _)).2.1
  · unfold cvV; simp only [Int.toNat_natCast]
    exact (cv_ex h (s := s) (i := i) (k := k) rs.length (Nat.le_refl _)).1
end Go.Proofs.Ytjlpjkiadohkiaa
