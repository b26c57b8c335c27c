import Derived.Test.YtjlpjkiadohkiaaT81
import Derived.Test.YtjlpjkiadohkiaaT37
import Derived.Test.YtjlpjkiadohkiaaT31
import Derived.Test.YtjlpjkiadohkiaaT83
import Derived.Test.YtjlpjkiadohkiaaHs
import Derived.Test.YtjlpjkiadohkiaaT61
set_option linter.unusedSimpArgs false
set_option linter.unusedVariables false
set_option maxHeartbeats 2000000
namespace Go.Proofs.Ytjlpjkiadohkiaa
open Go Go.Ab
attribute [local irreducible] aol
attribute [local irreducible] popN


theorem splV_spec (l l' : List Int) {s : Nat} (hs : s < 64) : ∀ k, k ≤ s → (∀ x, x ≤ k → x &&& s = x → splT l l' s (splV l l' s k) ≤ splT l l' s x) ∧ splV l l' s k &&& s = splV l l' s k
  | 0, _ => by
    refine ⟨fun x hx _ => ?_, Nat.zero_and s⟩
    obtain rfl : x = 0 := by omega
    exact Int.le_refl _
  | k + 1, hk => by
    obtain ⟨h1, h2⟩ := splV_spec l l' hs k (by omega)
    have hi : iand ((k + 1 : Nat) : Int) (s : Int) = (((k + 1) &&& s : Nat) : Int) := iand_nat (by omega) (by omega)
    show (∀ x, x ≤ k + 1 → x &&& s = x → splT l l' s (splS l l' s (splV l l' s k) (k + 1)) ≤ _) ∧ splS l l' s (splV l l' s k) (k + 1) &&& s = splS l l' s (splV l l' s k) (k + 1)
    unfold splS
    by_cases hc : iand ((k + 1 : Nat) : Int) (s : Int) = ((k + 1 : Nat) : Int) ∧ splT l l' s (k + 1) < splT l l' s (splV l l' s k)
    · rw [if_pos hc]
      rw [hi] at hc
      refine ⟨fun x hx hxs => ?_, by omega⟩
      by_cases e : x = k + 1
      · rw [e]; exact Int.le_refl _
      · have := h1 x (by omega) hxs; omega
    · rw [if_neg hc]
      rw [hi] at hc
      refine ⟨fun x hx hxs => ?_, h2⟩
      by_cases e : x = k + 1
      · subst e
        by_cases h3 : splT l l' s (k + 1) < splT l l' s (splV l l' s k)
        · exact absurd ⟨by omega, h3⟩ hc
        · omega
      · exact h1 x (by omega) hxs
theorem splT_full {n : Int} {l l' : List Int} {x : Nat} (hx : x < 2 ^ n.toNat) : splT l l' (cbF n) x = l.getD x 0 + l'.getD (2 ^ n.toNat - 1 - x) 0 := by
  have hc := cbF_lt n
  unfold splT
  rw [show ((cbF n : Int) - (x : Int)).toNat = 2 ^ n.toNat - 1 - x by omega]
theorem cb_min {n : Int} {l l' : List Int} (hn : n ≤ 5) : cbV n l l' < 2 ^ n.toNat ∧ ∀ x, x < 2 ^ n.toNat → splT l l' (cbF n) (cbV n l l') ≤ splT l l' (cbF n) x := by
  have hc := cbF_lt n
  have h32 : 2 ^ n.toNat ≤ 32 := Nat.le_trans (Nat.pow_le_pow_right (by omega) (show n.toNat ≤ 5 by omega)) (by decide)
  obtain ⟨h1, h2⟩ := splV_spec l l' (s := cbF n) (by omega) (cbF n) (Nat.le_refl _)
  have hle := splV_le l l' (cbF n) (cbF n)
  have hcv : cbV n l l' = splV l l' (cbF n) (cbF n) := rfl
  rw [hcv]
  refine ⟨by omega, fun x hx => h1 x (by omega) ?_⟩
  have : cbF n = 2 ^ n.toNat - 1 := rfl
  rw [this, Nat.and_comm]; exact and_full hx
/-- The largest common independent set, the bound and the common bases. -/
theorem lc_facts {n : Int} {l l' : List Int} (h : areV n l n l' = true) : ∃ t : Nat, lgV (lcP l l') (2 ^ n.toNat) = t ∧ t < 2 ^ n.toNat ∧ (popN t : Int) = splT l l' (cbF n) (cbV n l l') ∧ comV n l n l' (t : Int) = true ∧ (cmL n l l' = [] ∨ (popN t : Int) = l.getD (cbF n) 0) := by
  obtain ⟨h1, h2, _⟩ := are_iff.1 h
  obtain ⟨hn, hlen, h32⟩ := mat_n5 h1
  obtain ⟨_, hlen', _⟩ := mat_n5 h2
  have hpw := pow_nat n.toNat
  have hc := cbF_lt n
  obtain ⟨c1, c2⟩ := cb_min (n := n) (l := l) (l' := l') hn.2
  have hk : ∀ A, A < 2 ^ n.toNat → splT l l' (cbF n) (cbV n l l') ≤ l.getD A 0 + l'.getD (2 ^ n.toNat - 1 - A) 0 := fun A hA => by
    rw [← splT_full hA]; exact c2 A hA
  obtain ⟨e1, e2, e3⟩ := inter_eq h hk c1 (splT_full c1)
  refine ⟨_, rfl, e3, e1, ?_, ?_⟩
  · unfold comV
    have e2' : (freeV l (lgV (lcP l l') (2 ^ n.toNat) : Nat) && freeV l' (lgV (lcP l l') (2 ^ n.toNat) : Nat)) = true := e2
    rw [h, isSet_in (n := n) ⟨by omega, by omega⟩, e2']; rfl
  · cases hcm : cmL n l l' with
    | nil => exact .inl rfl
    | cons B rest =>
      refine .inr ?_
      have hB : B ∈ cmL n l l' := by rw [hcm]; exact List.mem_cons_self ..
      unfold cmL at hB
      rw [mem_rangeL] at hB
      obtain ⟨⟨b0, b1⟩, hb⟩ := hB
      obtain ⟨B, rfl⟩ := Int.eq_ofNat_of_zero_le b0
      rw [Bool.and_eq_true] at hb
      obtain ⟨q1, q2⟩ := hb
      have f1 : l.getD B 0 = l.getD (cbF n) 0 ∧ l.getD B 0 = (popN B : Int) := by
        unfold bsP freeV at q1
        simp only [Bool.and_eq_true, decide_eq_true_eq, Int.toNat_natCast] at q1
        omega
      have f2 : l'.getD B 0 = (popN B : Int) := by
        unfold bsP freeV at q2
        simp only [Bool.and_eq_true, decide_eq_true_eq, Int.toNat_natCast] at q2
        omega
      have hcp : ∀ s : Nat, lcP l l' (s : Int) = true ↔ l.getD s 0 = (popN s : Int) ∧ l'.getD s 0 = (popN s : Int) := fun s => by
        unfold lcP freeV; rw [Int.toNat_natCast, Bool.and_eq_true, decide_eq_true_eq, decide_eq_true_eq]
      have hp1 := pol_iff.1 (mat_pol h1)
      have hp2 := pol_iff.1 (mat_pol h2)
      have h0 : lcP l l' 0 = true := (hcp 0).2 ⟨by rw [hp1.2.1, pop0]; rfl, by rw [hp2.2.1, pop0]; rfl⟩
      obtain ⟨g1, g2, g3⟩ := lgV_spec h0 (2 ^ n.toNat) (Nat.two_pow_pos _)
      have g4 := g3 B (by omega) ((hcp B).2 ⟨f1.2, f2⟩)
      obtain ⟨j1, _⟩ := (hcp _).1 g2
      have m1 := pol_mono (mat_pol h1) (s := lgV (lcP l l') (2 ^ n.toNat)) (t := cbF n) (by omega) (by
        have : cbF n = 2 ^ n.toNat - 1 := rfl
        rw [this, Nat.and_comm]; exact and_full g1)
      omega

theorem pol_polF {n : Int} {l : List Int} (h : polV n l = true) : PolF n.toNat (fun s => l.getD s 0) := by
  have hp := pol_iff.1 h
  have hlen := fnV_len hp.1
  refine ⟨hp.2.1, fun s t hs ht => ?_, fun s t ht hst => ?_⟩
  · exact sub_pair hp.2.2.2 (by omega) (by omega)
  · exact pol_mono h (by omega) hst
theorem dgt_step (c t j : Nat) (ht : t < 4) : dgt (4 * c + t) (j + 1) = dgt c j := by
  unfold dgt
  rw [Nat.pow_succ', ← Nat.div_div_eq_div_mul, show (4 * c + t) / 4 = c by omega]
theorem dgt_zero (c t : Nat) (ht : t < 4) : dgt (4 * c + t) 0 = t := by
  unfold dgt; rw [Nat.pow_zero, Nat.div_one]; omega
theorem vc_of : ∀ (m : Nat) (x : List Int), x.length = m → (∀ i, i < m → 0 ≤ x.getD i 0 ∧ x.getD i 0 ≤ 3) → ∃ c, c < 4 ^ m ∧ vcV m c = x
  | 0, x, hl, _ => ⟨0, by simp, by
      have : x = [] := List.length_eq_zero_iff.1 hl
      rw [this]; rfl⟩
  | m + 1, x, hl, hx => by
    have ht : ∀ i, i < m → (x.take m).getD i 0 = x.getD i 0 := fun i hi => by
      rw [List.getD_eq_getElem?_getD, List.getElem?_take_of_lt hi, ← List.getD_eq_getElem?_getD]
    obtain ⟨c, hc, hv⟩ := vc_of m (x.take m) (by rw [List.length_take]; omega) fun i hi => by rw [ht i hi]; exact hx i (by omega)
    obtain ⟨t, htv⟩ := Int.eq_ofNat_of_zero_le (hx m (by omega)).1
    have ht3 : t < 4 := by have := (hx m (by omega)).2; omega
    refine ⟨4 * c + t, by rw [Nat.pow_succ]; omega, ?_⟩
    apply List.ext_getElem?
    intro i
    by_cases hi : i < m + 1
    · have hg : ∀ y : List Int, y.length = m + 1 → y[i]? = some (y.getD i 0) := fun y hy => by
        rw [List.getD_eq_getElem?_getD, List.getElem?_eq_getElem (by omega)]; rfl
      rw [hg _ (vcV_len ..), hg x hl, vcV_get hi]
      by_cases e : i = m
      · subst e
        rw [show i + 1 - 1 - i = 0 by omega, dgt_zero c t ht3, htv]
      · rw [show m + 1 - 1 - i = (m - 1 - i) + 1 by omega, dgt_step c t _ ht3, ← vcV_get (by omega), hv, ht i (by omega)]
    · rw [List.getElem?_eq_none (by rw [vcV_len]; omega), List.getElem?_eq_none (by omega)]
theorem wV_split {x : List Int} {A B s : Nat} (h : ∀ j, Nat.testBit s j = (Nat.testBit A j || Nat.testBit B j)) (h2 : ∀ j, Nat.testBit A j = true → Nat.testBit B j = false) : ∀ k, wV x s k = wV x A k + wV x B k
  | 0 => rfl
  | k + 1 => by
    have ih := wV_split (x := x) h h2 k
    show wV x s k + (if Nat.testBit s k then x.getD k 0 else 0) = wV x A k + (if Nat.testBit A k then x.getD k 0 else 0) + (wV x B k + if Nat.testBit B k then x.getD k 0 else 0)
    rw [ih, h k]
    cases hA : Nat.testBit A k with
    | true => rw [h2 k hA]; simp; omega
    | false => cases Nat.testBit B k <;> simp <;> omega
theorem wV_rest {x : List Int} {m A k : Nat} (hA : A < 2 ^ m) : wV x (2 ^ m - 1) k = wV x A k + wV x (2 ^ m - 1 - A) k := by
  refine wV_split (fun j => ?_) (fun j hj => ?_) k
  · have := cplN (n := m) (s := 0) (Nat.two_pow_pos m) j
    rw [Nat.sub_zero] at this
    rw [this, cplN hA, Nat.zero_testBit]
    by_cases hjm : j < m
    · rw [decide_eq_true hjm]; cases Nat.testBit A j <;> rfl
    · rw [decide_eq_false hjm, bit_hi hA (by omega)]; rfl
  · rw [cplN hA, hj, Bool.not_true, Bool.and_false]
theorem belV_iff {l x : List Int} : belV l x = true ↔ ∀ s, s < l.length → wV x s x.length ≤ l.getD s 0 := by
  unfold belV
  rw [List.all_eq_true]
  constructor
  · intro h s hs
    have := h s (List.mem_range.2 hs)
    rw [Bool.not_eq_true', decide_eq_false_iff_not] at this; omega
  · intro h s hs
    have := h s (List.mem_range.1 hs)
    rw [Bool.not_eq_true', decide_eq_false_iff_not]; omega
def smV (l l' : List Int) (e : Nat) : Bool := (List.range e).all fun e => decide (l.getD (2 ^ e) 0 ≤ 3) || decide (l'.getD (2 ^ e) 0 ≤ 3)
def cvY (n : Int) (l l' : List Int) : List Int := vecO n.toNat (cvO l l' n.toNat)
theorem zero_vc (m : Nat) : vcV m 0 = List.replicate m 0 := by
  apply List.ext_getElem?
  intro i
  by_cases hi : i < m
  · have hg : ∀ y : List Int, y.length = m → y[i]? = some (y.getD i 0) := fun y hy => by
      rw [List.getD_eq_getElem?_getD, List.getElem?_eq_getElem (by omega)]; rfl
    rw [hg _ (vcV_len ..), vcV_get hi, List.getElem?_replicate, if_pos hi]
    unfold dgt; rw [Nat.zero_div]; rfl
  · rw [List.getElem?_eq_none (by rw [vcV_len]; omega), List.getElem?_eq_none (by simp; omega)]
theorem wV_zeros (m s : Nat) : ∀ k, wV (List.replicate m 0) s k = 0
  | 0 => rfl
  | k + 1 => by
    have e : (List.replicate m (0 : Int)).getD k 0 = 0 := by
      rw [List.getD_eq_getElem?_getD, List.getElem?_replicate]; split <;> rfl
    show wV _ s k + (if Nat.testBit s k then (List.replicate m (0 : Int)).getD k 0 else 0) = 0
    rw [wV_zeros m s k, e]; split <;> rfl
theorem cv_facts {n : Int} {l l' : List Int} (h : okCv n l n l' = true) :
    (cvY n l l').length = n.toNat ∧ b5 (cvY n l l') = true ∧ belV l (cvY n l l') = true ∧ belV l' (cvY n l l') = true ∧ fnV n (cnL n l l') = true ∧ (cnL n l l').length = 2 ^ n.toNat ∧
    (smV l l' n.toNat = true → wV (cvY n l l') (2 ^ n.toNat - 1) n.toNat = (cnL n l l').getD (cbF n) 0) := by
  obtain ⟨h1, h2, _, h4⟩ := okCv_iff.1 h
  have hp1 := pol_iff.1 h1
  have hp2 := pol_iff.1 h2
  have hf1 := fnV_iff.1 hp1.1
  have hf2 := fnV_iff.1 hp2.1
  have hlen := fnV_len hp1.1
  have hlen' := fnV_len hp2.1
  have h16 : 2 ^ n.toNat ≤ 16 := Nat.le_trans (Nat.pow_le_pow_right (by omega) (show n.toNat ≤ 4 by omega)) (by decide)
  have hpos := Nat.two_pow_pos n.toNat
  have hc := cbF_lt n
  have hbz : ∀ {L : List Int}, polV n L = true → belV L (vcV n.toNat 0) = true := fun {L} hL => by
    rw [belV_iff]; intro s hs
    rw [vcV_len, zero_vc, wV_zeros]
    exact pol_nn hL s hs
  have hP0 : cvP l l' n.toNat 0 = true := by unfold cvP; rw [hbz h1, hbz h2]; rfl
  obtain ⟨c, hcO, hc4, hcP, hmax⟩ : ∃ c, cvO l l' n.toNat = some c ∧ c < 4 ^ n.toNat ∧ cvP l l' n.toNat c = true ∧ ∀ c', c' < 4 ^ n.toNat → cvP l l' n.toNat c' = true → vtV n.toNat c' ≤ vtV n.toNat c := by
    rcases ascB_spec (p := cvP l l' n.toNat) (t := vtV n.toNat) (4 ^ n.toNat) (fun c hc => (vt_eq (by omega) hc).1) with ⟨c, a1, a2, a3, a4⟩ | ⟨_, a2⟩
    · exact ⟨c, a1, a2, a3, fun c' h1 h2 => (a4 c' h1 h2).1⟩
    · have := a2 0 (Nat.pow_pos (by omega)); rw [hP0] at this; cases this
  have eY : cvY n l l' = vcV n.toNat c := by unfold cvY; rw [hcO]; rfl
  have hcP' := hcP
  unfold cvP at hcP'
  rw [Bool.and_eq_true] at hcP'
  have hmin : ∀ {s : Nat}, s < 2 ^ n.toNat → (∀ x, x ≤ s → x &&& s = x → cnF l l' (s : Int) ≤ l.getD x 0 + l'.getD (s - x) 0) ∧ ∃ x, x ≤ s ∧ x &&& s = x ∧ cnF l l' (s : Int) = l.getD x 0 + l'.getD (s - x) 0 := fun {s} hs => by
    obtain ⟨q1, q2⟩ := splV_spec l l' (s := s) (by omega) s (Nat.le_refl _)
    have q3 := splV_le l l' s s
    unfold cnF
    rw [Int.toNat_natCast]
    have e : ∀ x, x ≤ s → splT l l' s x = l.getD x 0 + l'.getD (s - x) 0 := fun x hx => by
      unfold splT; rw [show ((s : Int) - (x : Int)).toNat = s - x by omega]
    refine ⟨fun x hx hxs => ?_, _, q3, q2, e _ q3⟩
    rw [← e x hx]; exact q1 x hx hxs
  have hcn : fnV n (cnL n l l') = true := by
    refine mk_fn hf1.1 fun s hs => ?_
    obtain ⟨q1, x, x1, x2, x3⟩ := hmin hs
    have b1 := q1 0 (Nat.zero_le _) (Nat.zero_and s)
    rw [hp1.2.1, Nat.sub_zero] at b1
    have b2 := getD_bd hf2.2.2 s
    have b3 := pol_nn h1 x (by omega)
    have b4 := pol_nn h2 (s - x) (by omega)
    omega
  have hcl : (cnL n l l').length = 2 ^ n.toNat := mkL_len ..
  refine ⟨by rw [eY, vcV_len], by rw [eY]; exact vc_b5 .., by rw [eY]; exact hcP'.1, by rw [eY]; exact hcP'.2, hcn, hcl, fun hsm => ?_⟩
  have eC : (cnL n l l').getD (cbF n) 0 = cnF l l' (cbF n : Int) := by unfold cnL; rw [mkL_get (by omega)]
  rw [eC, eY]
  have hcb : cbF n = 2 ^ n.toNat - 1 := rfl
  obtain ⟨q1, x, x1, x2, x3⟩ := hmin (s := cbF n) (by omega)
  have hxl : x < 2 ^ n.toNat := by omega
  have u1 := belV_iff.1 hcP'.1 x (by omega)
  have u2 := belV_iff.1 hcP'.2 (cbF n - x) (by omega)
  rw [vcV_len] at u1 u2
  have w1 := wV_rest (x := vcV n.toNat c) (m := n.toNat) (k := n.toNat) hxl
  rw [hcb] at u2 x3
  obtain ⟨y, y1, y2, y3, y4, y5⟩ := pol_inter n.toNat _ _ (cnF l l' (cbF n : Int)) (pol_polF h1) (pol_polF h2) fun A hA => by
    have := q1 A (by omega) (by rw [hcb, Nat.and_comm]; exact and_full hA)
    rw [hcb] at this
    exact this
  obtain ⟨d, hd, hdv⟩ := vc_of n.toNat y y1 fun i hi => by
    have hi2 : 2 ^ i < 2 ^ n.toNat := Nat.pow_lt_pow_right (by omega) hi
    have a1 : wV y (2 ^ i) n.toNat ≤ l.getD (2 ^ i) 0 := y3 _ hi2
    have a2 : wV y (2 ^ i) n.toNat ≤ l'.getD (2 ^ i) 0 := y4 _ hi2
    rw [wV_single hi] at a1 a2
    have a3 := List.all_eq_true.1 hsm i (List.mem_range.2 hi)
    rw [Bool.or_eq_true, decide_eq_true_eq, decide_eq_true_eq] at a3
    have a4 := y2 i hi
    omega
  have hdP : cvP l l' n.toNat d = true := by
    unfold cvP
    rw [hdv, Bool.and_eq_true, belV_iff, belV_iff, y1]
    exact ⟨fun s hs => y3 s (by omega), fun s hs => y4 s (by omega)⟩
  have hm := hmax d hd hdP
  unfold vtV at hm
  rw [hdv] at hm
  rw [hcb] at y5
  rw [hcb]
  omega
end Go.Proofs.Ytjlpjkiadohkiaa
