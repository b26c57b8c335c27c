import Derived.Test.YtjlpjkiadohkiaaHs
import Derived.Test.YtjlpjkiadohkiaaT33
set_option linter.unusedSimpArgs false
set_option linter.unusedVariables false
set_option maxHeartbeats 2000000
namespace Go.Proofs.Ytjlpjkiadohkiaa
open Go Go.Ab
attribute [local irreducible] aol
attribute [local irreducible] popN


def mgE (n b i : Nat) : Nat := ((elL (2 ^ n - 1 - 2 ^ b) 6).getD i 0).toNat
def mgY (n b s : Nat) : Nat := spV (elL (2 ^ n - 1 - 2 ^ b) 6) s (elL (2 ^ n - 1 - 2 ^ b) 6).length
def mgX (n a b s : Nat) : Nat := if Nat.testBit (mgY n b s) a then mgY n b s ||| 2 ^ b else mgY n b s
def mgC (n a b s : Nat) : Bool :=
  decide (mgX n a b s < 2 ^ n) && (decide (mgX n a b (2 ^ (n - 1) - 1 - s) = 2 ^ n - 1 - mgX n a b s) && (List.range (n - 1)).all fun i => Nat.testBit s i ||
    (if mgE n b i = a then decide (mgX n a b (s ||| 2 ^ i) = mgX n a b s ||| 2 ^ a ||| 2 ^ b) && (!Nat.testBit (mgX n a b s) a && !Nat.testBit (mgX n a b s) b)
     else decide (mgX n a b (s ||| 2 ^ i) = mgX n a b s ||| 2 ^ mgE n b i) && (!Nat.testBit (mgX n a b s) (mgE n b i) && (decide (mgE n b i < n) && !decide (mgE n b i = b)))))
theorem mgC_all : ((List.range 6).all fun n => (List.range n).all fun a => (List.range n).all fun b => decide (a = b) || (List.range (2 ^ (n - 1))).all fun s => mgC n a b s) = true := by kernel_rfl
theorem mgC_at {n a b s : Nat} (hn : n < 6) (ha : a < n) (hb : b < n) (hab : a ≠ b) (hs : s < 2 ^ (n - 1)) : mgC n a b s = true := by
  have := List.all_eq_true.1 (List.all_eq_true.1 (List.all_eq_true.1 mgC_all n (List.mem_range.2 hn)) a (List.mem_range.2 ha)) b (List.mem_range.2 hb)
  rw [decide_eq_false hab, Bool.false_or] at this
  exact List.all_eq_true.1 this s (List.mem_range.2 hs)
theorem mgI_all : ((List.range 6).all fun n => (List.range n).all fun b => decide ((elL (2 ^ n - 1 - 2 ^ b) 6).length = n - 1) && (List.range (n - 1)).all fun i => (List.range (n - 1)).all fun k => decide (i = k) || !decide (mgE n b i = mgE n b k)) = true := by kernel_rfl
theorem mgI_at {n b : Nat} (hn : n < 6) (hb : b < n) : (elL (2 ^ n - 1 - 2 ^ b) 6).length = n - 1 ∧ ∀ i k, i < n - 1 → k < n - 1 → i ≠ k → mgE n b i ≠ mgE n b k := by
  have := List.all_eq_true.1 (List.all_eq_true.1 mgI_all n (List.mem_range.2 hn)) b (List.mem_range.2 hb)
  rw [Bool.and_eq_true, decide_eq_true_eq] at this
  refine ⟨this.1, fun i k hi hk hne => ?_⟩
  have h2 := List.all_eq_true.1 (List.all_eq_true.1 this.2 i (List.mem_range.2 hi)) k (List.mem_range.2 hk)
  rw [decide_eq_false hne, Bool.false_or, Bool.not_eq_true', decide_eq_false_iff_not] at h2
  exact h2
theorem mg_lt {n a b s : Nat} (h : mgC n a b s = true) : mgX n a b s < 2 ^ n ∧ mgX n a b (2 ^ (n - 1) - 1 - s) = 2 ^ n - 1 - mgX n a b s := by
  unfold mgC at h
  rw [Bool.and_eq_true, Bool.and_eq_true, decide_eq_true_eq, decide_eq_true_eq] at h
  exact ⟨h.1, h.2.1⟩
theorem mg_a {n a b s i : Nat} (h : mgC n a b s = true) (hi : i < n - 1) (hb : Nat.testBit s i = false) (he : mgE n b i = a) :
    mgX n a b (s ||| 2 ^ i) = mgX n a b s ||| 2 ^ a ||| 2 ^ b ∧ Nat.testBit (mgX n a b s) a = false ∧ Nat.testBit (mgX n a b s) b = false := by
  unfold mgC at h
  rw [Bool.and_eq_true, Bool.and_eq_true] at h
  have := List.all_eq_true.1 h.2.2 i (List.mem_range.2 hi)
  rw [hb, Bool.false_or, if_pos he, Bool.and_eq_true, Bool.and_eq_true, decide_eq_true_eq, Bool.not_eq_true', Bool.not_eq_true'] at this
  exact this
theorem mg_e {n a b s i : Nat} (h : mgC n a b s = true) (hi : i < n - 1) (hb : Nat.testBit s i = false) (he : mgE n b i ≠ a) :
    mgX n a b (s ||| 2 ^ i) = mgX n a b s ||| 2 ^ mgE n b i ∧ Nat.testBit (mgX n a b s) (mgE n b i) = false ∧ mgE n b i < n ∧ mgE n b i ≠ b := by
  unfold mgC at h
  rw [Bool.and_eq_true, Bool.and_eq_true] at h
  have := List.all_eq_true.1 h.2.2 i (List.mem_range.2 hi)
  rw [hb, Bool.false_or, if_neg he, Bool.and_eq_true, Bool.and_eq_true, Bool.and_eq_true, decide_eq_true_eq, Bool.not_eq_true', decide_eq_true_eq, Bool.not_eq_true', decide_eq_false_iff_not] at this
  exact this
def mgF (n : Int) (l : List Int) (a b : Int) (s : Int) : Int := l.getD (mgX n.toNat a.toNat b.toNat s.toNat) 0
def mgL (n : Int) (l : List Int) (a b : Int) : List Int := mkL (mgF n l a b) (2 ^ (n - 1).toNat)
def mgOk (n : Int) (l : List Int) (a b : Int) : Prop := fnV n l = true ∧ (0 ≤ a ∧ a < n) ∧ (0 ≤ b ∧ b < n) ∧ a ≠ b
theorem mg_fn {n : Int} {l : List Int} {a b : Int} (h : mgOk n l a b) : fnV (n - 1) (mgL n l a b) = true := by
  have hf := fnV_iff.1 h.1
  obtain ⟨_, ha, hb, _⟩ := h
  exact mk_fn (by omega) fun k _ => getD_bd hf.2.2 _
theorem mkL_get {f : Int → Int} {m k : Nat} (h : k < m) : (mkL f m).getD k 0 = f (k : Int) := by
  unfold mkL; rw [List.getD_eq_getElem?_getD, List.getElem?_map, List.getElem?_range h]; rfl
theorem sub_of {n : Int} {l : List Int} (hf : fnV n l = true) (h : ∀ s i k, s < l.length → i < k → k < n.toNat → Nat.testBit s i = false → Nat.testBit s k = false → excV l s i k ≤ 0) : subV n l = true := by
  have hn := (fnV_iff.1 hf).1
  have hlen := fnV_len hf
  have hp6 : 2 ^ n.toNat ≤ 32 := Nat.le_trans (Nat.pow_le_pow_right (by omega) (show n.toNat ≤ 5 by omega)) (by decide)
  have hv : vioV n l = none := by
    unfold vioV
    rw [seek2_none]
    intro s _ hs
    unfold vioS
    rw [Option.map_eq_none_iff, seek2_none]
    intro i _ hi
    unfold vioI
    rw [Option.map_eq_none_iff, seek_none]
    intro k hk1 hk2
    unfold vioP
    have b1 := ibit (s := s) (e := i) (by omega) (by omega)
    have b2 := ibit (s := s) (e := k) (by omega) (by omega)
    cases h1 : Nat.testBit s i with
    | true => rw [h1, if_pos rfl] at b1; rw [decide_eq_false (by omega), Bool.false_and]
    | false =>
      cases h2 : Nat.testBit s k with
      | true => rw [h2, if_pos rfl] at b2; rw [decide_eq_false (p := iand (ishr (s : Int) (k : Int)) 1 = 0) (by omega), Bool.false_and, Bool.and_false]
      | false =>
        have := h s i k (by omega) (by omega) (by omega) h1 h2
        rw [decide_eq_false (p := 0 < excV l s i k) (by omega), Bool.and_false, Bool.and_false]
  unfold subV vioB
  rw [hf, hv]; rfl
theorem or_swap (x y z : Nat) : x ||| y ||| z = x ||| z ||| y := by rw [Nat.or_assoc, Nat.or_comm y z, ← Nat.or_assoc]
theorem bit_or_ne {x i k : Nat} (h : Nat.testBit x k = false) (hne : i ≠ k) : Nat.testBit (x ||| 2 ^ i) k = false := by
  rw [Nat.testBit_or, h, Bool.false_or, Nat.testBit_two_pow]; simp [hne]
/-- With two elements made one, a function stays submodular. -/
theorem mg_sub {n : Int} {l : List Int} {a b : Int} (h : mgOk n l a b) (hs : subV n l = true) : subV (n - 1) (mgL n l a b) = true := by
  have hfn := mg_fn h
  obtain ⟨hf, ha, hb, hab⟩ := h
  have hf' := fnV_iff.1 hf
  have hlen := fnV_len hf
  have hlen2 := fnV_len hfn
  have e1 : (n - 1).toNat = n.toNat - 1 := by omega
  have hC : ∀ s, s < 2 ^ (n.toNat - 1) → mgC n.toNat a.toNat b.toNat s = true := fun s hs => mgC_at (by omega) (by omega) (by omega) (by omega) hs
  have hI := mgI_at (n := n.toNat) (b := b.toNat) (by omega) (by omega)
  have hg : ∀ s, s < 2 ^ (n.toNat - 1) → (mgL n l a b).getD s 0 = l.getD (mgX n.toNat a.toNat b.toNat s) 0 := fun s hs => by
    unfold mgL; rw [mkL_get (by rw [e1]; exact hs), mgF, Int.toNat_natCast]
  have key : ∀ s i k, s < 2 ^ (n.toNat - 1) → i < n.toNat - 1 → k < n.toNat - 1 → i ≠ k → Nat.testBit s i = false → Nat.testBit s k = false → mgE n.toNat b.toNat k ≠ a.toNat → excV (mgL n l a b) s i k ≤ 0 := fun s i k h1 hi hk hne b1 b2 hka => by
    have c0 := hC s h1
    have hsi : s ||| 2 ^ i < 2 ^ (n.toNat - 1) := or_lt h1 hi
    have hsk : s ||| 2 ^ k < 2 ^ (n.toNat - 1) := or_lt h1 hk
    have hsik : s ||| 2 ^ i ||| 2 ^ k < 2 ^ (n.toNat - 1) := or_lt hsi hk
    have b3 : Nat.testBit (s ||| 2 ^ i) k = false := bit_or_ne b2 hne
    have ci := hC _ hsi
    obtain ⟨k1, k2, k3, k4⟩ := mg_e c0 hk b2 hka
    obtain ⟨m1, m2, m3, m4⟩ := mg_e ci hk b3 hka
    have hx := (mg_lt c0).1
    unfold excV
    rw [hg _ hsik, hg _ h1, hg _ hsi, hg _ hsk, m1, k1]
    by_cases hia : mgE n.toNat b.toNat i = a.toNat
    · obtain ⟨i1, i2, i3⟩ := mg_a c0 hi b1 hia
      rw [i1]
      have q1 := sub_at hs (s := mgX n.toNat a.toNat b.toNat s) (i := a.toNat) (k := mgE n.toNat b.toNat k) (by omega) (by omega) (by omega) (by omega) i2 k2
      have hxa : mgX n.toNat a.toNat b.toNat s ||| 2 ^ a.toNat < 2 ^ n.toNat := or_lt hx (by omega)
      have q2 := sub_at hs (s := mgX n.toNat a.toNat b.toNat s ||| 2 ^ a.toNat) (i := b.toNat) (k := mgE n.toNat b.toNat k) (by omega) (by omega) (by omega) (by omega) (bit_or_ne i3 (by omega)) (bit_or_ne k2 (by omega))
      unfold excV at q1 q2
      omega
    · obtain ⟨i1, i2, i3, i4⟩ := mg_e c0 hi b1 hia
      rw [i1]
      have hne2 := hI.2 i k hi hk hne
      have q1 := sub_at hs (s := mgX n.toNat a.toNat b.toNat s) (i := mgE n.toNat b.toNat i) (k := mgE n.toNat b.toNat k) (by omega) hne2 i3 k3 i2 k2
      unfold excV at q1
      omega
  refine sub_of hfn fun s i k h1 hik hk b1 b2 => ?_
  rw [hlen2, e1] at h1
  rw [e1] at hk
  by_cases hka : mgE n.toNat b.toNat k = a.toNat
  · rw [excV_comm]
    refine key s k i h1 hk (by omega) (by omega) b2 b1 fun hia => ?_
    exact hI.2 i k (by omega) hk (by omega) (by rw [hia, hka])
  · exact key s i k h1 (by omega) hk (by omega) b1 b2 hka
theorem mg_sym {n : Int} {l : List Int} {a b : Int} (h : mgOk n l a b) (hs : symV n l = true) : symV (n - 1) (mgL n l a b) = true := by
  have hfn := mg_fn h
  obtain ⟨hf, ha, hb, hab⟩ := h
  have hf' := fnV_iff.1 hf
  have hlen := fnV_len hf
  have e1 : (n - 1).toNat = n.toNat - 1 := by omega
  have hC : ∀ s, s < 2 ^ (n.toNat - 1) → mgC n.toNat a.toNat b.toNat s = true := fun s hs => mgC_at (by omega) (by omega) (by omega) (by omega) hs
  unfold symV at hs ⊢
  rw [Bool.and_eq_true, decide_eq_true_eq] at hs
  rw [hfn, Bool.true_and, decide_eq_true_eq]
  have hl : ∀ j, j < 2 ^ n.toNat → l.getD j 0 = l.getD (2 ^ n.toNat - 1 - j) 0 := fun j hj => by
    have : l.getD j 0 = (opL n l).getD j 0 := by rw [← hs.2]
    rw [this]; unfold opL; rw [mkL_get hj, opF, Int.toNat_natCast]; rfl
  unfold opL
  conv => lhs; unfold mgL
  refine mkL_congr fun k hk => ?_
  rw [e1] at hk
  have hp := Nat.two_pow_pos (n.toNat - 1)
  have hcb : cbF (n - 1) = 2 ^ (n.toNat - 1) - 1 := by unfold cbF; rw [e1]
  obtain ⟨g1, g2⟩ := mg_lt (hC k hk)
  unfold opF mgF
  rw [Int.toNat_natCast, hcb]
  unfold mgL
  rw [mkL_get (by rw [e1]; omega)]
  unfold mgF
  rw [Int.toNat_natCast, g2, ← hl _ g1]
def tMgC : Tab
  | [.i s, .ref [.sl .i64 L], .ref [.i a], .ref [.i b], .ref [.i n, .sl .i64 l]] => some (mgOk n l a b ∧ L = elL (2 ^ n.toNat - 1 - 2 ^ b.toNat) 6 ∧ (0 ≤ s ∧ s < 2 ^ (n - 1).toNat), .i (mgF n l a b s), [])
  | _ => none
theorem rest_lt {n : Int} {l : List Int} {a b : Int} (h : mgOk n l a b) : 2 ^ n.toNat - 1 - 2 ^ b.toNat < 32 ∧ 2 ^ b.toNat < 2 ^ n.toNat ∧ 2 ^ n.toNat ≤ 32 := by
  have hf' := fnV_iff.1 h.1
  obtain ⟨_, ha, hb, _⟩ := h
  have hp6 : 2 ^ n.toNat ≤ 32 := Nat.le_trans (Nat.pow_le_pow_right (by omega) (show n.toNat ≤ 5 by omega)) (by decide)
  exact ⟨Nat.lt_of_le_of_lt (Nat.sub_le _ _) (show 2 ^ n.toNat - 1 < 32 by omega), Nat.pow_lt_pow_right (by omega) (by omega), hp6⟩
theorem mgC_ok : Fits Try.prog 161 tMgC := by
  refine ⟨callable_of Try.func161 (by kernel_rfl) rfl, ?_⟩
  intro args p out Ho h hp
  unfold tMgC at h
  split at h <;> cases h
  rename_i s L a b n l
  refine ⟨acall_by (env_ok (env := [(162, tSp)]) (by simp only [List.forall_mem_cons, List.not_mem_nil, false_implies, implies_true, and_true]; exact spread_ok)) Try.func161 rfl rfl rfl rfl rfl ?_, rfl, rfl⟩
  intro hlen c hc hX
  simp only [lensOk, AV.lenOk, true_and, and_true] at hlen
  simp only [Try.ntmps161, Try.results161, List.length_cons, List.length_nil, List.replicate, List.cons_append, List.nil_append, Nat.reduceAdd, Nat.reduceSub]
  obtain ⟨hm, rfl, hs⟩ := hp
  obtain ⟨r1, r2, r3⟩ := rest_lt hm
  obtain ⟨h4, hL⟩ := elE r1
  have hsp := spV_lt h4 s.toNat _ (Nat.le_refl _)
  obtain ⟨hf, ha, hb, hab⟩ := hm
  have hf' := fnV_iff.1 hf
  have hlen := fnV_len hf
  obtain ⟨s, rfl⟩ := Int.eq_ofNat_of_zero_le hs.1
  obtain ⟨a, rfl⟩ := Int.eq_ofNat_of_zero_le ha.1
  obtain ⟨b, rfl⟩ := Int.eq_ofNat_of_zero_le hb.1
  have e1 : (n - 1).toNat = n.toNat - 1 := by omega
  have hpw := pow_nat (n - 1).toNat
  rw [e1] at hpw hs
  have hp5 : 2 ^ (n.toNat - 1) ≤ 16 := Nat.le_trans (Nat.pow_le_pow_right (by omega) (show n.toNat - 1 ≤ 4 by omega)) (by decide)
  have hX := (mg_lt (mgC_at (n := n.toNat) (a := a) (b := b) (s := s) (by omega) (by omega) (by omega) (by omega) (by omega))).1
  simp only [Int.toNat_natCast] at r1 r2 h4 hL hsp hX
  have hY : spV (elL (2 ^ n.toNat - 1 - 2 ^ b) 6) s (elL (2 ^ n.toNat - 1 - 2 ^ b) 6).length = mgY n.toNat b s := rfl
  rw [hY] at hsp
  have hua := u64_id (n := (a : Int)) (by omega) (by omega)
  obtain ⟨u1, u2, u3⟩ := bits5 hsp (b := b) (by omega)
  have hib := ibit (s := mgY n.toNat b s) (e := a) (by omega) (by omega)
  cases ht : Nat.testBit (mgY n.toNat b s) a with
  | true =>
    rw [ht, if_pos rfl] at hib
    have hXe : mgX n.toNat a b s = mgY n.toNat b s ||| 2 ^ b := by unfold mgX; rw [if_pos ht]
    rw [hXe] at hX
    have i1 : ((mgY n.toNat b s ||| 2 ^ b : Nat) : Int) < l.length := by omega
    have i2 : (0 : Int) ≤ ((mgY n.toNat b s ||| 2 ^ b : Nat) : Int) := Int.natCast_nonneg _
    repeat' first | ((with_reducible show aol _ _ _ _ _); first | (refine aol_guard_f (by rfl) ?_ ?_; (focus (simp only [go_sem]; done))) | (refine aol_guard_un (by rfl) ?_ ?_; (focus (simp only [go_sem]; done))) | ((first | (refine aol_guard_t (by rfl) ?_ ?_; (focus (simp only [go_sem]; done))) | (refine aol_guard_b (by rfl) (by rfl) (fun h => ?_) (fun h => ?_) <;> (try simp only [hsA, hsB, hsC, hsD, List.all_cons, List.all_nil, ne_eq, reduceCtorEq, inR_iff, inR_not, isSet_iff, isSet_not] at h))) <;> simp (config := { maxSteps := 2000000 }) (disch := omega) only [go_sem, ↓reduceIte, Nat.reduceEqDiff, Nat.reduceAdd, Nat.reduceLT, Nat.reduceLeDiff, Nat.reduceSub, tSp, h4, hY, hua, hib, u1, u2, u3]) | simp (config := { maxSteps := 2000000 }) (disch := omega) only [go_sem, ↓reduceIte, Nat.reduceEqDiff, Nat.reduceAdd, Nat.reduceLT, Nat.reduceLeDiff, Nat.reduceSub, tSp, h4, hY, hua, hib, u1, u2, u3]) | ((with_reducible refine hK _ ?_); clear hK K; try simp only [thn_n, blk_n, fin_n, finm_n]) | (with_reducible refine awp_seq fun K hK => ?_) | ((with_reducible show Awp _ _ (Code.region _ _ _) _ _); (first | refine awp_regK (by repeat constructor) (fun K hK => ?_) | (refine awp_drwK (by kernel_rfl) (by repeat constructor) (fun K hK => ?_))); simp (config := { maxSteps := 2000000 }) (disch := omega) only [go_sem, ↓reduceIte, Nat.reduceEqDiff, Nat.reduceAdd, Nat.reduceLT, Nat.reduceLeDiff, Nat.reduceSub, tSp, h4, hY, hua, hib, u1, u2, u3]) | ((with_reducible show Awp _ _ (Code.cond _ _ _) _ _); refine awp_cond rfl (fun h => ?_) (fun h => ?_) <;> (try simp only [hsA, hsB, hsC, hsD, List.all_cons, List.all_nil, ne_eq, reduceCtorEq, inR_iff, inR_not, isSet_iff, isSet_not] at h)) | ((with_reducible refine awp_skip ?_); simp only [thn_n, blk_n, fin_n, finm_n]) | ((with_reducible refine awp_ret ?_); simp only [thn_r, blk_r, fin_r, finm_r]) | (with_reducible refine awp_block ?_) | ((with_reducible refine awp_exit ?_); simp only [thn_e, blk_e, blk_x, blk_n, thn_n, ne_eq, not_false_eq_true, Nat.reduceEqDiff, reduceCtorEq]; first | (refine hK _ ?_; clear hK K) | (clear hK K; refine hK _ ?_; clear hK K) | (clear hK K; clear hK K; refine hK _ ?_; clear hK K) | (clear hK K; clear hK K; clear hK K; refine hK _ ?_; clear hK K) | skip) | (with_reducible apply And.intro) | (with_reducible exact True.intro) | ((with_reducible show List.all _ _ = true); rfl) | ((with_reducible show lendOk _ _ = true); rfl) | omega | ((first | (with_reducible show ¬ _) | (with_reducible show _ → _)); intro h; first | contradiction | cases h; done | skip)
    all_goals (try (first | refine fin_keep ?_ | refine finm_keep ?_; repeat clear hK))
    refine fin_tmp rfl ?_; simp only [nth_zero, nth_succ, mgF, Int.toNat_natCast, hXe]
  | false =>
    rw [ht, if_neg (by decide)] at hib
    have hXe : mgX n.toNat a b s = mgY n.toNat b s := by unfold mgX; rw [if_neg (by rw [ht]; decide)]
    rw [hXe] at hX
    repeat' first | ((with_reducible show aol _ _ _ _ _); first | (refine aol_guard_f (by rfl) ?_ ?_; (focus (simp only [go_sem]; done))) | (refine aol_guard_un (by rfl) ?_ ?_; (focus (simp only [go_sem]; done))) | ((first | (refine aol_guard_t (by rfl) ?_ ?_; (focus (simp only [go_sem]; done))) | (refine aol_guard_b (by rfl) (by rfl) (fun h => ?_) (fun h => ?_) <;> (try simp only [hsA, hsB, hsC, hsD, List.all_cons, List.all_nil, ne_eq, reduceCtorEq, inR_iff, inR_not, isSet_iff, isSet_not] at h))) <;> simp (config := { maxSteps := 2000000 }) (disch := omega) only [go_sem, ↓reduceIte, Nat.reduceEqDiff, Nat.reduceAdd, Nat.reduceLT, Nat.reduceLeDiff, Nat.reduceSub, tSp, h4, hY, hua, hib]) | simp (config := { maxSteps := 2000000 }) (disch := omega) only [go_sem, ↓reduceIte, Nat.reduceEqDiff, Nat.reduceAdd, Nat.reduceLT, Nat.reduceLeDiff, Nat.reduceSub, tSp, h4, hY, hua, hib]) | ((with_reducible refine hK _ ?_); clear hK K; try simp only [thn_n, blk_n, fin_n, finm_n]) | (with_reducible refine awp_seq fun K hK => ?_) | ((with_reducible show Awp _ _ (Code.region _ _ _) _ _); (first | refine awp_regK (by repeat constructor) (fun K hK => ?_) | (refine awp_drwK (by kernel_rfl) (by repeat constructor) (fun K hK => ?_))); simp (config := { maxSteps := 2000000 }) (disch := omega) only [go_sem, ↓reduceIte, Nat.reduceEqDiff, Nat.reduceAdd, Nat.reduceLT, Nat.reduceLeDiff, Nat.reduceSub, tSp, h4, hY, hua, hib]) | ((with_reducible show Awp _ _ (Code.cond _ _ _) _ _); refine awp_cond rfl (fun h => ?_) (fun h => ?_) <;> (try simp only [hsA, hsB, hsC, hsD, List.all_cons, List.all_nil, ne_eq, reduceCtorEq, inR_iff, inR_not, isSet_iff, isSet_not] at h)) | ((with_reducible refine awp_skip ?_); simp only [thn_n, blk_n, fin_n, finm_n]) | ((with_reducible refine awp_ret ?_); simp only [thn_r, blk_r, fin_r, finm_r]) | (with_reducible refine awp_block ?_) | ((with_reducible refine awp_exit ?_); simp only [thn_e, blk_e, blk_x, blk_n, thn_n, ne_eq, not_false_eq_true, Nat.reduceEqDiff, reduceCtorEq]; first | (refine hK _ ?_; clear hK K) | (clear hK K; refine hK _ ?_; clear hK K) | (clear hK K; clear hK K; refine hK _ ?_; clear hK K) | (clear hK K; clear hK K; clear hK K; refine hK _ ?_; clear hK K) | skip) | (with_reducible apply And.intro) | (with_reducible exact True.intro) | ((with_reducible show List.all _ _ = true); rfl) | ((with_reducible show lendOk _ _ = true); rfl) | omega | ((first | (with_reducible show ¬ _) | (with_reducible show _ → _)); intro h; first | contradiction | cases h; done | skip)
    all_goals (try (first | refine fin_keep ?_ | refine finm_keep ?_; repeat clear hK))
    refine fin_tmp rfl ?_; simp only [nth_zero, nth_succ, mgF, Int.toNat_natCast, hXe]
def tMgCF : Tab
  | [.i n, .fn 161 [.ref [.sl .i64 L], .ref [.i a], .ref [.i b], .ref [.i m, .sl .i64 l]]] => some ((0 ≤ n ∧ n ≤ 5) ∧ (n = m - 1 ∧ mgOk m l a b ∧ L = elL (2 ^ m.toNat - 1 - 2 ^ b.toNat) 6), .tu [.ag [.i (or0 (fnV n (mkL (mgF m l a b) (2 ^ n.toNat))) n), .own 0], .b (fnV n (mkL (mgF m l a b) (2 ^ n.toNat)))], [.row .i64 3 (orE (fnV n (mkL (mgF m l a b) (2 ^ n.toNat))) (mkL (mgF m l a b) (2 ^ n.toNat)))])
  | _ => none
theorem MgCF_ok : Fits Try.prog 116 tMgCF := by
  refine ⟨callable_of Try.func116 (by kernel_rfl) rfl, ?_⟩
  intro args p out Ho h hp
  unfold tMgCF at h
  split at h <;> cases h
  rename_i n L a b m l
  refine ⟨acall_by (env_ok (env := [(161, tMgC), (144, tIsFn)]) (by simp only [List.forall_mem_cons, List.not_mem_nil, false_implies, implies_true, and_true]; exact ⟨mgC_ok, implIsFn_ok⟩)) Try.func116 rfl rfl rfl rfl rfl ?_, rfl, rfl⟩
  intro hlen c hc hX
  simp only [lensOk, AV.lenOk, true_and, and_true] at hlen
  simp only [Try.ntmps116, Try.results116, List.length_cons, List.length_nil, List.replicate, List.cons_append, List.nil_append, Nat.reduceAdd, Nat.reduceSub]
  obtain ⟨hn, hpre⟩ := hp
  have hu := u64_id (n := n) (by omega) (by omega)
  have hsh := ishl_one (n := n) hn.1 (by omega)
  have hpw := pow_nat n.toNat
  have hp6 : 2 ^ n.toNat ≤ 64 := Nat.le_trans (Nat.pow_le_pow_right (by omega) (show n.toNat ≤ 6 by omega)) (by decide)
  repeat' first | ((with_reducible show aol _ _ _ _ _); first | (refine aol_guard_f (by rfl) ?_ ?_; (focus (simp only [go_sem]; done))) | (refine aol_guard_un (by rfl) ?_ ?_; (focus (simp only [go_sem]; done))) | ((first | (refine aol_guard_t (by rfl) ?_ ?_; (focus (simp only [go_sem]; done))) | (refine aol_guard_b (by rfl) (by rfl) (fun h => ?_) (fun h => ?_) <;> (try simp only [hsA, hsB, hsC, hsD, List.all_cons, List.all_nil, ne_eq, reduceCtorEq, inR_iff, inR_not, isSet_iff, isSet_not] at h))) <;> simp (config := { maxSteps := 2000000 }) (disch := omega) only [go_sem, ↓reduceIte, Nat.reduceEqDiff, Nat.reduceAdd, Nat.reduceLT, Nat.reduceLeDiff, Nat.reduceSub, tMgC, hu, hsh]) | simp (config := { maxSteps := 2000000 }) (disch := omega) only [go_sem, ↓reduceIte, Nat.reduceEqDiff, Nat.reduceAdd, Nat.reduceLT, Nat.reduceLeDiff, Nat.reduceSub, tMgC, hu, hsh]) | ((with_reducible refine hK _ ?_); clear hK K; try simp only [thn_n, blk_n, fin_n, finm_n]) | (with_reducible refine awp_seq fun K hK => ?_) | ((with_reducible show Awp _ _ (Code.region _ _ _) _ _); (first | refine awp_regK (by repeat constructor) (fun K hK => ?_) | (refine awp_drwK (by kernel_rfl) (by repeat constructor) (fun K hK => ?_))); simp (config := { maxSteps := 2000000 }) (disch := omega) only [go_sem, ↓reduceIte, Nat.reduceEqDiff, Nat.reduceAdd, Nat.reduceLT, Nat.reduceLeDiff, Nat.reduceSub, tMgC, hu, hsh]) | ((with_reducible show Awp _ _ (Code.cond _ _ _) _ _); refine awp_cond rfl (fun h => ?_) (fun h => ?_) <;> (try simp only [hsA, hsB, hsC, hsD, List.all_cons, List.all_nil, ne_eq, reduceCtorEq, inR_iff, inR_not, isSet_iff, isSet_not] at h)) | ((with_reducible refine awp_skip ?_); simp only [thn_n, blk_n, fin_n, finm_n]) | ((with_reducible refine awp_ret ?_); simp only [thn_r, blk_r, fin_r, finm_r]) | (with_reducible refine awp_block ?_) | ((with_reducible refine awp_exit ?_); simp only [thn_e, blk_e, blk_x, blk_n, thn_n, ne_eq, not_false_eq_true, Nat.reduceEqDiff, reduceCtorEq]; first | (refine hK _ ?_; clear hK K) | (clear hK K; refine hK _ ?_; clear hK K) | (clear hK K; clear hK K; refine hK _ ?_; clear hK K) | (clear hK K; clear hK K; clear hK K; refine hK _ ?_; clear hK K) | skip) | (with_reducible apply And.intro) | (with_reducible exact True.intro) | ((with_reducible show List.all _ _ = true); rfl) | ((with_reducible show lendOk _ _ = true); rfl) | omega | ((first | (with_reducible show ¬ _) | (with_reducible show _ → _)); intro h; first | contradiction | cases h; done | skip)
  all_goals (try (first | refine fin_keep ?_ | refine finm_keep ?_; repeat clear hK))
  refine awp_wk (wk_cell .i64 3 (b := 1) (j := 1) rfl rfl (by simp)) ?_
  refine awp_forR 0 hX (fun st (k : Nat) => st.at [1, 4, 6, 12] [(13, .i k)] [.box 26 [.i 0, .nl], .box 26 [.i n, .own 2], .row .i64 3 (mkL (mgF m l a b) k)]) (fun k => k ≤ 2 ^ n.toNat) (fun k => 2 ^ n.toNat - k) 0 (Nat.zero_le _) ?_ ?_
  · exact ⟨[0, 1, 2], rfl, rfl, by simp [-List.getD_eq_getElem?_getD, -List.length_take, List.getD_cons_zero, List.getD_cons_succ, leFr, ASt.at, keepFr, updAll, upd_zero, upd_succ, AV.rnb, AV.rnb0, mkL], by simp [-List.getD_eq_getElem?_getD, List.getD_cons_zero, List.getD_cons_succ, ASt.at, AO.rnb, AV.rnb0, upd_k0, upd_k1, upd_k2, upd_k3, mkL], rfl, rfl⟩
  rintro k hk
  simp only [ASt.at, keepFr, updAll, upd_zero, upd_succ, List.mem_cons, List.not_mem_nil, Nat.reduceEqDiff, Nat.reduceAdd, or_false, or_true, false_or, true_or, ↓reduceIte, eq_self]
  have hrl := mkL_len (mgF m l a b) k
  have hcl : (k : Int) < 2 ^ n.toNat → (mgOk m l a b ∧ L = elL (2 ^ m.toNat - 1 - 2 ^ b.toNat) 6 ∧ (0 ≤ (k : Int) ∧ (k : Int) < 2 ^ (m - 1).toNat)) = True := fun hkn => eq_true (⟨hpre.2.1, hpre.2.2, by omega, by rw [← hpre.1]; exact hkn⟩)
  repeat' first | ((with_reducible show aol _ _ _ _ _); first | (refine aol_guard_f (by rfl) ?_ ?_; (focus (simp only [go_sem]; done))) | (refine aol_guard_un (by rfl) ?_ ?_; (focus (simp only [go_sem]; done))) | ((first | (refine aol_guard_t (by rfl) ?_ ?_; (focus (simp only [go_sem]; done))) | (refine aol_guard_b (by rfl) (by rfl) (fun h => ?_) (fun h => ?_) <;> (try simp only [hsA, hsB, hsC, hsD, List.all_cons, List.all_nil, ne_eq, reduceCtorEq, inR_iff, inR_not, isSet_iff, isSet_not] at h))) <;> simp (config := { maxSteps := 2000000 }) (disch := omega) only [go_sem, ↓reduceIte, Nat.reduceEqDiff, Nat.reduceAdd, Nat.reduceLT, Nat.reduceLeDiff, Nat.reduceSub, tMgC, hcl, tIsFn]) | simp (config := { maxSteps := 2000000 }) (disch := omega) only [go_sem, ↓reduceIte, Nat.reduceEqDiff, Nat.reduceAdd, Nat.reduceLT, Nat.reduceLeDiff, Nat.reduceSub, tMgC, hcl, tIsFn]) | ((with_reducible refine hK _ ?_); clear hK K; try simp only [thn_n, blk_n, fin_n, finm_n]) | (with_reducible refine awp_seq fun K hK => ?_) | ((with_reducible show Awp _ _ (Code.region _ _ _) _ _); (first | refine awp_regK (by repeat constructor) (fun K hK => ?_) | (refine awp_drwK (by kernel_rfl) (by repeat constructor) (fun K hK => ?_))); simp (config := { maxSteps := 2000000 }) (disch := omega) only [go_sem, ↓reduceIte, Nat.reduceEqDiff, Nat.reduceAdd, Nat.reduceLT, Nat.reduceLeDiff, Nat.reduceSub, tMgC, hcl, tIsFn]) | ((with_reducible show Awp _ _ (Code.cond _ _ _) _ _); refine awp_cond rfl (fun h => ?_) (fun h => ?_) <;> (try simp only [hsA, hsB, hsC, hsD, List.all_cons, List.all_nil, ne_eq, reduceCtorEq, inR_iff, inR_not, isSet_iff, isSet_not] at h)) | ((with_reducible refine awp_skip ?_); simp only [thn_n, blk_n, fin_n, finm_n]) | ((with_reducible refine awp_ret ?_); simp only [thn_r, blk_r, fin_r, finm_r]) | (with_reducible refine awp_block ?_) | ((with_reducible refine awp_exit ?_); simp only [thn_e, blk_e, blk_x, blk_n, thn_n, ne_eq, not_false_eq_true, Nat.reduceEqDiff, reduceCtorEq]; first | (refine hK _ ?_; clear hK K) | (clear hK K; refine hK _ ?_; clear hK K) | (clear hK K; clear hK K; refine hK _ ?_; clear hK K) | (clear hK K; clear hK K; clear hK K; refine hK _ ?_; clear hK K) | skip) | (with_reducible apply And.intro) | (with_reducible exact True.intro) | ((with_reducible show List.all _ _ = true); rfl) | ((with_reducible show lendOk _ _ = true); rfl) | omega | ((first | (with_reducible show ¬ _) | (with_reducible show _ → _)); intro h; first | contradiction | cases h; done | skip)
  all_goals (try (first | refine fin_keep ?_ | refine finm_keep ?_; repeat clear hK))
  · refine ⟨k + 1, by omega, by omega, ?_⟩
    rw [mkL_succ]
    exact ⟨[0, 1, 4], rfl, rfl, by simp [-List.getD_eq_getElem?_getD, -List.length_take, List.getD_cons_zero, List.getD_cons_succ, leFr, ASt.at, keepFr, updAll, upd_zero, upd_succ, AV.rnb, AV.rnb0], by simp [-List.getD_eq_getElem?_getD, List.getD_cons_zero, List.getD_cons_succ, ASt.at, AO.rnb, AV.rnb0, upd_k0, upd_k1, upd_k2, upd_k3], rfl, rfl⟩
  · obtain rfl : k = 2 ^ n.toNat := by omega
    rw [h]; exact fin_pairb_nl (d := tPair) rfl rfl rfl rfl rfl rfl
  · obtain rfl : k = 2 ^ n.toNat := by omega
    rw [h]; exact fin_pairb (d := tPair) rfl rfl rfl rfl rfl rfl rfl

def tMg : Tab
  | [.ag [.i n, .sl .i64 l], .i a, .i b] => some (mgOk n l a b, .tu [.ag [.i (n - 1), .own 0], .b true], [.row .i64 3 (mgL n l a b)])
  | _ => none
end Go.Proofs.Ytjlpjkiadohkiaa
