import Derived.Test.YthoionlldmfpiaaDoorT100
import Derived.Test.YthoionlldmfpiaaDoorHs
import Derived.Test.YthoionlldmfpiaaDoorT33
set_option linter.unusedSimpArgs false
set_option linter.unusedVariables false
set_option maxHeartbeats 2000000
namespace Go.Proofs.YthoionlldmfpiaaDoor
open Go Go.Ab
attribute [local irreducible] aol
theorem join_snoc {xs : List (List UInt8)} {x sep : List UInt8} (h : xs ≠ []) : Lib.join (xs ++ [x]) sep = (Lib.join xs sep ++ sep) ++ x := by
  cases xs with
  | nil => exact absurd rfl h
  | cons y r =>
    rw [List.cons_append, Lib.join_cons, Lib.join_cons]
    simp [Lib.joinTail]
theorem lens_le {k : Nat} : ∀ {xs : List (List UInt8)}, (∀ x ∈ xs, x.length ≤ k) → Lib.lens xs ≤ xs.length * k
  | [], _ => by simp [Lib.lens]
  | x :: xs, h => by
    have h1 := h x (by simp)
    have h2 := lens_le (xs := xs) (fun y hy => h y (by simp [hy]))
    simp only [Lib.lens, List.map_cons, List.sum_cons, List.length_cons, Nat.succ_mul] at h2 ⊢
    omega
theorem join_le {k : Nat} {sep : List UInt8} : ∀ {xs : List (List UInt8)}, (∀ x ∈ xs, x.length ≤ k) → (Lib.join xs sep).length ≤ xs.length * (k + sep.length)
  | [], _ => by simp [Lib.join_nil]
  | x :: xs, h => by
    rw [Lib.join_length]
    have h1 := lens_le h
    have h2 : sep.length * xs.length ≤ (x :: xs).length * sep.length := by
      rw [Nat.mul_comm]; exact Nat.mul_le_mul_right _ (by simp)
    rw [Nat.mul_add]; omega
theorem join_ne {xs : List (List UInt8)} {sep : List UInt8} (h : xs ≠ []) (hx : ∀ x ∈ xs, x ≠ []) : Lib.join xs sep ≠ [] := by
  cases xs with
  | nil => exact absurd rfl h
  | cons y r =>
    rw [Lib.join_cons]
    intro e
    exact hx y (by simp) (List.append_eq_nil_iff.1 e).1
theorem itoa_ne (n : Int) : Lib.itoa n ≠ [] := by
  unfold Lib.itoa
  split
  · simp
  · have := (dec_all n.toNat).2
    intro e; rw [e] at this; simp at this
theorem itoa_len {n : Int} (h : 0 ≤ n) (h' : n < 100) : (Lib.itoa n).length ≤ 3 := by
  obtain ⟨u, rfl⟩ := Int.eq_ofNat_of_zero_le h
  rw [itoa_nat]
  by_cases h0 : u = 0
  · subst h0; rw [dec_zero]; simp
  · rw [dec_dd h0]; have := dd_len 3 u (by omega); exact this
theorem map_snoc {α : Type} {l : List Int} {k : Nat} (f : Int → α) (h : k < l.length) : (l.take (k + 1)).map f = (l.take k).map f ++ [f (l.getD k 0)] := by
  rw [List.take_add_one, List.getElem?_eq_getElem h, List.getD_eq_getElem?_getD, List.getElem?_eq_getElem h, List.map_append]; rfl
theorem small_mem {l : List Int} (h : l.all (fun x => inR x 0 63) = true) {x : Int} (hx : x ∈ l) : 0 ≤ x ∧ x ≤ 63 := by
  have := List.all_eq_true.1 h x hx
  rwa [inR_iff] at this
theorem small_at {l : List Int} (h : l.all (fun x => inR x 0 63) = true) {k : Nat} (hk : k < l.length) : 0 ≤ l.getD k 0 ∧ l.getD k 0 ≤ 63 := by
  rw [List.getD_eq_getElem?_getD, List.getElem?_eq_getElem hk]
  exact small_mem h (List.getElem_mem _)
theorem itoas_le {l : List Int} (h : l.all (fun x => inR x 0 63) = true) (sep : List UInt8) : (Lib.join (l.map Lib.itoa) sep).length ≤ l.length * (3 + sep.length) := by
  have := join_le (k := 3) (sep := sep) (xs := l.map Lib.itoa) (fun x hx => by
    obtain ⟨y, hy, rfl⟩ := List.mem_map.1 hx
    have := small_mem h hy
    exact itoa_len this.1 (by omega))
  rwa [List.length_map] at this
theorem all_take {l : List Int} {p : Int → Bool} (h : l.all p = true) (k : Nat) : (l.take k).all p = true := by
  rw [List.all_eq_true] at h ⊢; exact fun x hx => h x (List.mem_of_mem_take hx)
def tJi : Tab
  | [.sl .i64 l] => some (l.length ≤ 64 ∧ l.all (fun x => inR x 0 63) = true, .v (.string ⟨List.toArray (Lib.join (l.map Lib.itoa) [44])⟩), [])
  | _ => none
theorem joinInts_ok : Fits Tryd.prog 26 tJi := by
  refine ⟨callable_of Tryd.func26 (by kernel_rfl) rfl, ?_⟩
  intro args p out Ho h hp
  unfold tJi at h
  split at h <;> cases h
  rename_i l
  refine ⟨acall_by (env_ok (env := [(40, tItoa), (32, tJn)]) (by simp only [fmA, and_true]; exact ⟨implFmt_ok, cJoin_ok⟩)) Tryd.func26 rfl rfl rfl rfl rfl ?_, rfl, rfl⟩
  intro hlen c hc hX
  simp only [lensOk, AV.lenOk, true_and, and_true] at hlen
  simp only [Tryd.ntmps26, Tryd.results26, lsA, List.replicate, Nat.reduceAdd, Nat.reduceSub]
  have hj := itoas_le hp.2 [44]
  repeat' first | ((with_reducible show aol _ _ _ _ _); first|(refine gF (by rfl) ?_ ?_; focus simp only [go_sem]; done)|(refine gU (by rfl) ?_ ?_; focus simp only [go_sem]; done))|((with_reducible refine hK _ ?_); clear hK K; try simp only [nx])|(with_reducible first|refine aS fun K hK => ?_|refine aB ?_|apply And.intro|exact True.intro)|((first|((with_reducible show aol _ _ _ _ _); try first|(refine gT (by rfl) ?_ ?_; focus simp only [go_sem]; done)|refine gB (by rfl) (by rfl) (fun h => ?_) (fun h => ?_) <;> (try simp only [hsX, reduceCtorEq] at h))|((with_reducible show Awp _ _ (Code.region _ _ _) _ _); first|refine rK (by repeat constructor) (fun K hK => ?_)|(refine dK (by kernel_rfl) (by repeat constructor) (fun K hK => ?_)))) <;> simp (maxSteps := 2000000) (disch := omega) only [go_sem, ↓reduceIte, Nat.reduceEqDiff, Nat.reduceAdd, Nat.reduceLT, Nat.reduceLeDiff, Nat.reduceSub, tItoa, tJn, strs_sr, sr_len])|((with_reducible show Awp _ _ (Code.cond _ _ _) _ _); refine aC rfl (fun h => ?_) (fun h => ?_) <;> (try simp only [hsX, reduceCtorEq] at h))|((with_reducible first|refine aK ?_|refine aR ?_); simp only [nx])|((with_reducible refine aE ?_); simp only [nx, ne_eq, not_false_eq_true, Nat.reduceEqDiff, reduceCtorEq]; try ((repeat ((fail_if_success refine hK _ ?_); clear hK K)); refine hK _ ?_; clear hK K))|((with_reducible first|show List.all _ _ = true|show lendOk _ _ = true); rfl)|omega|((with_reducible first|show ¬ _|show _ → _); intro h; first|contradiction|cases h; done|skip)
  all_goals (try (first|refine fK ?_|refine fM ?_; repeat clear hK))
  refine awp_forR 0 hX (fun s (i : Nat) => s.at [9, 10] [(3, .own 0), (11, .i i)] [.rc 9 1 (sr ((l.take i).map Lib.itoa))]) (fun i => i ≤ l.length) (fun i => l.length - i) 0 (Nat.zero_le _) ?_ ?_
  · exact ⟨[0], rfl, rfl, by simp [-List.getD_eq_getElem?_getD, -List.length_take, gdA, leFr, ASt.at, keepFr, updAll, upd_zero, upd_succ, AV.rnb, AV.rnb0, sr_nil], by simp [-List.getD_eq_getElem?_getD, gdA, ASt.at, AO.rnb, AV.rnb0, upd_k0, upd_k1, upd_k2, upd_k3, sr_nil], rfl, rfl⟩
  rintro i hi
  simp only [ASt.at, keepFr, updAll, upd_zero, upd_succ, lgA, Nat.reduceEqDiff, Nat.reduceAdd, ↓reduceIte, eq_self]
  have hs := fun h => small_at (k := i) hp.2 h
  have ht : ((l.take i).map Lib.itoa).length ≤ 64 := by rw [List.length_map, List.length_take]; omega
  repeat' first | ((with_reducible show aol _ _ _ _ _); first|(refine gF (by rfl) ?_ ?_; focus simp only [go_sem]; done)|(refine gU (by rfl) ?_ ?_; focus simp only [go_sem]; done))|((with_reducible refine hK _ ?_); clear hK K; try simp only [nx])|(with_reducible first|refine aS fun K hK => ?_|refine aB ?_|apply And.intro|exact True.intro)|((first|((with_reducible show aol _ _ _ _ _); try first|(refine gT (by rfl) ?_ ?_; focus simp only [go_sem]; done)|refine gB (by rfl) (by rfl) (fun h => ?_) (fun h => ?_) <;> (try simp only [hsX, reduceCtorEq] at h))|((with_reducible show Awp _ _ (Code.region _ _ _) _ _); first|refine rK (by repeat constructor) (fun K hK => ?_)|(refine dK (by kernel_rfl) (by repeat constructor) (fun K hK => ?_)))) <;> simp (maxSteps := 2000000) (disch := omega) only [go_sem, ↓reduceIte, Nat.reduceEqDiff, Nat.reduceAdd, Nat.reduceLT, Nat.reduceLeDiff, Nat.reduceSub, tItoa, tJn, strs_sr, sr_len])|((with_reducible show Awp _ _ (Code.cond _ _ _) _ _); refine aC rfl (fun h => ?_) (fun h => ?_) <;> (try simp only [hsX, reduceCtorEq] at h))|((with_reducible first|refine aK ?_|refine aR ?_); simp only [nx])|((with_reducible refine aE ?_); simp only [nx, ne_eq, not_false_eq_true, Nat.reduceEqDiff, reduceCtorEq]; try ((repeat ((fail_if_success refine hK _ ?_); clear hK K)); refine hK _ ?_; clear hK K))|((with_reducible first|show List.all _ _ = true|show lendOk _ _ = true); rfl)|omega|((with_reducible first|show ¬ _|show _ → _); intro h; first|contradiction|cases h; done|skip)
  all_goals (try (first|refine fK ?_|refine fM ?_; repeat clear hK))
  · refine ⟨i + 1, by omega, by omega, ?_⟩
    rw [map_snoc _ (by omega), ← sr_app]
    exact ⟨[2], rfl, rfl, by simp [-List.getD_eq_getElem?_getD, -List.length_take, gdA, leFr, ASt.at, keepFr, updAll, upd_zero, upd_succ, AV.rnb, AV.rnb0], by simp [-List.getD_eq_getElem?_getD, gdA, ASt.at, AO.rnb, AV.rnb0, upd_k0, upd_k1, upd_k2, upd_k3], rfl, rfl⟩
  · rw [List.take_of_length_le (by omega)]
    simp only [List.length_cons, List.length_nil] at hj
    omega
  · refine fin_tmp rfl (str_eq ?_)
    rw [List.take_of_length_le (by omega)]
def fsL (s : Int) : List UInt8 := if s = 0 then [45] else Lib.join ((elL s.toNat 6).map Lib.itoa) [44]
def fsV (n s : Int) : List UInt8 := if inR n 0 6 && isSet n s then fsL s else []
def tFs : Tab
  | [.i n, .i s] => some (True, .v (.string ⟨List.toArray (fsV n s)⟩), [])
  | _ => none
theorem elL_nil_all : ((List.range 64).all fun s => decide (s = 0) || !decide (elL s 6 = [])) = true := by kernel_rfl
theorem elL_ne {s : Nat} (hs : s < 64) (h : s ≠ 0) : elL s 6 ≠ [] := by
  have := List.all_eq_true.1 elL_nil_all s (List.mem_range.2 hs)
  rw [decide_eq_false h, Bool.false_or, Bool.not_eq_true', decide_eq_false_iff_not] at this
  exact this
theorem elL_small (s : Nat) : (elL s 6).all (fun x => inR x 0 63) = true := by
  rw [List.all_eq_true]
  intro x hx
  obtain ⟨e, h1, _, rfl⟩ := mem_elL.1 hx
  rw [inR_iff]; omega
theorem set64 {n s : Int} (h : 0 ≤ n ∧ n ≤ 6) (hs : isSet n s = true) : 0 ≤ s ∧ s < 64 := by
  rw [isSet_iff] at hs
  have : (2 : Nat) ^ n.toNat ≤ 2 ^ 6 := Nat.pow_le_pow_right (by omega) (by omega)
  have h2 : ((2 ^ n.toNat : Nat) : Int) ≤ ((2 ^ 6 : Nat) : Int) := Int.ofNat_le.2 this
  rw [Int.natCast_pow, Int.natCast_pow] at h2
  exact ⟨hs.1, Int.lt_of_lt_of_le hs.2 h2⟩
theorem fsV_no1 {n s : Int} (h : ¬ (0 ≤ n ∧ n ≤ 6)) : fsV n s = [] := by unfold fsV; rw [← inR_not] at h; rw [h]; rfl
theorem fsV_no2 {n s : Int} (h : isSet n s = false) : fsV n s = [] := by unfold fsV; rw [h, Bool.and_false]; rfl
theorem fsV_yes {n s : Int} (h : 0 ≤ n ∧ n ≤ 6) (hs : isSet n s = true) : fsV n s = fsL s := by unfold fsV; rw [← inR_iff] at h; rw [h, hs]; rfl
theorem fsV_no {n : Int} {s : Int} (h : ¬ (0 ≤ s ∧ s < 2 ^ n.toNat)) : fsV n s = [] := fsV_no2 (by rw [isSet_not]; exact h)
theorem fsV_z {n : Int} {s : Int} (h : 0 ≤ n ∧ n ≤ 6) (hs : 0 ≤ s ∧ s < 2 ^ n.toNat) (h0 : s = 0) : fsV n s = [45] := by
  rw [fsV_yes h (by rw [isSet_iff]; exact hs), fsL, if_pos h0]
theorem fsV_j {n : Int} {s : Int} (h : 0 ≤ n ∧ n ≤ 6) (hs : 0 ≤ s ∧ s < 2 ^ n.toNat) (h0 : ¬ s = 0) : fsV n s = Lib.join ((elL s.toNat 6).map Lib.itoa) [44] := by
  rw [fsV_yes h (by rw [isSet_iff]; exact hs), fsL, if_neg h0]
theorem set_lt {n : Int} {s : Int} (h : 0 ≤ n ∧ n ≤ 6) (hs : 0 ≤ s ∧ s < 2 ^ n.toNat) : 0 ≤ s ∧ s < 64 := set64 h (by rw [isSet_iff]; exact hs)
theorem implFs_ok : Fits Tryd.prog 8 tFs := by
  refine ⟨callable_of Tryd.func8 (by kernel_rfl) rfl, ?_⟩
  intro args p out Ho h hp
  unfold tFs at h
  split at h <;> cases h
  rename_i n s
  refine ⟨acall_by (env_ok (env := [(24, tWithin), (25, tIsSetOf), (27, tElem), (26, tJi)]) (by simp only [fmA, and_true]; exact ⟨within_ok, isSetOf_ok, elem_ok, joinInts_ok⟩)) Tryd.func8 rfl rfl rfl rfl rfl ?_, rfl, rfl⟩
  intro hlen c hc hX
  simp only [lensOk, AV.lenOk, true_and, and_true] at hlen
  simp only [Tryd.ntmps8, Tryd.results8, lsA, List.replicate, Nat.reduceAdd, Nat.reduceSub]
  have hel := elL_small s.toNat
  have hell := elL_len s.toNat 6
  repeat' first | ((with_reducible show aol _ _ _ _ _); first|(refine gF (by rfl) ?_ ?_; focus simp only [go_sem]; done)|(refine gU (by rfl) ?_ ?_; focus simp only [go_sem]; done))|((with_reducible refine hK _ ?_); clear hK K; try simp only [nx])|(with_reducible first|refine aS fun K hK => ?_|refine aB ?_|apply And.intro|exact True.intro)|((first|((with_reducible show aol _ _ _ _ _); try first|(refine gT (by rfl) ?_ ?_; focus simp only [go_sem]; done)|refine gB (by rfl) (by rfl) (fun h => ?_) (fun h => ?_) <;> (try simp only [hsX, reduceCtorEq] at h))|((with_reducible show Awp _ _ (Code.region _ _ _) _ _); first|refine rK (by repeat constructor) (fun K hK => ?_)|(refine dK (by kernel_rfl) (by repeat constructor) (fun K hK => ?_)))) <;> simp (maxSteps := 2000000) (disch := omega) only [go_sem, ↓reduceIte, Nat.reduceEqDiff, Nat.reduceAdd, Nat.reduceLT, Nat.reduceLeDiff, Nat.reduceSub, tWithin, tIsSetOf, tElem, tJi])|((with_reducible show Awp _ _ (Code.cond _ _ _) _ _); refine aC rfl (fun h => ?_) (fun h => ?_) <;> (try simp only [hsX, reduceCtorEq] at h))|((with_reducible first|refine aK ?_|refine aR ?_); simp only [nx])|((with_reducible refine aE ?_); simp only [nx, ne_eq, not_false_eq_true, Nat.reduceEqDiff, reduceCtorEq]; try ((repeat ((fail_if_success refine hK _ ?_); clear hK K)); refine hK _ ?_; clear hK K))|((with_reducible first|show List.all _ _ = true|show lendOk _ _ = true); rfl)|omega|((with_reducible first|show ¬ _|show _ → _); intro h; first|contradiction|cases h; done|skip)
  all_goals (try (first|refine fK ?_|refine fM ?_; repeat clear hK))
  all_goals first
    | exact fin_tmp rfl (str_eq (fsV_no (by assumption)).symm)
    | exact fin_tmp rfl (str_eq (fsV_no1 (by assumption)).symm)
    | exact fin_tmp rfl (str_eq (fsV_z (by assumption) (by assumption) (by assumption)).symm)
    | exact fin_tmp rfl (str_eq (fsV_j (by assumption) (by assumption) (by assumption)).symm)
    | exact (set_lt (by assumption) (by assumption)).2
theorem join_step {l : List Int} {i : Nat} (h : i < l.length) (hi : 0 < i) (sep : List UInt8) :
    Lib.join ((l.take (i + 1)).map Lib.itoa) sep = (Lib.join ((l.take i).map Lib.itoa) sep ++ sep) ++ Lib.itoa (l.getD i 0) := by
  rw [map_snoc _ h, join_snoc]
  intro e
  have := congrArg List.length e
  rw [List.length_map, List.length_take, List.length_nil] at this
  omega
theorem join_empty {s : Nat} (hs : s < 64) : Lib.join ((elL s 6).map Lib.itoa) [44] = [] ↔ s = 0 := by
  constructor
  · intro h
    by_cases h0 : s = 0
    · exact h0
    · refine absurd h (join_ne (by simpa using elL_ne hs h0) fun x hx => ?_)
      obtain ⟨y, _, rfl⟩ := List.mem_map.1 hx
      exact itoa_ne y
  · rintro rfl; rfl
theorem join_first {l : List Int} (h : 0 < l.length) (sep : List UInt8) : Lib.join ((l.take (0 + 1)).map Lib.itoa) sep = Lib.join ((l.take 0).map Lib.itoa) sep ++ Lib.itoa (l.getD 0 0) := by
  rw [map_snoc _ h]; simp [Lib.join_one, Lib.join_nil]
theorem specFs_ok : Fits Tryd.prog 7 tFs := by
  refine ⟨callable_of Tryd.func7 (by kernel_rfl) rfl, ?_⟩
  intro args p out Ho h hp
  unfold tFs at h
  split at h <;> cases h
  rename_i n s
  refine ⟨acall_by (env_ok (env := [(20, tWithin), (21, tFull), (22, tElem), (23, tItoa)]) (by simp only [fmA, and_true]; exact ⟨specIn_ok, full_ok, list2_ok, specFmt_ok⟩)) Tryd.func7 rfl rfl rfl rfl rfl ?_, rfl, rfl⟩
  intro hlen c hc hX
  simp only [lensOk, AV.lenOk, true_and, and_true] at hlen
  simp only [Tryd.ntmps7, Tryd.results7, lsA, List.replicate, Nat.reduceAdd, Nat.reduceSub]
  have hel := elL_small s.toNat
  have hell := elL_len s.toNat 6
  repeat' first | ((with_reducible show aol _ _ _ _ _); first|(refine gF (by rfl) ?_ ?_; focus simp only [go_sem]; done)|(refine gU (by rfl) ?_ ?_; focus simp only [go_sem]; done))|((with_reducible refine hK _ ?_); clear hK K; try simp only [nx])|(with_reducible first|refine aS fun K hK => ?_|refine aB ?_|apply And.intro|exact True.intro)|((first|((with_reducible show aol _ _ _ _ _); try first|(refine gT (by rfl) ?_ ?_; focus simp only [go_sem]; done)|refine gB (by rfl) (by rfl) (fun h => ?_) (fun h => ?_) <;> (try simp only [hsX, reduceCtorEq] at h))|((with_reducible show Awp _ _ (Code.region _ _ _) _ _); first|refine rK (by repeat constructor) (fun K hK => ?_)|(refine dK (by kernel_rfl) (by repeat constructor) (fun K hK => ?_)))) <;> simp (maxSteps := 2000000) (disch := omega) only [go_sem, ↓reduceIte, Nat.reduceEqDiff, Nat.reduceAdd, Nat.reduceLT, Nat.reduceLeDiff, Nat.reduceSub, tWithin, tFull, inR_isSet, tElem, tItoa])|((with_reducible show Awp _ _ (Code.cond _ _ _) _ _); refine aC rfl (fun h => ?_) (fun h => ?_) <;> (try simp only [hsX, reduceCtorEq] at h))|((with_reducible first|refine aK ?_|refine aR ?_); simp only [nx])|((with_reducible refine aE ?_); simp only [nx, ne_eq, not_false_eq_true, Nat.reduceEqDiff, reduceCtorEq]; try ((repeat ((fail_if_success refine hK _ ?_); clear hK K)); refine hK _ ?_; clear hK K))|((with_reducible first|show List.all _ _ = true|show lendOk _ _ = true); rfl)|omega|((with_reducible first|show ¬ _|show _ → _); intro h; first|contradiction|cases h; done|skip)
  all_goals (try (first|refine fK ?_|refine fM ?_; repeat clear hK))
  · exact fin_tmp rfl (str_eq (fsV_no (by assumption)).symm)
  · exact (set_lt (by assumption) (by assumption)).2
  · rename_i h1 h2
    refine awp_for (fun st (i : Nat) => st.at [6] [(5, .v (.string ⟨List.toArray (Lib.join (((elL s.toNat 6).take i).map Lib.itoa) [44])⟩)), (7, .i i)] st.hp) (fun i => i ≤ (elL s.toNat 6).length) (fun i => (elL s.toNat 6).length - i) 0 (Nat.zero_le _) ?_ ?_
    · simp [-List.getD_eq_getElem?_getD, -List.length_take, Le, leFr, ASt.at, keepFr, updAll, upd_zero, upd_succ, Lib.join_nil]
    rintro i hi
    simp only [ASt.at, keepFr, updAll, upd_zero, upd_succ, lgA, Nat.reduceEqDiff, Nat.reduceAdd, ↓reduceIte, eq_self]
    have hs := fun h => small_at (k := i) hel h
    have hj := itoas_le (all_take hel i) [44]
    have hjl : ((elL s.toNat 6).take i).length ≤ 6 := by rw [List.length_take]; omega
    have hjb : (Lib.join (((elL s.toNat 6).take i).map Lib.itoa) [44]).length ≤ 24 := by
      simp only [List.length_cons, List.length_nil] at hj; omega
    have hit := fun h => itoa_len (hs h).1 (by have := (hs h).2; omega)
    repeat' first | ((with_reducible show aol _ _ _ _ _); first|(refine gF (by rfl) ?_ ?_; focus simp only [go_sem]; done)|(refine gU (by rfl) ?_ ?_; focus simp only [go_sem]; done))|((with_reducible refine hK _ ?_); clear hK K; try simp only [nx])|(with_reducible first|refine aS fun K hK => ?_|refine aB ?_|apply And.intro|exact True.intro)|((first|((with_reducible show aol _ _ _ _ _); try first|(refine gT (by rfl) ?_ ?_; focus simp only [go_sem]; done)|refine gB (by rfl) (by rfl) (fun h => ?_) (fun h => ?_) <;> (try simp only [hsX, reduceCtorEq] at h))|((with_reducible show Awp _ _ (Code.region _ _ _) _ _); first|refine rK (by repeat constructor) (fun K hK => ?_)|(refine dK (by kernel_rfl) (by repeat constructor) (fun K hK => ?_)))) <;> simp (maxSteps := 2000000) (disch := omega) only [go_sem, ↓reduceIte, Nat.reduceEqDiff, Nat.reduceAdd, Nat.reduceLT, Nat.reduceLeDiff, Nat.reduceSub, tWithin, tFull, inR_isSet, tElem, tItoa, List.length_append])|((with_reducible show Awp _ _ (Code.cond _ _ _) _ _); refine aC rfl (fun h => ?_) (fun h => ?_) <;> (try simp only [hsX, reduceCtorEq] at h))|((with_reducible first|refine aK ?_|refine aR ?_); simp only [nx])|((with_reducible refine aE ?_); simp only [nx, ne_eq, not_false_eq_true, Nat.reduceEqDiff, reduceCtorEq]; try ((repeat ((fail_if_success refine hK _ ?_); clear hK K)); refine hK _ ?_; clear hK K))|((with_reducible first|show List.all _ _ = true|show lendOk _ _ = true); rfl)|omega|((with_reducible first|show ¬ _|show _ → _); intro h; first|contradiction|cases h; done|skip)
    all_goals (try (first|refine fK ?_|refine fM ?_; repeat clear hK))
    · refine ⟨i + 1, by omega, by omega, ?_⟩
      rw [join_step (by omega) (by omega)]
      simp [-List.getD_eq_getElem?_getD, -List.length_take, Le, leFr, ASt.at, keepFr, updAll, upd_zero, upd_succ]
    · obtain rfl : i = 0 := by omega
      refine ⟨0 + 1, by omega, by omega, ?_⟩
      rw [join_first (by omega)]
      simp [-List.getD_eq_getElem?_getD, -List.length_take, Le, leFr, ASt.at, keepFr, updAll, upd_zero, upd_succ]
    · rw [List.take_of_length_le (by omega)] at h
      have h64 := set_lt h2 (by assumption)
      have h0 := (join_empty (s := s.toNat) (by omega)).1 h
      exact fin_tmp rfl (str_eq (fsV_z (by assumption) (by assumption) (by omega)).symm)
    · rw [List.take_of_length_le (by omega)] at h
      have h64 := set_lt h2 (by assumption)
      have h0 : ¬ s = 0 := fun e => h ((join_empty (s := s.toNat) (by omega)).2 (by omega))
      refine fin_tmp rfl (str_eq ?_)
      rw [fsV_j (by assumption) (by assumption) h0, List.take_of_length_le (by omega)]
  · exact fin_tmp rfl (str_eq (fsV_no1 (by assumption)).symm)
end Go.Proofs.YthoionlldmfpiaaDoor
