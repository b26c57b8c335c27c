/-
  AN ABSTRACT MACHINE, part G: regions, in the text's order and in any order.
-/
import Derived.Test.YthoionlldmfpiaaDoorAbF
import Derived.StillTail
set_option linter.unusedSimpArgs false
set_option linter.unusedVariables false
namespace Go.Ab
open Go Go.RowKit

/-- A region's operations in the text's order. -/
def aops (C : Cfg) (ops : Array Oper) : List Oper → ASt → (ASt → Prop) → Prop
  | [], s, K => K s
  | o :: rest, s, K =>
    match o.guard with
    | none => (aop C o.op s.ev s.hp).run fun v H => aops C ops rest ((⟨s.fr, H⟩ : ASt).put o.dst v) K
    | some (j, want) =>
      match (ops[j]?).bind (·.dst) with
      | none => False
      | some d =>
        match nth s.fr d with
        | .un => aops C ops rest (s.put o.dst .un) K
        | .b x =>
          (x = want → (aop C o.op ((⟨upd s.fr d (.b want), s.hp⟩ : ASt)).ev s.hp).run fun v H => aops C ops rest ((⟨upd s.fr d (.b want), H⟩ : ASt).put o.dst v) K) ∧
          (x = !want → aops C ops rest ((⟨upd s.fr d (.b (!want)), s.hp⟩ : ASt).put o.dst .un) K)
        | _ => False

/-- One operation's step. -/
def Ex (C : Cfg) (o : Oper) (s s' : ASt) : Prop := ∃ p v H, aop C o.op s.ev s.hp = .ok p v H ∧ p ∧ s' = (⟨s.fr, H⟩ : ASt).put o.dst v
def astep (C : Cfg) (ops : Array Oper) (o : Oper) (s s' : ASt) : Prop :=
  match o.guard with
  | none => Ex C o s s'
  | some (j, want) => ∃ d, (ops[j]?).bind (·.dst) = some d ∧
      ((nth s.fr d = .un ∧ s' = s.put o.dst .un) ∨ (nth s.fr d = .b want ∧ Ex C o s s') ∨ (nth s.fr d = .b (!want) ∧ s' = s.put o.dst .un))

theorem upd_self : ∀ (l : List AV) (n : Nat) (x : AV), nth l n = x → upd l n x = l
  | [], _, _, _ => rfl
  | y :: _, 0, x, h => by simp only [nth] at h; subst h; rfl
  | y :: ys, n + 1, x, h => by simp only [nth] at h; simp only [upd]; rw [upd_self ys n x h]

theorem upd_ge : ∀ (l : List AV) (n : Nat) (x : AV), l.length ≤ n → upd l n x = l
  | [], _, _, _ => rfl
  | _ :: _, 0, _, h => by simp at h
  | y :: ys, n + 1, x, h => by simp only [upd]; rw [upd_ge ys n x (by simpa using h)]

theorem Res.run_spec {r : Res} {K : AV → List AO → Prop} (h : r.run K) : ∃ p v H, r = .ok p v H ∧ p ∧ K v H := by
  cases r with
  | bad => exact h.elim
  | ok p v H => exact ⟨p, v, H, rfl, h.1, h.2⟩

theorem aops_cons {C : Cfg} {ops : Array Oper} {o : Oper} {rest : List Oper} {s : ASt} {K : ASt → Prop} (h : aops C ops (o :: rest) s K) : ∃ s', astep C ops o s s' ∧ aops C ops rest s' K := by
  unfold aops at h
  split at h
  · rename_i hg
    obtain ⟨p, v, H, h1, h2, h3⟩ := Res.run_spec h
    refine ⟨_, ?_, h3⟩
    unfold astep; rw [hg]; exact ⟨p, v, H, h1, h2, rfl⟩
  · rename_i j want hg
    split at h
    · exact h.elim
    · rename_i d hd
      split at h
      · rename_i hn
        refine ⟨_, ?_, h⟩
        unfold astep; rw [hg]; exact ⟨d, hd, .inl ⟨hn, rfl⟩⟩
      · rename_i x hn
        by_cases hx : x = want
        · subst hx
          obtain ⟨p, v, H, h1, h2, h3⟩ := Res.run_spec (h.1 rfl)
          have he : (⟨upd s.fr d (.b x), s.hp⟩ : ASt) = s := by rw [upd_self _ _ _ hn]
          rw [he] at h1
          rw [upd_self _ _ _ hn] at h3
          refine ⟨_, ?_, h3⟩
          unfold astep; rw [hg]; exact ⟨d, hd, .inr (.inl ⟨hn, p, v, H, h1, h2, rfl⟩)⟩
        · have hx' : x = !want := by cases x <;> cases want <;> simp_all
          subst hx'
          have h3 := h.2 rfl
          rw [upd_self _ _ _ hn] at h3
          refine ⟨_, ?_, h3⟩
          unfold astep; rw [hg]; exact ⟨d, hd, .inr (.inr ⟨hn, rfl⟩)⟩
      · exact h.elim

section
variable {c : Cx} {C : Cfg} {a : Act} {ρ : Nat → Option Value} {w : World} {Q : Exit → Act → World → Prop} {ops : Array Oper} {s : ASt}

theorem put_get (a : Act) (dst : Option Tmp) (u : Value) (t : Nat) : (a.put dst u).tmps.getD t undef = if dst = some t ∧ t < a.tmps.size then u else a.tmps.getD t undef := by
  cases dst with
  | none => simp [Act.put]
  | some d =>
    simp only [Act.put, Option.some.injEq]
    by_cases e : d = t
    · subst e
      by_cases hl : d < a.tmps.size
      · simp [hl]
      · simp [hl]
    · simp [e]
theorem put_size (a : Act) (dst : Option Tmp) (u : Value) : (a.put dst u).tmps.size = a.tmps.size := by cases dst <;> simp [Act.put]
theorem put_defers (a : Act) (dst : Option Tmp) (u : Value) : (a.put dst u).defers = a.defers := by cases dst <;> rfl
theorem nth_put (s : ASt) (dst : Option Tmp) (v : AV) (t : Nat) : nth (s.put dst v).fr t = if dst = some t ∧ t < s.fr.length then v else nth s.fr t := by
  cases dst with
  | none => simp [ASt.put]
  | some d =>
    simp only [ASt.put, Option.some.injEq]
    by_cases e : d = t
    · subst e
      by_cases hl : d < s.fr.length
      · rw [nth_upd_same _ _ _ hl]; simp [hl]
      · simp only [hl, and_false, if_false]
        rw [upd_ge s.fr d v (Nat.not_lt.1 hl)]
    · rw [nth_upd_other _ _ _ _ e]; simp [e]

theorem length_put (s : ASt) (dst : Option Tmp) (v : AV) : (s.put dst v).fr.length = s.fr.length := by cases dst <;> simp [ASt.put]
theorem hp_put (s : ASt) (dst : Option Tmp) (v : AV) : (s.put dst v).hp = s.hp := by cases dst <;> rfl

theorem ev_ok (h : Rel c s a w ρ) (x : Operand) : RV c ρ (s.ev x) (a.eval x) := by
  cases x with
  | tmp t => exact h.fr t
  | const y => exact RV.const c ρ y
  | global g => trivial
  | func f => simp only [ASt.ev, Act.eval, RV]; exact ⟨[], rfl, rfl⟩

theorem Rel.put (h : Rel c s a w ρ) {ρ' : Nat → Option Value} (he : Ext ρ ρ') {w' : World} {H : List AO} (hH : HR c w' ρ' H) (hk : Keep c w') {v : AV} {u : Value} (hv : RV c ρ' v u) (dst : Option Tmp) :
    Rel c ((⟨s.fr, H⟩ : ASt).put dst v) (a.put dst u) w' ρ' := by
  refine ⟨fun t => ?_, by rw [length_put, put_size]; exact h.len, by rw [put_defers]; exact h.defers, by rw [hp_put]; exact hH, hk, fun j x hx => he _ _ (h.lent j x hx)⟩
  rw [nth_put, put_get]
  have hl := h.len
  simp only [hl]
  split
  · exact hv
  · exact RV.ext he _ _ (h.fr t)

theorem yield_of {j d : Nat} (hd : (ops[j]?).bind (·.dst) = some d) : yielded ops a.tmps j = match a.tmps[d]? with | some (.bool b) => some b | _ => none := by
  unfold yielded; rw [hd]; rfl
theorem yield_bool {j d : Nat} (hd : (ops[j]?).bind (·.dst) = some d) {x : Bool} (h : a.tmps.getD d undef = .bool x) : yielded ops a.tmps j = some x := by
  rw [yield_of hd]
  cases e : a.tmps[d]? with
  | none => simp [e] at h; cases h
  | some y => simp [e] at h; subst h; rfl
theorem yield_undef {j d : Nat} (hd : (ops[j]?).bind (·.dst) = some d) (h : a.tmps.getD d undef = undef) : yielded ops a.tmps j = none := by
  rw [yield_of hd]
  cases e : a.tmps[d]? with
  | none => rfl
  | some y => simp [e] at h; subst h; rfl

/-- Sequentially. -/
theorem aops_seq (ok : CfgOk c.P C) {K : ASt → Prop} (hK : ∀ s a w ρ, K s → Rel c s a w ρ → Q .normal a w) : ∀ (l : List Oper) (s : ASt) (a : Act) (w : World) (ρ : Nat → Option Value),
    aops C ops l s K → Rel c s a w ρ → wpList c.P ops Q l a w
  | [], s, a, w, ρ, h, hr => hK s a w ρ h hr
  | o :: rest, s, a, w, ρ, h, hr => by
    obtain ⟨s', hs, h'⟩ := aops_cons h
    have ih := aops_seq ok hK rest s'
    have exe : Ex C o s s' → o.wp c.P a w (wpList c.P ops Q rest) Q := by
      rintro ⟨p, v, H, h1, h2, rfl⟩
      refine Oper.wp_mono ?_ (op_any ok h1 h2 hr.hp hr.keep (fun x _ => ev_ok hr x))
      rintro a' w' ⟨u, ρ', rfl, he, hH, hk, hv⟩
      exact ih _ _ ρ' h' (hr.put he hH hk hv o.dst)
    have skp : s' = s.put o.dst .un → wpList c.P ops Q rest (a.put o.dst undef) w := by
      rintro rfl
      exact ih _ _ ρ h' (hr.put (fun _ _ h => h) hr.hp hr.keep (v := .un) (u := undef) rfl o.dst)
    unfold wpList
    unfold astep at hs
    split at hs
    · rename_i hg
      rw [if_pos (by simp [Region.wanted, hg])]
      exact .inl (exe hs)
    · rename_i j want hg
      obtain ⟨d, hd, hs⟩ := hs
      have hfr := hr.fr d
      rcases hs with ⟨hn, hs⟩ | ⟨hn, hs⟩ | ⟨hn, hs⟩
      · rw [hn] at hfr
        rw [if_neg (by simp [Region.wanted, hg, yield_undef hd hfr])]
        exact skp hs
      · rw [hn] at hfr
        rw [if_pos (by simp [Region.wanted, hg, yield_bool hd hfr])]
        exact .inl (exe hs)
      · rw [hn] at hfr
        rw [if_neg (by simp [Region.wanted, hg, yield_bool hd hfr])]
        exact skp hs

/-! ### Any order -/
/-- The first n operations turn no object, write each its own slot once, read slots that an earlier operation writes only where they wait for it, and wait for earlier ones alone. -/
def stableB (ops : Array Oper) (n : Nat) : Bool :=
  (List.range n).all fun i =>
    match ops[i]? with
    | none => false
    | some o =>
      stableOp o.op && o.after.all (fun e => !Region.binds .any e || decide (e.on < i)) &&
      (o.looksAt ops).all (fun t => (List.range n).all fun j => ((ops[j]?).bind (·.dst) != some t) || (decide (j < i) && o.after.any (fun e => Region.binds .any e && e.on == j))) &&
      (match o.dst with
       | none => true
       | some d => (List.range n).all fun j => decide (j = i) || ((ops[j]?).bind (·.dst) != some d))

theorem stableB_spec {n : Nat} (h : stableB ops n = true) {i : Nat} (hi : i < n) : ∃ o, ops[i]? = some o ∧ stableOp o.op = true ∧ (∀ e ∈ o.after, Region.binds .any e = true → e.on < i) ∧
    (∀ t ∈ o.looksAt ops, ∀ j, j < n → (ops[j]?).bind (·.dst) = some t → j < i ∧ ∃ e ∈ o.after, Region.binds .any e = true ∧ e.on = j) ∧
    (∀ d, o.dst = some d → ∀ j, j < n → (ops[j]?).bind (·.dst) = some d → j = i) := by
  have h1 := List.all_eq_true.1 h i (List.mem_range.2 hi)
  split at h1
  · cases h1
  · rename_i o ho
    simp only [Bool.and_eq_true] at h1
    obtain ⟨⟨⟨h2, h3⟩, h4⟩, h5⟩ := h1
    refine ⟨o, ho, h2, fun e he hb => ?_, fun t ht j hj hd => ?_, fun d hd j hj hjd => ?_⟩
    · have := Array.all_eq_true_iff_forall_mem.1 h3 e he
      rw [hb] at this
      simpa using this
    · have h6 := List.all_eq_true.1 (List.all_eq_true.1 h4 t ht) j (List.mem_range.2 hj)
      simp only [Bool.or_eq_true, hd, bne_self_eq_false, Bool.false_eq_true, false_or, Bool.and_eq_true, decide_eq_true_eq] at h6
      obtain ⟨h7, h8⟩ := h6
      obtain ⟨e, he, hb⟩ := Array.any_eq_true'.1 h8
      simp only [Bool.and_eq_true, beq_iff_eq] at hb
      exact ⟨h7, e, he, hb.1, hb.2⟩
    · simp only [hd] at h5
      have h6 := List.all_eq_true.1 h5 j (List.mem_range.2 hj)
      simp only [Bool.or_eq_true, decide_eq_true_eq, hjd, bne_self_eq_false, Bool.false_eq_true, or_false] at h6
      exact h6

/-- The states of the text's order. -/
theorem trace {K : ASt → Prop} : ∀ (l : List Oper) (s : ASt) (rest : List Oper), aops C ops (l ++ rest) s K →
    ∃ S : Nat → ASt, S 0 = s ∧ aops C ops rest (S l.length) K ∧ ∀ (i : Nat) (o : Oper), l[i]? = some o → astep C ops o (S i) (S (i + 1))
  | [], s, rest, h => ⟨fun _ => s, rfl, h, fun i o hi => by simp at hi⟩
  | o :: l, s, rest, h => by
    obtain ⟨s', hs, h'⟩ := aops_cons (rest := l ++ rest) h
    obtain ⟨S, h1, h2, h3⟩ := trace l s' rest h'
    refine ⟨fun i => match i with | 0 => s | i + 1 => S i, rfl, h2, fun i o' hi => ?_⟩
    cases i with
    | zero => simp at hi; subst hi; show astep C ops o s (S 0); rw [h1]; exact hs
    | succ i => exact h3 i o' (by simpa using hi)

theorem astep_fr {o : Oper} {s s' : ASt} (h : astep C ops o s s') : s'.fr.length = s.fr.length ∧ ∀ t, o.dst ≠ some t → nth s'.fr t = nth s.fr t := by
  have key : ∀ (H : List AO) (v : AV), ((⟨s.fr, H⟩ : ASt).put o.dst v).fr.length = s.fr.length ∧ ∀ t, o.dst ≠ some t → nth ((⟨s.fr, H⟩ : ASt).put o.dst v).fr t = nth s.fr t := fun H v =>
    ⟨length_put _ _ _, fun t ht => by rw [nth_put]; simp [ht]⟩
  have ex : Ex C o s s' → s'.fr.length = s.fr.length ∧ ∀ t, o.dst ≠ some t → nth s'.fr t = nth s.fr t := by rintro ⟨p, v, H, _, _, rfl⟩; exact key H v
  unfold astep at h
  split at h
  · exact ex h
  · obtain ⟨d, _, h⟩ := h
    rcases h with ⟨_, rfl⟩ | ⟨_, h⟩ | ⟨_, rfl⟩
    · exact key s.hp _
    · exact ex h
    · exact key s.hp _
theorem astep_hp {o : Oper} {s s' : ASt} (h : astep C.noM ops o s s') (hst : stableOp o.op = true) : Pre s.hp s'.hp := by
  have ex : Ex C.noM o s s' → Pre s.hp s'.hp := by
    rintro ⟨p, v, H, h1, _, rfl⟩
    rw [hp_put]
    have := aop_pre (C := C) (ev := s.ev) (H := s.hp) hst; rw [h1] at this; exact this
  unfold astep at h
  split at h
  · exact ex h
  · obtain ⟨d, _, h⟩ := h
    rcases h with ⟨_, rfl⟩ | ⟨_, h⟩ | ⟨_, rfl⟩
    · rw [hp_put]; exact Pre.refl _
    · exact ex h
    · rw [hp_put]; exact Pre.refl _

/-- What holds while the first n operations run in some order: 'listed' are done. -/
structure Inv (c : Cx) (ops : Array Oper) (n : Nat) (S : Nat → ASt) (listed : Array Bool) (a : Act) (w : World) (ρ : Nat → Option Value) : Prop where
  fr : ∀ t, (∀ j, j < n → (ops[j]?).bind (·.dst) = some t → listed.getD j false = true) → RV c ρ (nth (S n).fr t) (a.tmps.getD t undef)
  len : (S n).fr.length = a.tmps.size
  defers : a.defers = []
  hp : HR c w ρ (S n).hp
  keep : Keep c w
  lent : ∀ j x, c.L j = some x → ρ j = some x
  dom : ∀ id, ρ id ≠ none → id < (S 0).hp.length ∨ ∃ j, j < n ∧ listed.getD j false = true ∧ (S j).hp.length ≤ id ∧ id < (S (j + 1)).hp.length

structure Tr (C : Cfg) (ops : Array Oper) (n : Nat) (S : Nat → ASt) : Prop where
  st : stableB ops n = true
  step : ∀ (i : Nat) (o : Oper), i < n → ops[i]? = some o → astep C.noM ops o (S i) (S (i + 1))

theorem Tr.up {n : Nat} {S : Nat → ASt} (T : Tr C ops n S) {i : Nat} : ∀ k, i + k ≤ n → Pre (S i).hp (S (i + k)).hp ∧ (S (i + k)).fr.length = (S i).fr.length ∧
    ∀ t, (∀ j, i ≤ j → j < i + k → (ops[j]?).bind (·.dst) ≠ some t) → nth (S (i + k)).fr t = nth (S i).fr t
  | 0, _ => ⟨Pre.refl _, rfl, fun _ _ => rfl⟩
  | k + 1, h => by
    obtain ⟨h1, h2, h3⟩ := T.up (i := i) k (by omega)
    obtain ⟨o, ho, hst, _⟩ := stableB_spec (n := n) T.st (i := i + k) (by omega)
    have hs := T.step (i + k) o (by omega) ho
    have hf := astep_fr hs
    refine ⟨h1.trans (astep_hp hs hst), by rw [show i + (k + 1) = i + k + 1 by omega, hf.1]; exact h2, fun t ht => ?_⟩
    rw [show i + (k + 1) = i + k + 1 by omega, hf.2 t (fun e => ht (i + k) (by omega) (by omega) (by simp [ho, e]))]
    exact h3 t fun j h1 h2 => ht j h1 (by omega)

theorem set_true_of {listed : Array Bool} {i j : Nat} (h : (listed.setIfInBounds i true).getD j false = true) (hj : j ≠ i) : listed.getD j false = true := by
  rw [getD_set_ne false (Ne.symm hj)] at h; exact h

theorem Inv.step {n : Nat} {S : Nat → ASt} (ok : CfgOk c.P C) (T : Tr C ops n S) {listed : Array Bool} (inv : Inv c ops n S listed a w ρ) {i : Nat} (hi : i < n) (hrdy : i ∈ Region.ready .any ops listed) (hin : i < listed.size)
    {K : Act → World → Prop} (hK : ∀ a' w' ρ', Inv c ops n S (listed.setIfInBounds i true) a' w' ρ' → K a' w') : wpOp c.P ops Q i K a w := by
  obtain ⟨o, ho, hst, hlow, hlooks, huniq⟩ := stableB_spec T.st hi
  obtain ⟨hun, o', ho', hall⟩ := mem_ready.1 hrdy
  rw [ho] at ho'; cases ho'
  have hs := T.step i o hi ho
  have hi1 := T.up (i := i + 1) (n - (i + 1)) (by omega)
  rw [show i + 1 + (n - (i + 1)) = n by omega] at hi1
  have hi0 := T.up (i := i) (n - i) (by omega)
  rw [show i + (n - i) = n by omega] at hi0
  -- a slot that the operation reads
  have hread : ∀ t ∈ o.looksAt ops, nth (S i).fr t = nth (S n).fr t ∧ RV c ρ (nth (S n).fr t) (a.tmps.getD t undef) := fun t ht => by
    refine ⟨(hi0.2.2 t fun j h1 h2 hd => ?_).symm, inv.fr t fun j hj hd => ?_⟩
    · have := (hlooks t ht j (by omega) hd).1; omega
    · obtain ⟨_, e, he, hb, hon⟩ := hlooks t ht j hj hd
      rw [← hon]; exact hall e he hb
  have mono : ∀ j k, j ≤ k → k ≤ n → (S j).hp.length ≤ (S k).hp.length := fun j k h1 h2 => by
    have := (T.up (i := j) (k - j) (by omega)).1.length
    rwa [show j + (k - j) = k by omega] at this
  have hfree : ∀ id, (S i).hp.length ≤ id → id < (S (i + 1)).hp.length → ρ id = none := fun id h1 h2 => by
    cases hx : ρ id with
    | none => rfl
    | some x =>
      rcases inv.dom id (by rw [hx]; simp) with h | ⟨j, hj, hl, h3, h4⟩
      · have := mono 0 i (by omega) (by omega); omega
      · rcases Nat.lt_trichotomy j i with h | h | h
        · have := mono (j + 1) i (by omega) (by omega); omega
        · subst h; have : listed.getD j false = false := getD_both hun; rw [this] at hl; cases hl
        · have := mono (i + 1) j (by omega) (by omega); omega
  -- what the step leaves
  have after : ∀ (v : AV) (u : Value) (w' : World) (ρ' : Nat → Option Value), S (i + 1) = (⟨(S i).fr, (S (i + 1)).hp⟩ : ASt).put o.dst v → Ext ρ ρ' → (∀ id, ρ' id ≠ none → ρ id ≠ none ∨ ((S i).hp.length ≤ id ∧ id < (S (i + 1)).hp.length)) →
      HR c w' ρ' (S n).hp → Keep c w' → RV c ρ' v u → Inv c ops n S (listed.setIfInBounds i true) (a.put o.dst u) w' ρ' := by
    intro v u w' ρ' hS he hd hH hk hv
    refine ⟨fun t ht => ?_, by rw [put_size]; exact inv.len, by rw [put_defers]; exact inv.defers, hH, hk, fun j x hx => he _ _ (inv.lent j x hx), fun id hne => ?_⟩
    · rw [put_get]
      by_cases e : o.dst = some t
      · have hn : nth (S n).fr t = nth (S (i + 1)).fr t := hi1.2.2 t fun j h1 h2 hd' => by
          have := huniq t e j (by omega) hd'; omega
        have hl : (S i).fr.length = a.tmps.size := by rw [← inv.len, hi0.2.1]
        rw [hn, hS, nth_put]
        simp only [e, true_and, hl]
        split
        · exact hv
        · rename_i hlt
          rw [nth_ge _ _ (by show (S i).fr.length ≤ t; omega)]; trivial
      · simp only [e, false_and, if_false]
        refine RV.ext he _ _ (inv.fr t fun j hj hd' => set_true_of (ht j hj hd') fun ej => ?_)
        subst ej; simp [ho] at hd'; exact e hd'
    · rcases hd id hne with h | ⟨h1, h2⟩
      · rcases inv.dom id h with h | ⟨j, hj, hl, h3⟩
        · exact .inl h
        · exact .inr ⟨j, hj, getD_set_true hl, h3⟩
      · exact .inr ⟨i, hi, by simp [hin], h1, h2⟩
  have exe : Ex C.noM o (S i) (S (i + 1)) → o.wp c.P a w K Q := by
    rintro ⟨p, v, H, h1, h2, hS⟩
    have hH : (S (i + 1)).hp = H := by rw [hS, hp_put]
    rw [← hH] at h1 hS
    refine Oper.wp_mono ?_ (op_stable ok h1 h2 hst inv.hp hi1.1.sub inv.keep hfree (fun x hx => ?_))
    · rintro a' w' ⟨u, ρ', rfl, hpost⟩
      exact hK _ _ ρ' (after v u w' ρ' hS hpost.ext hpost.dom hpost.hp hpost.keep hpost.val)
    · cases x with
      | tmp t =>
        have := hread t (List.mem_append_left _ (List.mem_filterMap.2 ⟨.tmp t, hx, rfl⟩))
        simp only [ASt.ev, Act.eval]
        rw [this.1]; exact this.2
      | const y => exact RV.const c ρ y
      | global g => trivial
      | func f => simp only [ASt.ev, Act.eval, RV]; exact ⟨[], rfl, rfl⟩
  have skp : S (i + 1) = (S i).put o.dst .un → K (a.put o.dst undef) w := fun hS => by
    have hH : (S (i + 1)).hp = (S i).hp := by rw [hS, hp_put]
    exact hK _ _ ρ (after .un undef w ρ (by rw [hH]; exact hS) (fun _ _ h => h) (fun _ h => .inl h) inv.hp inv.keep rfl)
  unfold wpOp
  simp only [ho]
  unfold astep at hs
  split at hs
  · rename_i hg
    rw [if_pos (by simp [Region.wanted, hg])]
    exact .inl (exe hs)
  · rename_i j want hg
    obtain ⟨d, hd, hs⟩ := hs
    have hfr := hread d (List.mem_append_right _ (by simp [hg, hd]))
    rcases hs with ⟨hn, hs⟩ | ⟨hn, hs⟩ | ⟨hn, hs⟩
    · rw [← hfr.1, hn] at hfr
      rw [if_neg (by simp [Region.wanted, hg, yield_undef hd hfr.2])]
      exact skp hs
    · rw [← hfr.1, hn] at hfr
      rw [if_pos (by simp [Region.wanted, hg, yield_bool hd hfr.2])]
      exact .inl (exe hs)
    · rw [← hfr.1, hn] at hfr
      rw [if_neg (by simp [Region.wanted, hg, yield_bool hd hfr.2])]
      exact skp hs

end
end Go.Ab
