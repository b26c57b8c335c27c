/-
  AN ABSTRACT MACHINE, part H: regions that draw; code; calls of functions.
-/
import Derived.Test.YthoionlldmfpiaaDoorAbG
set_option linter.unusedSimpArgs false
set_option linter.unusedVariables false
namespace Go.Ab
open Go Go.RowKit

section
variable {c : Cx} {C : Cfg} {a : Act} {ρ : Nat → Option Value} {w : World} {Q : Exit → Act → World → Prop} {ops : Array Oper} {s : ASt}

/-- How many of the first n are not done. -/
def cnt (listed : Array Bool) (n : Nat) : Nat := (List.range n).countP fun i => !listed.getD i false

theorem cnt_succ (listed : Array Bool) (n : Nat) : cnt listed (n + 1) = cnt listed n + if listed.getD n false then 0 else 1 := by
  unfold cnt
  rw [List.range_succ, List.countP_append, List.countP_singleton]
  cases listed.getD n false <;> simp

theorem cnt_set {listed : Array Bool} {i : Nat} (hi : i < listed.size) (hu : listed.getD i false = false) : ∀ n, cnt (listed.setIfInBounds i true) n + (if i < n then 1 else 0) = cnt listed n
  | 0 => by simp [cnt]
  | n + 1 => by
    have ih := cnt_set hi hu n
    rw [cnt_succ, cnt_succ]
    by_cases e : i = n
    · subst e
      simp only [Nat.lt_irrefl, if_false] at ih
      have : (listed.setIfInBounds i true).getD i false = true := by simp [hi]
      rw [this, hu]
      simp
      omega
    · rw [getD_set_ne false e]
      by_cases h : i < n
      · simp only [h, if_true, show i < n + 1 by omega] at ih ⊢; omega
      · simp only [h, if_false, show ¬ i < n + 1 by omega] at ih ⊢; omega

theorem cnt_zero {listed : Array Bool} : ∀ {n : Nat}, cnt listed n = 0 → ∀ i, i < n → listed.getD i false = true
  | 0, _, i, hi => by omega
  | n + 1, h, i, hi => by
    rw [cnt_succ] at h
    by_cases e : i = n
    · subst e
      cases hx : listed.getD i false with
      | true => rfl
      | false => rw [hx] at h; simp at h
    · exact cnt_zero (n := n) (by omega) i (by omega)

theorem cnt_pos {listed : Array Bool} : ∀ {n : Nat}, 0 < cnt listed n → ∃ i, i < n ∧ listed.getD i false = false ∧ ∀ j, j < i → listed.getD j false = true
  | 0, h => by simp [cnt] at h
  | n + 1, h => by
    by_cases h0 : 0 < cnt listed n
    · obtain ⟨i, h1, h2, h3⟩ := cnt_pos h0
      exact ⟨i, by omega, h2, h3⟩
    · rw [cnt_succ] at h
      refine ⟨n, by omega, ?_, cnt_zero (by omega)⟩
      cases hx : listed.getD n false with
      | true => rw [hx] at h; simp at h; omega
      | false => rfl

/-- The first n operations in any order, then what follows. -/
theorem draw_head (ok : CfgOk c.P C) {n : Nat} {S : Nat → ASt} (T : Tr C ops n S) (hn : n ≤ ops.size)
    (hwait : ∀ listed, HeadInv .any ops n listed → (∃ i, i < n ∧ listed.getD i false = false) → ∀ t, n ≤ t → t ∉ Region.ready .any ops listed) {g : Nat}
    (hend : ∀ listed a w ρ, Inv c ops n S listed a w ρ → HeadInv .any ops n listed → (∀ i, i < n → listed.getD i false = true) → wpAny c.P .any ops Q g listed a w) :
    ∀ (k : Nat) (listed : Array Bool) (a : Act) (w : World) (ρ : Nat → Option Value), cnt listed n = k → HeadInv .any ops n listed → Inv c ops n S listed a w ρ → wpAny c.P .any ops Q (k + g) listed a w
  | 0, listed, a, w, ρ, hk, hh, inv => by rw [Nat.zero_add]; exact hend listed a w ρ inv hh (cnt_zero hk)
  | k + 1, listed, a, w, ρ, hk, hh, inv => by
    obtain ⟨i0, hi0, hu0, hl0⟩ := cnt_pos (listed := listed) (n := n) (by omega)
    rw [show k + 1 + g = (k + g) + 1 by omega]
    refine ⟨fun hr => ?_, fun i hi => ?_⟩
    · obtain ⟨o, ho, _, hlow, _⟩ := stableB_spec T.st hi0
      have : i0 ∈ Region.ready .any ops listed := mem_ready.2 ⟨getD_in (by rw [hh.size]; omega) hu0, o, ho, fun e he hb => hl0 _ (hlow e he hb)⟩
      rw [hr] at this; cases this
    · have hin : i < n := by
        rcases Nat.lt_or_ge i n with h | h
        · exact h
        · exact absurd hi (hwait listed hh ⟨i0, hi0, hu0⟩ i h)
      have hsz : i < listed.size := by rw [hh.size]; omega
      have hun := getD_both (mem_ready.1 hi).1
      refine inv.step ok T hin hi hsz fun a' w' ρ' inv' => ?_
      refine draw_head ok T hn hwait hend k _ a' w' ρ' ?_ (hh.set hi hin) inv'
      have := cnt_set hsz hun n
      rw [if_pos hin] at this
      omega

theorem all_listed {listed : Array Bool} {n m : Nat} (hs : listed.size = m) (h1 : ∀ i, i < n → listed.getD i false = true) (h2 : ∀ t, n ≤ t → t < m → listed.getD t true = false) :
    listed = (Array.range m).map (fun i => decide (i < n)) := by
  apply Array.ext
  · simp [hs]
  · intro i hi1 hi2
    simp only [Array.getElem_map, Array.getElem_range]
    by_cases h : i < n
    · have := h1 i h; simp [hi1] at this; simp [this, h]
    · have := h2 i (by omega) (by omega); simp [hi1] at this; simp [this, h]

theorem headInv0 (n : Nat) (ops : Array Oper) : HeadInv .any ops n (Array.replicate ops.size false) :=
  ⟨by simp, fun j oj _ hl => (by rw [getD_replicate_false] at hl; cases hl), fun t _ ht => getD_in (by simpa using ht) (getD_replicate_false _ _)⟩

theorem cnt0 (m : Nat) : ∀ n, cnt (Array.replicate m false) n = n
  | 0 => rfl
  | n + 1 => by rw [cnt_succ, cnt0 m n, getD_replicate_false]; simp

theorem inv0 {n : Nat} {S : Nat → ASt} (T : Tr C ops n S) (h0 : S 0 = s) (h : Rel c s a w ρ) : Inv c ops n S (Array.replicate ops.size false) a w ρ := by
  have hu := T.up (i := 0) n (by omega)
  rw [Nat.zero_add, h0] at hu
  refine ⟨fun t ht => ?_, by rw [hu.2.1]; exact h.len, h.defers, h.hp.grow hu.1, h.keep, h.lent, fun id hne => ?_⟩
  · rw [hu.2.2 t fun j _ hj hd => by have := ht j (by omega) hd; rw [getD_replicate_false] at this; cases this]
    exact h.fr t
  · left
    rw [h0]
    rcases Nat.lt_or_ge id s.hp.length with h' | h'
    · exact h'
    · exact absurd (h.hp.free id h') hne

/-- The decidable side of a region that draws: the first n operations are stable, the others wait for all and follow in order. -/
def drawB (ops : Array Oper) (n : Nat) : Bool :=
  stableB ops n && decide (n ≤ ops.size) &&
  (decide (n = ops.size) || (Region.sinkB .any ops n && Region.chainB .any ops n && Region.seqB .any ops (ops.size - n) n ((Array.range ops.size).map fun i => decide (i < n))))

theorem aops_draw (ok : CfgOk c.P C) {id : Nat} {l : List Oper} {n : Nat} (hB : drawB l.toArray n = true) {K : ASt → Prop} (hK : ∀ s a w ρ, K s → Rel c s a w ρ → Q .normal a w)
    (h : aops C.noM l.toArray l s K) (hr : Rel c s a w ρ) : (Code.region id l.toArray true).wp c.P Q a w := by
  simp only [drawB, Bool.and_eq_true, decide_eq_true_eq] at hB
  obtain ⟨⟨hst, hn⟩, hB⟩ := hB
  have hn' : n ≤ l.length := by simpa using hn
  refine wp_region_any ok.mixed ?_
  have hsplit : l.take n ++ l.drop n = l := List.take_append_drop n l
  rw [← hsplit] at h
  have h' : aops C.noM l.toArray (l.take n ++ l.drop n) s K := by rw [hsplit] at h ⊢; exact h
  obtain ⟨S, h0, hrest, hsteps⟩ := trace (l.take n) s (l.drop n) h'
  have htl : (l.take n).length = n := by simp; omega
  rw [htl] at hrest
  have T : Tr C l.toArray n S := ⟨hst, fun i o hi ho => hsteps i o (by rw [List.getElem?_take, if_pos hi]; simpa using ho)⟩
  have hr' : Rel c s a { w with drawn := w.drawn + 1 } ρ := by
    have hb : Below w.heap.size w { w with drawn := w.drawn + 1 } := (Below.refl _ _).drew
    exact ⟨hr.fr, hr.len, hr.defers, hr.hp.below hb, hr.keep.below_step hb, hr.lent⟩
  have hInv := inv0 (c := c) T h0 hr'
  have fin : ∀ listed a w ρ, Inv c l.toArray n S listed a w ρ → (∀ i, i < n → listed.getD i false = true) → Rel c (S n) a w ρ := fun listed a w ρ inv hl =>
    ⟨fun t => inv.fr t fun j hj _ => hl j hj, inv.len, inv.defers, inv.hp, inv.keep, inv.lent⟩
  have key : ∀ g, g = l.length - n →
      (∀ listed a w ρ, Inv c l.toArray n S listed a w ρ → HeadInv .any l.toArray n listed → (∀ i, i < n → listed.getD i false = true) → wpAny c.P .any l.toArray Q g listed a w) →
      (∀ listed, HeadInv .any l.toArray n listed → (∃ i, i < n ∧ listed.getD i false = false) → ∀ t, n ≤ t → t ∉ Region.ready .any l.toArray listed) →
      wpAny c.P .any l.toArray Q l.toArray.size (Array.replicate l.toArray.size false) a { w with drawn := w.drawn + 1 } := fun g hg hend hwait => by
    have := draw_head ok T hn hwait hend n _ a _ ρ (cnt0 _ n) (headInv0 n l.toArray) hInv
    rw [show n + g = l.toArray.size by simp; omega] at this
    exact this
  simp only [Bool.or_eq_true, decide_eq_true_eq, Bool.and_eq_true] at hB
  rcases hB with he | ⟨⟨hs, hc⟩, hseq⟩
  · have hel : n = l.length := by simpa using he
    refine key 0 (by omega) (fun listed a w ρ inv hh hl => ?_) (fun listed hh _ t ht hm => ?_)
    · refine wpAny_done ?_ ?_ 0
      · apply List.eq_nil_iff_forall_not_mem.2
        intro t ht
        obtain ⟨h1, o, ho, _⟩ := mem_ready.1 ht
        have hlt : t < n := by rw [he]; exact (Array.getElem?_eq_some_iff.1 ho).1
        have := getD_both h1
        rw [hl t hlt] at this; cases this
      · have hd : l.drop n = [] := by rw [hel]; simp
        rw [hd] at hrest
        exact hK _ _ _ ρ hrest (fin listed a w ρ inv hl)
    · obtain ⟨_, o, ho, _⟩ := mem_ready.1 hm
      have := (Array.getElem?_eq_some_iff.1 ho).1
      omega
  · by_cases hlt : n < l.toArray.size
    · refine key (l.length - n) rfl (fun listed a w ρ inv hh hl => ?_) (fun listed hh ⟨i, hi, hu⟩ t ht => ?_)
      · have he := all_listed hh.size hl hh.tail
        have := wpAny_of_seq (P := c.P) (md := .any) (ops := l.toArray) (Q' := Q) (l.drop n) n listed a w (fun j => by simp [List.getElem?_drop]) (by
          rw [List.length_drop, he]; simpa using hseq) (aops_seq ok.noM hK (l.drop n) (S n) a w ρ hrest (fin listed a w ρ inv hl))
        rwa [List.length_drop] at this
      · exact tail_waits hs hc hlt hh (n - i) i rfl hi (getD_in (by rw [hh.size]; omega) hu) t ht
    · have hel : n = l.length := by simp at hlt; omega
      refine key 0 (by omega) (fun listed a w ρ inv hh hl => ?_) (fun listed hh _ t ht hm => ?_)
      · refine wpAny_done ?_ ?_ 0
        · apply List.eq_nil_iff_forall_not_mem.2
          intro t ht
          obtain ⟨h1, o, ho, _⟩ := mem_ready.1 ht
          have hlt' : t < n := by have := (Array.getElem?_eq_some_iff.1 ho).1; simp at this; omega
          have := getD_both h1
          rw [hl t hlt'] at this; cases this
        · have hd : l.drop n = [] := by rw [hel]; simp
          rw [hd] at hrest
          exact hK _ _ _ ρ hrest (fin listed a w ρ inv hl)
      · obtain ⟨_, o, ho, _⟩ := mem_ready.1 hm
        have := (Array.getElem?_eq_some_iff.1 ho).1
        simp at this
        omega

/-! A store to memory of our own among operations that only hand on values: these may come behind it. -/
def floatO : Op → Bool
  | .move _ => true
  | .assign _ => true
  | .extract _ _ => true
  | _ => false
theorem aop_float {op : Op} (hf : floatO op = true) {ev : Operand → AV} {H H' : List AO} {p : Prop} {v : AV} (h : aop C op ev H = .ok p v H') : H' = H ∧ ∀ H1, aop C op ev H1 = .ok p v H1 := by
  cases op <;> try (cases hf; done)
  case move x => simp only [aop, Res.ok.injEq] at h ⊢; obtain ⟨rfl, rfl, rfl⟩ := h; exact ⟨rfl, fun _ => by simp⟩
  case assign x => simp only [aop, Res.ok.injEq] at h ⊢; obtain ⟨rfl, rfl, rfl⟩ := h; exact ⟨rfl, fun _ => by simp⟩
  case extract x j =>
    simp only [aop, aExtract] at h ⊢
    cases hx : ev x <;> rw [hx] at h <;> simp only [reduceCtorEq, Res.ok.injEq] at h
    obtain ⟨rfl, rfl, rfl⟩ := h
    exact ⟨rfl, fun _ => rfl⟩
def storeB (ops : Array Oper) (n : Nat) : Bool :=
  match ops[n]? with
  | none => false
  | some o => o.guard.isNone && o.dst.isNone && o.after.all (fun e => !Region.binds .any e || decide (e.on < n)) &&
      (o.looksAt ops).all (fun t => (List.range n).all fun j => ((ops[j]?).bind (·.dst) != some t) || o.after.any (fun e => Region.binds .any e && e.on == j)) &&
      (List.range n).all (fun i => o.after.any (fun e => Region.binds .any e && e.on == i) || (match ops[i]? with | some x => x.guard.isNone && floatO x.op | none => false))
theorem storeB_spec {n : Nat} (h : storeB ops n = true) : ∃ o, ops[n]? = some o ∧ o.guard = none ∧ o.dst = none ∧ (∀ e ∈ o.after, Region.binds .any e = true → e.on < n) ∧
    (∀ t ∈ o.looksAt ops, ∀ j, j < n → (ops[j]?).bind (·.dst) = some t → ∃ e ∈ o.after, Region.binds .any e = true ∧ e.on = j) ∧
    (∀ i, i < n → (∃ e ∈ o.after, Region.binds .any e = true ∧ e.on = i) ∨ ∃ x, ops[i]? = some x ∧ x.guard = none ∧ floatO x.op = true) := by
  unfold storeB at h
  split at h
  · cases h
  · rename_i o ho
    simp only [Bool.and_eq_true] at h
    obtain ⟨⟨⟨⟨h1, h2⟩, h3⟩, h4⟩, h5⟩ := h
    have any_e : ∀ i, (o.after.any fun e => Region.binds .any e && e.on == i) = true → ∃ e ∈ o.after, Region.binds .any e = true ∧ e.on = i := fun i hi => by
      obtain ⟨e, he, hb⟩ := Array.any_eq_true'.1 hi
      simp only [Bool.and_eq_true, beq_iff_eq] at hb
      exact ⟨e, he, hb⟩
    refine ⟨o, ho, Option.isNone_iff_eq_none.1 h1, Option.isNone_iff_eq_none.1 h2, fun e he hb => ?_, fun t ht j hj hd => ?_, fun i hi => ?_⟩
    · have := Array.all_eq_true_iff_forall_mem.1 h3 e he
      rw [hb] at this
      simpa using this
    · have h6 := List.all_eq_true.1 (List.all_eq_true.1 h4 t ht) j (List.mem_range.2 hj)
      simp only [Bool.or_eq_true, hd, bne_self_eq_false, Bool.false_eq_true, false_or] at h6
      exact any_e j h6
    · have h6 := List.all_eq_true.1 h5 i (List.mem_range.2 hi)
      simp only [Bool.or_eq_true] at h6
      rcases h6 with h6 | h6
      · exact .inl (any_e i h6)
      · split at h6
        · rename_i x hx
          simp only [Bool.and_eq_true] at h6
          exact .inr ⟨x, hx, Option.isNone_iff_eq_none.1 h6.1, h6.2⟩
        · cases h6
/-- What holds behind the store. -/
structure InvB (c : Cx) (ops : Array Oper) (n : Nat) (S : Nat → ASt) (listed : Array Bool) (a : Act) (w : World) (ρ : Nat → Option Value) : Prop where
  fr : ∀ t, (∀ j, j < n → (ops[j]?).bind (·.dst) = some t → listed.getD j false = true) → RV c ρ (nth (S n).fr t) (a.tmps.getD t undef)
  len : (S n).fr.length = a.tmps.size
  defers : a.defers = []
  hp : HR c w ρ (S (n + 1)).hp
  keep : Keep c w
  lent : ∀ j x, c.L j = some x → ρ j = some x
theorem Inv.store {n : Nat} {S : Nat → ASt} (ok : CfgOk c.P C) {listed : Array Bool} (inv : Inv c ops n S listed a w ρ) {o : Oper} (ho : ops[n]? = some o) (hg : o.guard = none) (hd : o.dst = none)
    (hs : Ex C.noM o (S n) (S (n + 1))) (hlooks : ∀ t ∈ o.looksAt ops, ∀ j, j < n → (ops[j]?).bind (·.dst) = some t → listed.getD j false = true) {K : Act → World → Prop}
    (hK : ∀ w' ρ', InvB c ops n S listed a w' ρ' → K a w') : wpOp c.P ops Q n K a w := by
  obtain ⟨p, v, H, h1, h2, hS⟩ := hs
  have hH : (S (n + 1)).hp = H := by rw [hS, hp_put]
  unfold wpOp
  simp only [ho]
  rw [if_pos (by simp [Region.wanted, hg])]
  refine .inl (Oper.wp_mono ?_ (op_any ok.noM h1 h2 inv.hp inv.keep (fun x hx => ?_)))
  · rintro a' w' ⟨u, ρ', rfl, he, hHR, hk, hv⟩
    rw [hd]
    refine hK w' ρ' ⟨fun t ht => RV.ext he _ _ (inv.fr t ht), inv.len, inv.defers, by rw [hH]; exact hHR, hk, fun j x hx => he _ _ (inv.lent j x hx)⟩
  · cases x with
    | tmp t => exact inv.fr t (hlooks t (List.mem_append_left _ (List.mem_filterMap.2 ⟨.tmp t, hx, rfl⟩)))
    | const y => exact RV.const c ρ y
    | global g => trivial
    | func f => simp only [ASt.ev, Act.eval, RV]; exact ⟨[], rfl, rfl⟩
theorem InvB.step {n : Nat} {S : Nat → ASt} (ok : CfgOk c.P C) (T : Tr C ops n S) {listed : Array Bool} (inv : InvB c ops n S listed a w ρ) {i : Nat} (hi : i < n) (hrdy : i ∈ Region.ready .any ops listed)
    {o : Oper} (ho : ops[i]? = some o) (hg : o.guard = none) (hf : floatO o.op = true)
    {K : Act → World → Prop} (hK : ∀ a' w' ρ', InvB c ops n S (listed.setIfInBounds i true) a' w' ρ' → K a' w') : wpOp c.P ops Q i K a w := by
  obtain ⟨o1, ho1, hst, hlow, hlooks, huniq⟩ := stableB_spec T.st hi
  rw [ho] at ho1; cases ho1
  obtain ⟨hun, o', ho', hall⟩ := mem_ready.1 hrdy
  rw [ho] at ho'; cases ho'
  have hs := T.step i o hi ho
  unfold astep at hs
  rw [hg] at hs
  simp only at hs
  obtain ⟨p, v, H, h1, h2, hS⟩ := hs
  obtain ⟨hHe, hall1⟩ := aop_float hf h1
  have hi1 := T.up (i := i + 1) (n - (i + 1)) (by omega)
  rw [show i + 1 + (n - (i + 1)) = n by omega] at hi1
  have hi0 := T.up (i := i) (n - i) (by omega)
  rw [show i + (n - i) = n by omega] at hi0
  have hread : ∀ t ∈ o.looksAt ops, nth (S i).fr t = nth (S n).fr t ∧ RV c ρ (nth (S n).fr t) (a.tmps.getD t undef) := fun t ht => by
    refine ⟨(hi0.2.2 t fun j h1 h2 hd => ?_).symm, inv.fr t fun j hj hd => ?_⟩
    · have := (hlooks t ht j (by omega) hd).1; omega
    · obtain ⟨_, e, he, hb, hon⟩ := hlooks t ht j hj hd
      rw [← hon]; exact hall e he hb
  unfold wpOp
  simp only [ho]
  rw [if_pos (by simp [Region.wanted, hg])]
  refine .inl (Oper.wp_mono ?_ (op_any ok.noM (hall1 (S (n + 1)).hp) h2 inv.hp inv.keep (fun x hx => ?_)))
  · rintro a' w' ⟨u, ρ', rfl, he, hHR, hk, hv⟩
    refine hK _ _ ρ' ⟨fun t ht => ?_, by rw [put_size]; exact inv.len, by rw [put_defers]; exact inv.defers, hHR, hk, fun j x hx => he _ _ (inv.lent j x hx)⟩
    rw [put_get]
    by_cases e : o.dst = some t
    · have hn : nth (S n).fr t = nth (S (i + 1)).fr t := hi1.2.2 t fun j h1 h2 hd' => by
        have := huniq t e j (by omega) hd'; omega
      have hl : (S i).fr.length = a.tmps.size := by rw [← inv.len, hi0.2.1]
      rw [hn, hS, nth_put]
      simp only [e, true_and, hl]
      split
      · exact hv
      · rename_i hlt
        rw [nth_ge _ _ (by show (S i).fr.length ≤ t; omega)]; trivial
    · simp only [e, false_and, if_false]
      refine RV.ext he _ _ (inv.fr t fun j hj hd' => set_true_of (ht j hj hd') fun ej => ?_)
      subst ej; simp [ho] at hd'; exact e hd'
  · cases x with
    | tmp t =>
      have := hread t (List.mem_append_left _ (List.mem_filterMap.2 ⟨.tmp t, hx, rfl⟩))
      simp only [ASt.ev, Act.eval]
      rw [this.1]; exact this.2
    | const y => exact RV.const c ρ y
    | global g => trivial
    | func f => simp only [ASt.ev, Act.eval, RV]; exact ⟨[], rfl, rfl⟩
theorem draw_tail2 (ok : CfgOk c.P C) {n : Nat} {S : Nat → ASt} (T : Tr C ops n S) (hn : n < ops.size)
    (hwait : ∀ listed, HeadInv .any ops (n + 1) listed → (∃ i, i < n + 1 ∧ listed.getD i false = false) → ∀ t, n + 1 ≤ t → t ∉ Region.ready .any ops listed) {g : Nat}
    (hend : ∀ listed a w ρ, InvB c ops n S listed a w ρ → HeadInv .any ops (n + 1) listed → (∀ i, i < n + 1 → listed.getD i false = true) → wpAny c.P .any ops Q g listed a w) :
    ∀ (k : Nat) (listed : Array Bool) (a : Act) (w : World) (ρ : Nat → Option Value), cnt listed n = k → HeadInv .any ops (n + 1) listed → listed.getD n false = true →
      (∀ i, i < n → listed.getD i false = false → ∃ x, ops[i]? = some x ∧ x.guard = none ∧ floatO x.op = true) → InvB c ops n S listed a w ρ → wpAny c.P .any ops Q (k + g) listed a w
  | 0, listed, a, w, ρ, hk, hh, hl, hfl, inv => by
    rw [Nat.zero_add]
    refine hend listed a w ρ inv hh fun i hi => ?_
    by_cases e : i = n
    · subst e; exact hl
    · exact cnt_zero hk i (by omega)
  | k + 1, listed, a, w, ρ, hk, hh, hl, hfl, inv => by
    obtain ⟨i0, hi0, hu0, hl0⟩ := cnt_pos (listed := listed) (n := n) (by omega)
    rw [show k + 1 + g = (k + g) + 1 by omega]
    refine ⟨fun hr => ?_, fun i hi => ?_⟩
    · obtain ⟨o, ho, _, hlow, _⟩ := stableB_spec T.st hi0
      have : i0 ∈ Region.ready .any ops listed := mem_ready.2 ⟨getD_in (by rw [hh.size]; omega) hu0, o, ho, fun e he hb => hl0 _ (hlow e he hb)⟩
      rw [hr] at this; cases this
    · have hun := getD_both (mem_ready.1 hi).1
      have hin1 : i < n + 1 := by
        rcases Nat.lt_or_ge i (n + 1) with h | h
        · exact h
        · exact absurd hi (hwait listed hh ⟨i0, by omega, hu0⟩ i h)
      have hne : i ≠ n := fun e => by subst e; rw [hl] at hun; cases hun
      have hin : i < n := by omega
      have hsz : i < listed.size := by rw [hh.size]; omega
      obtain ⟨x, hx, hxg, hxf⟩ := hfl i hin hun
      refine inv.step ok T hin hi hx hxg hxf fun a' w' ρ' inv' => ?_
      refine draw_tail2 ok T hn hwait hend k _ a' w' ρ' ?_ (hh.set hi hin1) (getD_set_true hl) (fun j hj hju => hfl j hj ?_) inv'
      · have := cnt_set hsz hun n
        rw [if_pos hin] at this
        omega
      · cases hx2 : listed.getD j false with
        | false => rfl
        | true => rw [getD_set_true hx2] at hju; cases hju
theorem draw_head2 (ok : CfgOk c.P C) {n : Nat} {S : Nat → ASt} (T : Tr C ops n S) (hn : n < ops.size) (hB : storeB ops n = true) (hsn : ∀ o, ops[n]? = some o → astep C.noM ops o (S n) (S (n + 1)))
    (hwait : ∀ listed, HeadInv .any ops (n + 1) listed → (∃ i, i < n + 1 ∧ listed.getD i false = false) → ∀ t, n + 1 ≤ t → t ∉ Region.ready .any ops listed) {g : Nat}
    (hend : ∀ listed a w ρ, InvB c ops n S listed a w ρ → HeadInv .any ops (n + 1) listed → (∀ i, i < n + 1 → listed.getD i false = true) → wpAny c.P .any ops Q g listed a w) :
    ∀ (k : Nat) (listed : Array Bool) (a : Act) (w : World) (ρ : Nat → Option Value), cnt listed n = k → HeadInv .any ops (n + 1) listed → listed.getD n false = false →
      Inv c ops n S listed a w ρ → wpAny c.P .any ops Q (k + 1 + g) listed a w := fun k => by
  obtain ⟨o, ho, hg, hd, hlow, hlooks, hfloat⟩ := storeB_spec hB
  have hs := hsn o ho
  unfold astep at hs
  rw [hg] at hs
  simp only at hs
  induction k with
  | zero =>
    intro listed a w ρ hk hh hl inv
    rw [show 0 + 1 + g = (0 + g) + 1 by omega]
    have hall : ∀ i, i < n → listed.getD i false = true := cnt_zero hk
    refine ⟨fun hr => ?_, fun i hi => ?_⟩
    · have : n ∈ Region.ready .any ops listed := mem_ready.2 ⟨getD_in (by rw [hh.size]; omega) hl, o, ho, fun e he hb => hall _ (hlow e he hb)⟩
      rw [hr] at this; cases this
    · have hun := getD_both (mem_ready.1 hi).1
      have hin1 : i < n + 1 := by
        rcases Nat.lt_or_ge i (n + 1) with h | h
        · exact h
        · exact absurd hi (hwait listed hh ⟨n, by omega, hl⟩ i h)
      have e : i = n := by
        rcases Nat.lt_or_ge i n with h | h
        · rw [hall i h] at hun; cases hun
        · omega
      subst e
      have hsz : i < listed.size := by rw [hh.size]; omega
      refine inv.store ok ho hg hd hs (fun t _ j hj _ => hall j hj) fun w' ρ' inv' => ?_
      refine draw_tail2 ok T hn hwait hend 0 _ a w' ρ' ?_ (hh.set hi (by omega)) (by simp [hsz]) (fun j hj hju => ?_) ⟨fun t ht => inv'.fr t fun j hj _ => hall j hj, inv'.len, inv'.defers, inv'.hp, inv'.keep, inv'.lent⟩
      · have := cnt_set hsz hun i
        rw [if_neg (by omega)] at this
        omega
      · rw [getD_set_true (hall j hj)] at hju; cases hju
  | succ k ih =>
    intro listed a w ρ hk hh hl inv
    obtain ⟨i0, hi0, hu0, hl0⟩ := cnt_pos (listed := listed) (n := n) (by omega)
    rw [show k + 1 + 1 + g = (k + 1 + g) + 1 by omega]
    refine ⟨fun hr => ?_, fun i hi => ?_⟩
    · obtain ⟨o, ho, _, hlow, _⟩ := stableB_spec T.st hi0
      have : i0 ∈ Region.ready .any ops listed := mem_ready.2 ⟨getD_in (by rw [hh.size]; omega) hu0, o, ho, fun e he hb => hl0 _ (hlow e he hb)⟩
      rw [hr] at this; cases this
    · have hun := getD_both (mem_ready.1 hi).1
      have hin1 : i < n + 1 := by
        rcases Nat.lt_or_ge i (n + 1) with h | h
        · exact h
        · exact absurd hi (hwait listed hh ⟨n, by omega, hl⟩ i h)
      have hsz : i < listed.size := by rw [hh.size]; omega
      by_cases hin : i < n
      · refine inv.step ok T hin hi hsz fun a' w' ρ' inv' => ?_
        refine ih _ a' w' ρ' ?_ (hh.set hi hin1) (by rw [getD_set_ne false (by omega)]; exact hl) inv'
        have := cnt_set hsz hun n
        rw [if_pos hin] at this
        omega
      · have e : i = n := by omega
        subst e
        obtain ⟨_, o', ho', hedges⟩ := mem_ready.1 hi
        rw [ho] at ho'; cases ho'
        refine inv.store ok ho hg hd hs (fun t ht j hj hdj => ?_) fun w' ρ' inv' => ?_
        · obtain ⟨e, he, hb, hon⟩ := hlooks t ht j hj hdj
          rw [← hon]; exact hedges e he hb
        · refine draw_tail2 ok T hn hwait hend (k + 1) _ a w' ρ' ?_ (hh.set hi (by omega)) (by simp [hsz]) (fun j hj hju => ?_) ⟨fun t ht => inv'.fr t fun j hj hdj => ?_, inv'.len, inv'.defers, inv'.hp, inv'.keep, inv'.lent⟩
          · have := cnt_set hsz hun i
            rw [if_neg (by omega)] at this
            omega
          · rw [getD_set_ne false (by omega)] at hju
            rcases hfloat j hj with ⟨e, he, hb, hon⟩ | h
            · have := hedges e he hb
              rw [hon, hju] at this; cases this
            · exact h
          · have := ht j hj hdj
            rw [getD_set_ne false (by omega)] at this; exact this
/-- The decidable side of a region with a store among what only hands on. -/
def drawF (ops : Array Oper) (n : Nat) : Bool :=
  stableB ops n && decide (n < ops.size) && storeB ops n &&
  (decide (n + 1 = ops.size) || (Region.sinkB .any ops (n + 1) && Region.chainB .any ops (n + 1) && Region.seqB .any ops (ops.size - (n + 1)) (n + 1) ((Array.range ops.size).map fun i => decide (i < n + 1))))
theorem aops_draw2 (ok : CfgOk c.P C) {id : Nat} {l : List Oper} {n : Nat} (hB : drawF l.toArray n = true) {K : ASt → Prop} (hK : ∀ s a w ρ, K s → Rel c s a w ρ → Q .normal a w)
    (h : aops C.noM l.toArray l s K) (hr : Rel c s a w ρ) : (Code.region id l.toArray true).wp c.P Q a w := by
  simp only [drawF, Bool.and_eq_true, decide_eq_true_eq] at hB
  obtain ⟨⟨⟨hst, hn⟩, hsB⟩, hB⟩ := hB
  have hn' : n < l.length := by simpa using hn
  refine wp_region_any ok.mixed ?_
  have hsplit : l.take (n + 1) ++ l.drop (n + 1) = l := List.take_append_drop (n + 1) l
  have h' : aops C.noM l.toArray (l.take (n + 1) ++ l.drop (n + 1)) s K := by rw [hsplit]; exact h
  obtain ⟨S, h0, hrest, hsteps⟩ := trace (l.take (n + 1)) s (l.drop (n + 1)) h'
  have htl : (l.take (n + 1)).length = n + 1 := by simp; omega
  rw [htl] at hrest
  have T : Tr C l.toArray n S := ⟨hst, fun i o hi ho => hsteps i o (by rw [List.getElem?_take, if_pos (by omega)]; simpa using ho)⟩
  have hsn : ∀ o, l.toArray[n]? = some o → astep C.noM l.toArray o (S n) (S (n + 1)) := fun o ho => hsteps n o (by rw [List.getElem?_take, if_pos (by omega)]; simpa using ho)
  have hr' : Rel c s a { w with drawn := w.drawn + 1 } ρ := by
    have hb : Below w.heap.size w { w with drawn := w.drawn + 1 } := (Below.refl _ _).drew
    exact ⟨hr.fr, hr.len, hr.defers, hr.hp.below hb, hr.keep.below_step hb, hr.lent⟩
  have hInv := inv0 (c := c) T h0 hr'
  obtain ⟨o, ho, hg, hd, _⟩ := storeB_spec hsB
  have hs1 := hsn o ho
  unfold astep at hs1
  rw [hg] at hs1
  simp only at hs1
  obtain ⟨p, v, H, _, _, hS⟩ := hs1
  have hfr : (S (n + 1)).fr = (S n).fr := by rw [hS, hd]; rfl
  have fin : ∀ listed a w ρ, InvB c l.toArray n S listed a w ρ → (∀ i, i < n + 1 → listed.getD i false = true) → Rel c (S (n + 1)) a w ρ := fun listed a w ρ inv hl =>
    ⟨fun t => by rw [hfr]; exact inv.fr t fun j hj _ => hl j (by omega), by rw [hfr]; exact inv.len, inv.defers, inv.hp, inv.keep, inv.lent⟩
  have key : ∀ g, g = l.length - (n + 1) →
      (∀ listed a w ρ, InvB c l.toArray n S listed a w ρ → HeadInv .any l.toArray (n + 1) listed → (∀ i, i < n + 1 → listed.getD i false = true) → wpAny c.P .any l.toArray Q g listed a w) →
      (∀ listed, HeadInv .any l.toArray (n + 1) listed → (∃ i, i < n + 1 ∧ listed.getD i false = false) → ∀ t, n + 1 ≤ t → t ∉ Region.ready .any l.toArray listed) →
      wpAny c.P .any l.toArray Q l.toArray.size (Array.replicate l.toArray.size false) a { w with drawn := w.drawn + 1 } := fun g hg hend hwait => by
    have := draw_head2 ok T hn hsB hsn hwait hend n _ a _ ρ (cnt0 _ n) (headInv0 (n + 1) l.toArray) (getD_replicate_false _ _) hInv
    rw [show n + 1 + g = l.toArray.size by simp; omega] at this
    exact this
  simp only [Bool.or_eq_true, decide_eq_true_eq, Bool.and_eq_true] at hB
  rcases hB with he | ⟨⟨hs, hc⟩, hseq⟩
  · have hel : n + 1 = l.length := by simpa using he
    refine key 0 (by omega) (fun listed a w ρ inv hh hl => ?_) (fun listed hh _ t ht hm => ?_)
    · refine wpAny_done ?_ ?_ 0
      · apply List.eq_nil_iff_forall_not_mem.2
        intro t ht
        obtain ⟨h1, o, ho, _⟩ := mem_ready.1 ht
        have hlt : t < n + 1 := by have := (Array.getElem?_eq_some_iff.1 ho).1; omega
        have := getD_both h1
        rw [hl t hlt] at this; cases this
      · have hd : l.drop (n + 1) = [] := by rw [hel]; simp
        rw [hd] at hrest
        exact hK _ _ _ ρ hrest (fin listed a w ρ inv hl)
    · obtain ⟨_, o, ho, _⟩ := mem_ready.1 hm
      have := (Array.getElem?_eq_some_iff.1 ho).1
      omega
  · by_cases hlt : n + 1 < l.toArray.size
    · refine key (l.length - (n + 1)) rfl (fun listed a w ρ inv hh hl => ?_) (fun listed hh ⟨i, hi, hu⟩ t ht => ?_)
      · have he := all_listed hh.size hl hh.tail
        have := wpAny_of_seq (P := c.P) (md := .any) (ops := l.toArray) (Q' := Q) (l.drop (n + 1)) (n + 1) listed a w (fun j => by simp [List.getElem?_drop]) (by
          rw [List.length_drop, he]; simpa using hseq) (aops_seq ok.noM hK (l.drop (n + 1)) (S (n + 1)) a w ρ hrest (fin listed a w ρ inv hl))
        rwa [List.length_drop] at this
      · exact tail_waits hs hc hlt hh (n + 1 - i) i rfl hi (getD_in (by rw [hh.size]; omega) hu) t ht
    · have hel : n + 1 = l.length := by simp at hlt; omega
      refine key 0 (by omega) (fun listed a w ρ inv hh hl => ?_) (fun listed hh _ t ht hm => ?_)
      · refine wpAny_done ?_ ?_ 0
        · apply List.eq_nil_iff_forall_not_mem.2
          intro t ht
          obtain ⟨h1, o, ho, _⟩ := mem_ready.1 ht
          have hlt' : t < n + 1 := by have := (Array.getElem?_eq_some_iff.1 ho).1; simp at this; omega
          have := getD_both h1
          rw [hl t hlt'] at this; cases this
        · have hd : l.drop (n + 1) = [] := by rw [hel]; simp
          rw [hd] at hrest
          exact hK _ _ _ ρ hrest (fin listed a w ρ inv hl)
      · obtain ⟨_, o, ho, _⟩ := mem_ready.1 hm
        have := (Array.getElem?_eq_some_iff.1 ho).1
        simp at this
        omega

end

/-! ### Code -/
/-- A piece of code, begun in any state that reads as s, ends as Q says. -/
structure Awp (c : Cx) (C : Cfg) (x : Code) (Q : Exit → ASt → Prop) (s : ASt) : Prop where
  run : CfgOk c.P C → ∀ a w ρ, Rel c s a w ρ → x.wp c.P (fun e a' w' => ∃ s' ρ', Q e s' ∧ Rel c s' a' w' ρ') a w

def thn (K : ASt → Prop) (Q : Exit → ASt → Prop) : Exit → ASt → Prop
  | .normal, s => K s
  | e, s => Q e s
def blkE (id : Nat) (Q : Exit → ASt → Prop) : Exit → ASt → Prop
  | .exit id', s => if id' = id then Q .normal s else Q (.exit id') s
  | e, s => Q e s

section
variable {c : Cx} {C : Cfg} {Q : Exit → ASt → Prop} {s : ASt}

theorem awp_mono {x : Code} {Q' : Exit → ASt → Prop} (h : Awp c C x Q s) (hq : ∀ e s, Q e s → Q' e s) : Awp c C x Q' s := ⟨fun ok a w ρ hr =>
  Code.wp_mono (fun e a' w' ⟨s', ρ', h1, h2⟩ => ⟨s', ρ', hq _ _ h1, h2⟩) (h.run ok a w ρ hr)⟩

theorem awp_seq {x y : Code} (h : ∀ K : ASt → Prop, (∀ s, Awp c C y Q s → K s) → Awp c C x (thn K Q) s) : Awp c C (.seq x y) Q s := by
  refine ⟨fun ok a w ρ hr => ?_⟩
  refine wp_seq (Code.wp_mono (fun e a' w' ⟨s', ρ', h1, h2⟩ => ?_) ((h _ (fun _ h => h)).run ok a w ρ hr))
  cases e
  case normal => exact h1.run ok a' w' ρ' h2
  all_goals exact ⟨s', ρ', h1, h2⟩
theorem awp_skip (h : Q .normal s) : Awp c C .skip Q s := ⟨fun _ _ _ ρ hr => wp_skip ⟨s, ρ, h, hr⟩⟩
theorem awp_ret (h : Q .ret s) : Awp c C .ret Q s := ⟨fun _ _ _ ρ hr => wp_ret ⟨s, ρ, h, hr⟩⟩
theorem awp_exit {id : Nat} (h : Q (.exit id) s) : Awp c C (.exit id) Q s := ⟨fun _ _ _ ρ hr => wp_exit ⟨s, ρ, h, hr⟩⟩
theorem awp_block {id : Nat} {x : Code} (h : Awp c C x (blkE id Q) s) : Awp c C (.block id x) Q s := by
  refine ⟨fun ok a w ρ hr => ?_⟩
  refine wp_block (Code.wp_mono (fun e a' w' ⟨s', ρ', h1, h2⟩ => ?_) (h.run ok a w ρ hr))
  cases e
  case exit id' =>
    simp only [blkE] at h1
    simp only [Exit.inBlock]
    split <;> rename_i hid
    · rw [if_pos hid] at h1; exact ⟨s', ρ', h1, h2⟩
    · rw [if_neg hid] at h1; exact ⟨s', ρ', h1, h2⟩
  all_goals exact ⟨s', ρ', h1, h2⟩
theorem awp_cond {t : Operand} {x y : Code} {b : Bool} (hb : s.ev t = .b b) (h1 : b = true → Awp c C x Q s) (h2 : b = false → Awp c C y Q s) : Awp c C (.cond t x y) Q s := by
  refine ⟨fun ok a w ρ hr => ?_⟩
  have := ev_ok hr t
  rw [hb] at this
  exact wp_cond_split this (fun e => (h1 e).run ok a w ρ hr) (fun e => (h2 e).run ok a w ρ hr)
theorem awp_region {id : Nat} {l : List Oper} (h : aops C l.toArray l s (fun s' => Q .normal s')) : Awp c C (.region id l.toArray false) Q s := by
  refine ⟨fun ok a w ρ hr => ?_⟩
  refine wp_region_list ?_
  refine aops_seq ok ?_ l s a w ρ h hr
  exact fun s a w ρ h1 h2 => ⟨s, ρ, h1, h2⟩
theorem awp_draw (n : Nat) {id : Nat} {l : List Oper} (hB : (drawB l.toArray n || drawF l.toArray n) = true) (h : aops C.noM l.toArray l s (fun s' => Q .normal s')) : Awp c C (.region id l.toArray true) Q s := by
  refine ⟨fun ok a w ρ hr => ?_⟩
  rcases Bool.or_eq_true_iff.1 hB with hB | hB
  · refine aops_draw ok hB ?_ h hr
    exact fun s a w ρ h1 h2 => ⟨s, ρ, h1, h2⟩
  · refine aops_draw2 ok hB ?_ h hr
    exact fun s a w ρ h1 h2 => ⟨s, ρ, h1, h2⟩

/-- Knowing less of the frame. -/
theorem Rel.cut {a : Act} {w : World} {ρ : Nat → Option Value} (h : Rel c s a w ρ) (m : Nat) : Rel c ⟨cutFr s.fr m, s.hp⟩ a w ρ := by
  refine ⟨fun t => ?_, by simpa using h.len, h.defers, h.hp, h.keep, h.lent⟩
  rcases nth_cutFr s.fr m t with e | e
  · rw [e]; exact h.fr t
  · rw [e]; trivial

/-- A loop: its states at the head, by a parameter; only the first m slots count. -/
theorem awp_loop {ι : Type} (m : Nat) (S : ι → ASt) (V : ι → Prop) (μ : ι → Nat) {x : Code} (i0 : ι) (h0 : V i0) (hs : (⟨cutFr s.fr m, s.hp⟩ : ASt) = S i0)
    (round : ∀ i, V i → Awp c C x (thn (fun s' => ∃ j, V j ∧ μ j < μ i ∧ (⟨cutFr s'.fr m, s'.hp⟩ : ASt) = S j) Q) (S i)) : Awp c C (.loop x) Q s := by
  refine ⟨fun ok a w ρ hr => ?_⟩
  have key : ∀ (n : Nat) (i : ι) (a : Act) (w : World) (ρ : Nat → Option Value), V i → μ i < n → Rel c (S i) a w ρ →
      Code.rounds c.P x (fun e a' w' => ∃ s' ρ', Q e s' ∧ Rel c s' a' w' ρ') n a w := by
    intro n
    induction n with
    | zero => intro i a w ρ _ h; omega
    | succ n ih =>
      intro i a w ρ hi hn hr
      rw [rounds_succ]
      refine Code.wp_mono (fun e a' w' ⟨s', ρ', h1, h2⟩ => ?_) ((round i hi).run ok a w ρ hr)
      cases e
      case normal =>
        obtain ⟨j, h3, h4, h5⟩ := h1
        exact ih j a' w' ρ' h3 (by omega) (by rw [← h5]; exact h2.cut m)
      all_goals exact ⟨s', ρ', h1, h2⟩
  exact wp_loop_rounds (μ i0 + 1) (key _ i0 a w ρ h0 (by omega) (by rw [← hs]; exact hr.cut m))

end

/-! ### Functions -/
/-- The function's results, read at its end. -/
def resV1 (C : Cfg) (s : ASt) : ResultVar → Option (Prop × AV)
  | .tmp t => some (True, nth s.fr t)
  | .cell t T => match aLoad (C.Γ T) (nth s.fr t) s.hp with | .ok p v _ => some (p, v) | .bad => none
def resVs (C : Cfg) (s : ASt) : List ResultVar → Option (Prop × List AV)
  | [] => some (True, [])
  | r :: rs => match resV1 C s r, resVs C s rs with | some (p, v), some (q, vs) => some (p ∧ q, v :: vs) | _, _ => none
def resV (C : Cfg) (s : ASt) (rs : List ResultVar) : Option (Prop × AV) :=
  match resVs C s rs with
  | some (p, [v]) => some (p, v)
  | some (p, vs) => some (p, .tu vs)
  | none => none
/-- Whatever reads as s reads as s2 too. -/
def Wk (s s2 : ASt) : Prop := ∀ (c : Cx) (a : Act) (w : World) (ρ : Nat → Option Value), Rel c s a w ρ → ∃ ρ', Rel c s2 a w ρ'
theorem Wk.refl (s : ASt) : Wk s s := fun _ _ _ ρ h => ⟨ρ, h⟩
theorem Wk.trans {s s2 s3 : ASt} (h : Wk s s2) (h' : Wk s2 s3) : Wk s s3 := fun c a w ρ hr => by obtain ⟨ρ', hr'⟩ := h c a w ρ hr; exact h' c a w ρ' hr'
theorem awp_wk {c : Cx} {C : Cfg} {x : Code} {Q : Exit → ASt → Prop} {s s2 : ASt} (hw : Wk s s2) (h : Awp c C x Q s2) : Awp c C x Q s :=
  ⟨fun ok a w ρ hr => by obtain ⟨ρ', hr'⟩ := hw c a w ρ hr; exact h.run ok a w ρ' hr'⟩

theorem HR.nilO {c : Cx} {w : World} {ρ : Nat → Option Value} {H : List AO} (hH : HR c w ρ H) (o' : AO) (hor : ∀ ρ, OR c w ρ o' (.slice none 0 0)) : HR c w (setρ ρ H.length (.slice none 0 0)) (H ++ [o']) ∧ Ext ρ (setρ ρ H.length (.slice none 0 0)) := by
  have hx := setρ_ext (hH.free _ (Nat.le_refl _)) (.slice none 0 0)
  have cs : ∀ i x, setρ ρ H.length (.slice none 0 0) i = some x → (i = H.length ∧ x = .slice none 0 0) ∨ (i < H.length ∧ ρ i = some x) := fun i x h => by
    unfold setρ at h
    split at h
    · rename_i e; cases h; exact .inl ⟨e, rfl⟩
    · right
      obtain ⟨o, ho, _⟩ := hH.obj i x h
      exact ⟨(List.getElem?_eq_some_iff.1 ho).1, h⟩
  refine ⟨⟨fun i x h => ?_, fun i j x y oi oj hij hi hj hoi hoj li lj hm b hb1 hb2 => ?_⟩, hx⟩
  · rcases cs i x h with ⟨rfl, rfl⟩ | ⟨h1, h2⟩
    · exact ⟨o', by rw [List.getElem?_append_right (Nat.le_refl _)]; simp, hor _⟩
    · obtain ⟨o, ho, hr⟩ := hH.obj i x h2
      exact ⟨o, by rw [List.getElem?_append_left h1]; exact ho, hr.keep hx (Nat.le_refl _) fun _ _ _ => rfl⟩
  · rcases cs i x hi with ⟨rfl, rfl⟩ | ⟨h1, h2⟩
    · cases hb1
    · rcases cs j y hj with ⟨rfl, rfl⟩ | ⟨h3, h4⟩
      · cases hb2
      · rw [List.getElem?_append_left h1] at hoi
        rw [List.getElem?_append_left h3] at hoj
        exact hH.sep i j x y oi oj hij h2 h4 hoi hoj li lj hm b hb1 hb2

theorem HR.nil {c : Cx} {w : World} {ρ : Nat → Option Value} {H : List AO} (hH : HR c w ρ H) (k : IntKind) (E : TypeId) : HR c w (setρ ρ H.length (.slice none 0 0)) (H ++ [.row k E []]) ∧ Ext ρ (setρ ρ H.length (.slice none 0 0)) :=
  hH.nilO (.row k E []) fun _ => .inl ⟨rfl, rfl⟩

/-- A slot that holds no slice holds an empty row of our own. -/
theorem wk_nlO (o' : AO) (hor : ∀ c w ρ, OR c w ρ o' (.slice none 0 0)) {s : ASt} {t : Tmp} (h : nth s.fr t = .nl) : Wk s ⟨upd s.fr t (.own s.hp.length), s.hp ++ [o']⟩ := fun c a w ρ hr => by
  obtain ⟨h1, h2⟩ := hr.hp.nilO o' (hor c w)
  refine ⟨_, fun t' => ?_, by simpa using hr.len, hr.defers, h1, hr.keep, fun j x hj => h2 _ _ (hr.lent j x hj)⟩
  by_cases e : t' = t
  · subst e
    rcases Nat.lt_or_ge t' s.fr.length with hl | hl
    · rw [nth_upd_same _ _ _ hl]
      have := hr.fr t'
      rw [h] at this
      simp only [RV] at this ⊢
      exact ⟨by rw [setρ_same, this], _, _, _, this⟩
    · rw [nth_ge _ _ (by simpa using hl)]; trivial
  · rw [nth_upd_other _ _ _ _ (fun h => e h.symm)]
    exact RV.ext h2 _ _ (hr.fr t')
theorem wk_nl (k : IntKind) (E : TypeId) {s : ASt} {t : Tmp} (h : nth s.fr t = .nl) : Wk s ⟨upd s.fr t (.own s.hp.length), s.hp ++ [.row k E []]⟩ :=
  wk_nlO (.row k E []) (fun _ _ _ => .inl ⟨rfl, rfl⟩) h
theorem wk_nlC (E : TypeId) (wd : Nat) {s : ASt} {t : Tmp} (h : nth s.fr t = .nl) : Wk s ⟨upd s.fr t (.own s.hp.length), s.hp ++ [.rc E wd []]⟩ :=
  wk_nlO (.rc E wd []) (fun _ _ _ => .inl ⟨rfl, rfl⟩) h
/-- The same for a cell of a box. -/
theorem wk_cell (k : IntKind) (E : TypeId) {s : ASt} {b j : Nat} {T : TypeId} {cs : List AV} (hb : s.hp[b]? = some (.box T cs)) (hj : nth cs j = .nl) (hl : j < cs.length) : Wk s ⟨s.fr, (s.hp.set b (.box T (upd cs j (.own s.hp.length)))) ++ [.row k E []]⟩ := fun c a w ρ hr => by
  obtain ⟨h1, h2⟩ := hr.hp.nil k E
  have hlt := (List.getElem?_eq_some_iff.1 hb).1
  refine ⟨_, fun t => RV.ext h2 _ _ (hr.fr t), hr.len, hr.defers, ⟨fun i x hi => ?_, fun i i' x y oi oj hij hi hj' hoi hoj li lj hm bb hb1 hb2 => ?_⟩, hr.keep, fun j x hj => h2 _ _ (hr.lent j x hj)⟩
  · obtain ⟨o, ho, hor⟩ := h1.obj i x hi
    by_cases e : i = b
    · subst e
      rw [List.getElem?_append_left hlt, hb] at ho; cases ho
      refine ⟨.box T (upd cs j (.own s.hp.length)), by rw [List.getElem?_append_left (by simpa using hlt)]; simp [hlt], ?_⟩
      obtain ⟨bl, xs, rfl, h0, hg, hr'⟩ := hor
      obtain ⟨y, hy, hyr⟩ := hr'.at j hl
      rw [hj] at hyr
      simp only [RV] at hyr
      subst hyr
      have := RVs.upd (x := .own s.hp.length) (v := .slice none 0 0) (by simp only [RV]; exact ⟨setρ_same _ _ _, _, _, _, rfl⟩) hr' j
      have e2 : xs.set j (.slice none 0 0) = xs := by
        apply List.ext_getElem?
        intro m
        by_cases em : m = j
        · subst em
          rw [hy, List.getElem?_set_self (List.getElem?_eq_some_iff.1 hy).1]
        · rw [List.getElem?_set_ne (fun h => em h.symm)]
      rw [e2] at this
      exact ⟨bl, xs, rfl, h0, hg, this⟩
    · refine ⟨o, ?_, hor⟩
      rcases Nat.lt_or_ge i s.hp.length with hi' | hi'
      · rw [List.getElem?_append_left hi'] at ho
        rw [List.getElem?_append_left (by simpa using hi'), List.getElem?_set_ne (fun h => e h.symm)]; exact ho
      · rw [List.getElem?_append_right hi'] at ho
        rw [List.getElem?_append_right (by simpa using hi')]; simpa using ho
  · have key : ∀ (i : Nat) (o : AO), ((s.hp.set b (.box T (upd cs j (.own s.hp.length)))) ++ [AO.row k E []])[i]? = some o → ∃ o' : AO, (s.hp ++ [AO.row k E []])[i]? = some o' ∧ o'.live = o.live ∧ o'.mut = o.mut := fun i o h => by
      rcases Nat.lt_or_ge i s.hp.length with hi' | hi'
      · rw [List.getElem?_append_left (by simpa using hi')] at h
        by_cases e : i = b
        · subst e
          simp [hlt] at h; subst h
          exact ⟨.box T cs, by rw [List.getElem?_append_left hi']; exact hb, rfl, rfl⟩
        · rw [List.getElem?_set_ne (fun h => e h.symm)] at h
          exact ⟨o, by rw [List.getElem?_append_left hi']; exact h, rfl, rfl⟩
      · rw [List.getElem?_append_right (by simpa using hi')] at h
        exact ⟨o, by rw [List.getElem?_append_right hi']; simpa using h, rfl, rfl⟩
    obtain ⟨o1, ho1, e1, e2⟩ := key i oi hoi
    obtain ⟨o2, ho2, e3, e4⟩ := key i' oj hoj
    exact h1.sep i i' x y o1 o2 hij hi hj' ho1 ho2 (by rw [e1]; exact li) (by rw [e3]; exact lj) (by rw [e2, e4]; exact hm) bb hb1 hb2

def FinS0 (C : Cfg) (rs : List ResultVar) (out : AV) (Ho : List AO) (s : ASt) : Prop :=
  ∃ p v, resV C s rs = some (p, v) ∧ p ∧ ∃ σ : List Nat, σ.Nodup ∧ v = out.ren σ ∧ σ.map (fun i => s.hp[i]?) = Ho.map (fun o => some (o.ren σ))
def FinS (C : Cfg) (rs : List ResultVar) (out : AV) (Ho : List AO) (s : ASt) : Prop := ∃ s2, Wk s s2 ∧ FinS0 C rs out Ho s2
def Fin (C : Cfg) (rs : List ResultVar) (out : AV) (Ho : List AO) : Exit → ASt → Prop
  | .normal, s => FinS C rs out Ho s
  | .ret, s => FinS C rs out Ho s
  | _, _ => False

section
variable {c : Cx} {C : Cfg} {s : ASt} {a : Act} {w : World} {ρ : Nat → Option Value}


theorem RV.unren0 {σ : List Nat} {x : AV} {v : Value} (hp : x.plain2 = true) (hσ : x.lt0 σ.length = true) (h : RV c ρ (x.ren0 σ) v) : RV c (pull ρ σ) x v := by
  cases x <;> simp [AV.plain2, AV.plain1, AV.plain] at hp <;> simp only [AV.ren0, RV] at h ⊢
  case i => exact h
  case b => exact h
  case v => exact h
  case nl => exact h
  case un => exact h
  case sl => exact h
  case ref => exact h
  case own j =>
    have : j < σ.length := by simpa [AV.lt0] using hσ
    refine ⟨?_, h.2⟩
    unfold pull
    rw [List.getElem?_eq_getElem this]
    simpa [List.getElem?_eq_getElem this] using h.1
  case bp j off =>
    have : j < σ.length := by simpa [AV.lt0] using hσ
    obtain ⟨b, h1, h2⟩ := h
    refine ⟨b, ?_, h2⟩
    unfold pull
    rw [List.getElem?_eq_getElem this]
    simpa [List.getElem?_eq_getElem this] using h1

theorem RVs.unren0 {σ : List Nat} : ∀ {xs : List AV} {vs : List Value}, xs.all AV.plain2 = true → xs.all (AV.lt0 σ.length) = true → RVs c ρ (xs.map (AV.ren0 σ)) vs → RVs c (pull ρ σ) xs vs
  | [], _, _, _, r => r
  | x :: xs, _, hp, hl, r => by
    simp only [List.all_cons, Bool.and_eq_true] at hp hl
    simp only [RVs, List.map_cons] at r ⊢; obtain ⟨y, ys, h1, h2, h3⟩ := r
    exact ⟨y, ys, h1, RV.unren0 hp.1 hl.1 h2, RVs.unren0 hp.2 hl.2 h3⟩
theorem RV.unren1 {σ : List Nat} {x : AV} {v : Value} (hp : x.outOkM = true) (hl : x.lt1 σ.length = true) (h : RV c ρ (x.ren1 σ) v) : RV c (pull ρ σ) x v := by
  unfold AV.outOkM at hp
  split at hp
  · simp only [AV.ren1, RV] at h ⊢
    obtain ⟨xs, h1, h2⟩ := h
    exact ⟨xs, h1, RVs.unren0 hp (by simpa [AV.lt1] using hl) h2⟩
  · rename_i hne
    have e1 : x.ren1 σ = x.ren0 σ := by cases x <;> simp_all [AV.ren1]
    have e2 : x.lt1 σ.length = x.lt0 σ.length := by cases x <;> simp_all [AV.lt1]
    rw [e1] at h; rw [e2] at hl
    exact RV.unren0 hp hl h
theorem RVs.unren1 {σ : List Nat} : ∀ {xs : List AV} {vs : List Value}, xs.all AV.outOkM = true → xs.all (AV.lt1 σ.length) = true → RVs c ρ (xs.map (AV.ren1 σ)) vs → RVs c (pull ρ σ) xs vs
  | [], _, _, _, r => r
  | x :: xs, _, hp, hl, r => by
    simp only [List.all_cons, Bool.and_eq_true] at hp hl
    simp only [RVs, List.map_cons] at r ⊢; obtain ⟨y, ys, h1, h2, h3⟩ := r
    exact ⟨y, ys, h1, RV.unren1 hp.1 hl.1 h2, RVs.unren1 hp.2 hl.2 h3⟩
theorem RV.unren {σ : List Nat} {x : AV} {v : Value} (hp : x.outOk2M = true) (hl : x.lt σ.length = true) (h : RV c ρ (x.ren σ) v) : RV c (pull ρ σ) x v := by
  unfold AV.outOk2M at hp
  split at hp
  · simp only [AV.ren, RV] at h ⊢
    obtain ⟨xs, h1, h2⟩ := h
    exact ⟨xs, h1, RVs.unren1 hp (by simpa [AV.lt] using hl) h2⟩
  · rename_i hne
    have e1 : x.ren σ = x.ren1 σ := by cases x <;> simp_all [AV.ren]
    have e2 : x.lt σ.length = x.lt1 σ.length := by cases x <;> simp_all [AV.lt]
    rw [e1] at h; rw [e2] at hl
    exact RV.unren1 hp hl h

theorem HR.unren (hH : HR c w ρ s.hp) {σ : List Nat} (hnd : σ.Nodup) {Ho : List AO} (hm : σ.map (fun i => s.hp[i]?) = Ho.map (fun o => some (o.ren σ))) (hok : Ho.all AO.outOkM = true) (hlt : Ho.all (AO.lt Ho.length) = true) : HR c w (pull ρ σ) Ho := by
  have hlen : σ.length = Ho.length := by have := congrArg List.length hm; simpa using this
  have get : ∀ (j i : Nat), σ[j]? = some i → ∃ o, Ho[j]? = some o ∧ s.hp[i]? = some (o.ren σ) := fun j i hj => by
    have h1 : (σ.map (fun i => s.hp[i]?))[j]? = (Ho.map (fun o => some (o.ren σ)))[j]? := by rw [hm]
    rw [List.getElem?_map, List.getElem?_map, hj] at h1
    cases ho : Ho[j]? with
    | none => rw [ho] at h1; cases h1
    | some o => rw [ho] at h1; simp at h1; exact ⟨o, rfl, h1⟩
  have und : ∀ j x, pull ρ σ j = some x → ∃ i, σ[j]? = some i ∧ ρ i = some x := fun j x h => by
    unfold pull at h
    cases hj : σ[j]? with
    | none => rw [hj] at h; cases h
    | some i => rw [hj] at h; exact ⟨i, rfl, h⟩
  refine ⟨fun j x hx => ?_, fun j k x y oj ok' hjk hj hk hoj hok' lj lk hmm b hb1 hb2 => ?_⟩
  · obtain ⟨i, hi, hρ⟩ := und j x hx
    obtain ⟨o, ho, hs⟩ := get j i hi
    obtain ⟨o', ho', hr⟩ := hH.obj i x hρ
    rw [hs] at ho'; cases ho'
    refine ⟨o, ho, ?_⟩
    have h1 := (List.all_eq_true.1 hok) o (List.mem_of_getElem? ho)
    have h2 := (List.all_eq_true.1 hlt) o (List.mem_of_getElem? ho)
    cases o with
    | dead => trivial
    | row k E l => exact hr
    | ro k l => exact hr
    | rc E wd rs => exact hr
    | box T cs =>
      obtain ⟨b, xs, rfl, h0, hg, r⟩ := hr
      exact ⟨b, xs, rfl, h0, hg, RVs.unren0 h1 (by rw [hlen]; exact h2) r⟩
  · obtain ⟨i, hi, hρ⟩ := und j x hj
    obtain ⟨i', hi', hρ'⟩ := und k y hk
    obtain ⟨o1, ho1, hs1⟩ := get j i hi
    obtain ⟨o2, ho2, hs2⟩ := get k i' hi'
    rw [hoj] at ho1; cases ho1
    rw [hok'] at ho2; cases ho2
    have live : ∀ o : AO, (o.ren σ).live = o.live ∧ (o.ren σ).mut = o.mut := fun o => by cases o <;> exact ⟨rfl, rfl⟩
    refine hH.sep i i' x y _ _ (fun e => ?_) hρ hρ' hs1 hs2 (by rw [(live _).1]; exact lj) (by rw [(live _).1]; exact lk) (by rw [(live _).2, (live _).2]; exact hmm) b hb1 hb2
    subst e
    have l1 := (List.getElem?_eq_some_iff.1 hi).1
    have l2 := (List.getElem?_eq_some_iff.1 hi').1
    have e1 := (List.getElem?_eq_some_iff.1 hi).2
    have e2 := (List.getElem?_eq_some_iff.1 hi').2
    exact hjk ((List.getElem_inj hnd).1 (e1.trans e2.symm))

def resSem (tmps : Array Value) (r : ResultVar) : Sem Value :=
  match r with
  | .tmp t => pure (tmps.getD t undef)
  | .cell x t => do loadVar t (← asAddr (tmps.getD x undef))

theorem results_sem (fn : Func) (tmps : Array Value) (P : Program) (w : World) {us : List Value} (h : (fn.results.toList.mapM (resSem tmps)).run P w = .ok us w) :
    (results fn tmps).run P w = .ok (if h : us.toArray.size = 1 then us.toArray[0] else .tuple us.toArray) w := by
  have e : results fn tmps = (do let vs ← fn.results.mapM (resSem tmps); pure (if h : vs.size = 1 then vs[0] else .tuple vs)) := by
    unfold results
    congr 1
  rw [e, ← Array.toArray_toList (xs := fn.results)]
  simp only [List.mapM_toArray, Sem.run_bind, Sem.run_map, h, Result.andThen_ok, Sem.run_pure]

theorem res1_ok (ok : CfgOk c.P C) (h : Rel c s a w ρ) {r : ResultVar} {p : Prop} {v : AV} (hr : resV1 C s r = some (p, v)) (hp : p) :
    ∃ u, (resSem a.tmps r).run c.P w = .ok u w ∧ RV c ρ v u := by
  cases r with
  | tmp t => simp only [resV1, Option.some.injEq, Prod.mk.injEq] at hr; obtain ⟨rfl, rfl⟩ := hr; exact ⟨_, rfl, h.fr t⟩
  | cell x t =>
    simp only [resV1] at hr
    split at hr <;> cases hr
    rename_i hl
    obtain ⟨_, u, hu, hv⟩ := load_ok ok hl hp h.hp (fun _ _ h => h) h.keep (h.fr x)
    refine ⟨u, ?_, hv⟩
    simp only [resSem]
    generalize a.tmps.getD x undef = y at hu ⊢
    cases y with
    | pointer q =>
      cases q with
      | none => simp [Instr.loadAt, Instr.sureAddr] at hu
      | some q => simpa [Instr.loadAt, Instr.sureAddr, asAddr] using hu
    | _ => simp [Instr.loadAt, Instr.sureAddr] at hu

theorem resVs_ok (ok : CfgOk c.P C) (h : Rel c s a w ρ) : ∀ {rs : List ResultVar} {p : Prop} {vs : List AV}, resVs C s rs = some (p, vs) → p →
    ∃ us, (rs.mapM (resSem a.tmps)).run c.P w = Result.ok us w ∧ RVs c ρ vs us
  | [], p, vs, hr, _ => by simp only [resVs, Option.some.injEq, Prod.mk.injEq] at hr; obtain ⟨rfl, rfl⟩ := hr; exact ⟨[], by simp, rfl⟩
  | r :: rs, p, vs, hr, hp => by
    simp only [resVs] at hr
    split at hr <;> cases hr
    rename_i p1 v q vs h1 h2
    obtain ⟨u, hu, hv⟩ := res1_ok ok h h1 hp.1
    obtain ⟨us, hus, hvs⟩ := resVs_ok ok h h2 hp.2
    refine ⟨u :: us, ?_, by simp only [RVs]; exact ⟨u, us, rfl, hv, hvs⟩⟩
    rw [List.mapM_cons]
    simp only [Sem.run_bind, hu, Result.andThen_ok, hus, Sem.run_pure]

theorem results_ok (ok : CfgOk c.P C) (h : Rel c s a w ρ) {fn : Func} {p : Prop} {v : AV} (hr : resV C s fn.results.toList = some (p, v)) (hp : p) :
    ∃ u, (results fn a.tmps).run c.P w = .ok u w ∧ RV c ρ v u := by
  unfold resV at hr
  split at hr
  · rename_i h1
    cases hr
    obtain ⟨us, hus, hvs⟩ := resVs_ok ok h h1 hp
    simp only [RVs] at hvs
    obtain ⟨y, ys, rfl, hy, rfl⟩ := hvs
    exact ⟨y, by rw [results_sem fn _ _ _ hus]; simp, hy⟩
  · rename_i vs hne h1
    cases hr
    obtain ⟨us, hus, hvs⟩ := resVs_ok ok h h1 hp
    have hl := hvs.length
    have h1' : ¬ us.length = 1 := fun e => by
      rw [hl] at e
      match vs, e with
      | [v], _ => exact hne v rfl
    refine ⟨.tuple us.toArray, by rw [results_sem fn _ _ _ hus]; simp [h1'], by simp only [RV]; exact ⟨us, rfl, hvs⟩⟩
  · cases hr

end

theorem nth_append_left : ∀ (l r : List AV) (t : Nat), t < l.length → nth (l ++ r) t = nth l t
  | [], _, _, h => by simp at h
  | _ :: _, _, 0, _ => rfl
  | _ :: l, r, t + 1, h => nth_append_left l r t (by simpa using h)
theorem nth_replicate : ∀ (n t : Nat), t < n → nth (List.replicate n .un) t = .un
  | 0, _, h => by omega
  | _ + 1, 0, _ => rfl
  | n + 1, t + 1, h => nth_replicate n t (by omega)
theorem nth_append_right : ∀ (l r : List AV) (t : Nat), l.length ≤ t → nth (l ++ r) t = nth r (t - l.length)
  | [], _, _, _ => rfl
  | _ :: _, _, 0, h => by simp at h
  | _ :: l, r, t + 1, h => by simp only [List.cons_append, nth, List.length_cons]; rw [nth_append_right l r t (by simpa using h)]; congr 1; omega

/-- A function's contract, by its body. -/
theorem acall_of {P : Program} {C : Cfg} {f : FuncId} {fn : Func} {x : Code} {args : List AV} {out : AV} {Ho : List AO} (ok : CfgOk P C) (hf : P.funcs[f]? = some fn) (hb : fn.body = some x)
    (h1 : out.outOk2 = true) (h2 : out.lt Ho.length = true) (h3 : Ho.all AO.outOk = true) (h4 : Ho.all (AO.lt Ho.length) = true)
    (h : ∀ c : Cx, c.P = P → (∀ j x, c.L j = some x → j < 0) → Awp c C x (Fin C fn.results.toList out Ho) ⟨args ++ List.replicate (fn.ntmps - args.length) .un, []⟩) : ACall P f args out Ho := by
  intro w vs hgw hvs
  have hl := hvs.length
  refine calls_of_wp hf hb ?_
  have hrel : Rel (cx0 P w) ⟨args ++ List.replicate (fn.ntmps - args.length) .un, []⟩ { tmps := vs.toArray ++ Array.replicate (fn.ntmps - vs.toArray.size) undef, defers := [] } w nor := by
    have hnil : HR (cx0 P w) w nor [] := ⟨fun id x h => (by cases h), fun i j x y oi oj _ h => (by cases h)⟩
    refine ⟨fun t => ?_, by simp [hl], rfl, hnil, Keep.refl P w _ _ hgw (fun k _ => noX k), fun j x h => by cases h⟩
    rcases Nat.lt_or_ge t args.length with ht | ht
    · obtain ⟨y, hy, hr⟩ := hvs.at t ht
      rw [nth_append_left _ _ _ ht]
      have : t < vs.length := by omega
      have he : (vs.toArray ++ Array.replicate (fn.ntmps - vs.toArray.size) undef).getD t undef = y := by
        rw [List.getElem?_eq_getElem this] at hy
        cases hy
        simp [Array.getElem?_append, this]
      rw [he]
      exact hr
    · rw [nth_append_right _ _ _ ht]
      have hnt : ¬ t < vs.length := by omega
      rcases Nat.lt_or_ge (t - args.length) (fn.ntmps - args.length) with h5 | h5
      · rw [nth_replicate _ _ h5]
        have h6 : t - vs.length < fn.ntmps - vs.length := by omega
        simp [Array.getElem?_append, hnt, h6, RV]
      · rw [nth_ge _ _ (by simpa using h5)]; trivial
  refine Code.wp_mono (fun e a' w' ⟨s', ρ', hfin, hr⟩ => ?_) ((h (cx0 P w) rfl (fun j x h => by cases h)).run ok _ w nor hrel)
  have key : FinS C fn.results.toList out Ho s' → a'.defers = [] ∧ ∃ v, (results fn a'.tmps).run P w' = .ok v w' ∧ ∃ v' ρ, Ending.returned v = .returned v' ∧ RV (cx0 P w) ρ out v' ∧ HR (cx0 P w) w' ρ Ho ∧ Keep (cx0 P w) w' := by
    rintro ⟨s2, hwk, p, v, h5, h6, σ, hnd, rfl, hm⟩
    obtain ⟨ρ', hr⟩ := hwk _ _ _ _ hr
    obtain ⟨u, hu, hv⟩ := results_ok (c := (cx0 P w)) ok hr h5 h6
    have hlen : σ.length = Ho.length := by have := congrArg List.length hm; simpa using this
    exact ⟨hr.defers, u, hu, u, pull ρ' σ, rfl, RV.unren (outOk2_M h1) (by rw [hlen]; exact h2) hv, hr.hp.unren hnd hm (all_outOk_M h3) h4, hr.keep⟩
  cases e
  case normal => exact key hfin
  case ret => exact key hfin
  all_goals exact hfin.elim

/-- The end of a function to which m objects were lent. -/
def FinSM (m : Nat) (C : Cfg) (rs : List ResultVar) (out : AV) (Ho : List AO) (s0 : ASt) : Prop :=
  ∃ s, Wk s0 s ∧ ∃ p v, resV C s rs = some (p, v) ∧ p ∧ ∃ σ : List Nat, σ.Nodup ∧ σ.take m = List.range m ∧ v = out.ren σ ∧ σ.map (fun i => s.hp[i]?) = Ho.map (fun o => some (o.ren σ))
def FinM (m : Nat) (C : Cfg) (rs : List ResultVar) (out : AV) (Ho : List AO) : Exit → ASt → Prop
  | .normal, s => FinSM m C rs out Ho s
  | .ret, s => FinSM m C rs out Ho s
  | _, _ => False

theorem mcall_of {P : Program} {C : Cfg} {f : FuncId} {fn : Func} {x : Code} {args : List AV} {L : List AO} {out : AV} {Ho : List AO} (ok : CfgOk P C) (hf : P.funcs[f]? = some fn) (hb : fn.body = some x)
    (h1 : out.outOk2M = true) (h2 : out.lt Ho.length = true) (h3 : Ho.all AO.outOkM = true) (h4 : Ho.all (AO.lt Ho.length) = true)
    (h : ∀ c : Cx, c.P = P → (∀ j x, c.L j = some x → j < L.length) → Awp c C x (FinM L.length C fn.results.toList out Ho) ⟨args ++ List.replicate (fn.ntmps - args.length) .un, L⟩) : MCall P f args L out Ho := by
  intro w ρ0 N vs hkw hvs hHL
  have hl := hvs.length
  refine calls_of_wp hf hb ?_
  have hrel : Rel ⟨P, w, ρ0, N⟩ ⟨args ++ List.replicate (fn.ntmps - args.length) .un, L⟩ { tmps := vs.toArray ++ Array.replicate (fn.ntmps - vs.toArray.size) undef, defers := [] } w ρ0 := by
    refine ⟨fun t => ?_, by simp [hl], rfl, hHL, hkw, fun j x h => h⟩
    rcases Nat.lt_or_ge t args.length with ht | ht
    · obtain ⟨y, hy, hr⟩ := hvs.at t ht
      rw [nth_append_left _ _ _ ht]
      have : t < vs.length := by omega
      have he : (vs.toArray ++ Array.replicate (fn.ntmps - vs.toArray.size) undef).getD t undef = y := by
        rw [List.getElem?_eq_getElem this] at hy
        cases hy
        simp [Array.getElem?_append, this]
      rw [he]
      exact hr
    · rw [nth_append_right _ _ _ ht]
      have hnt : ¬ t < vs.length := by omega
      rcases Nat.lt_or_ge (t - args.length) (fn.ntmps - args.length) with h5 | h5
      · rw [nth_replicate _ _ h5]
        have h6 : t - vs.length < fn.ntmps - vs.length := by omega
        simp [Array.getElem?_append, hnt, h6, RV]
      · rw [nth_ge _ _ (by simpa using h5)]; trivial
  refine Code.wp_mono (fun e a' w' ⟨s', ρ', hfin, hr⟩ => ?_) ((h ⟨P, w, ρ0, N⟩ rfl (fun j x hj => by obtain ⟨o, ho, _⟩ := hHL.obj j x hj; exact (List.getElem?_eq_some_iff.1 ho).1)).run ok _ w ρ0 hrel)
  have key : FinSM L.length C fn.results.toList out Ho s' → a'.defers = [] ∧ ∃ v, (results fn a'.tmps).run P w' = .ok v w' ∧ ∃ v' ρ, Ending.returned v = .returned v' ∧ RV ⟨P, w, ρ0, N⟩ ρ out v' ∧ HR ⟨P, w, ρ0, N⟩ w' ρ Ho ∧ Keep ⟨P, w, ρ0, N⟩ w' ∧
      ∀ j x, j < L.length → ρ0 j = some x → ρ j = some x := by
    rintro ⟨s2, hwk, p, v, h5, h6, σ, hnd, hσ, rfl, hm⟩
    obtain ⟨ρ', hr⟩ := hwk _ _ _ _ hr
    obtain ⟨u, hu, hv⟩ := results_ok (c := ⟨P, w, ρ0, N⟩) ok hr h5 h6
    have hlen : σ.length = Ho.length := by have := congrArg List.length hm; simpa using this
    refine ⟨hr.defers, u, hu, u, pull ρ' σ, rfl, RV.unren h1 (by rw [hlen]; exact h2) hv, hr.hp.unren hnd hm h3 h4, hr.keep, fun j x hj hx => ?_⟩
    have e : σ[j]? = some j := by
      have : (σ.take L.length)[j]? = (List.range L.length)[j]? := by rw [hσ]
      rwa [List.getElem?_take, if_pos hj, List.getElem?_range hj] at this
    unfold pull
    rw [e]
    exact hr.lent j x hx
  cases e
  case normal => exact key hfin
  case ret => exact key hfin
  all_goals exact hfin.elim

end Go.Ab
