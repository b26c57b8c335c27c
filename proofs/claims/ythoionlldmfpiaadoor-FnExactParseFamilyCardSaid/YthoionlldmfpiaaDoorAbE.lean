/-
  AN ABSTRACT MACHINE, part E: calls, and every operation.
-/
import Derived.Test.YthoionlldmfpiaaDoorAbD
set_option linter.unusedSimpArgs false
set_option linter.unusedVariables false
namespace Go.Ab
open Go Go.RowKit

/-- A callee's setting: the world at the call; nothing lent. -/
def sub (c : Cx) (w : World) : Cx := (cx0 c.P w)
def nor : Nat → Option Value := fun _ => none

theorem Keep.of_sub {c : Cx} {w w' : World} (hk : Keep c w) (h : Keep (sub c w) w') : Keep c w' := hk.trans h

mutual
theorem RV.lift {c : Cx} {w : World} (hk : Keep c w) : ∀ (x : AV) (v : Value), RV c nor x v → RV (sub c w) nor x v
  | .any, _, _ => trivial
  | .un, _, r => r
  | .i _, _, r => r
  | .b _, _, r => r
  | .v _, _, r => r
  | .nl, _, r => r
  | .sl k l, v, r => by
    simp only [RV] at r ⊢
    rcases r with r | ⟨b, o, cap, rfl, h1, h2, h3⟩
    · exact .inl r
    · exact .inr ⟨b, o, cap, rfl, h1, h2, fun j hj => ⟨inX b, hk.cell (h3 j hj).1 (h3 j hj).2⟩⟩
  | .ref cs, v, r => by simp only [RV] at r ⊢; obtain ⟨b, o, rfl, h⟩ := r; exact ⟨b, o, rfl, RCells.lift hk cs b o h⟩
  | .own id, v, r => by simp only [RV, nor] at r; cases r.1
  | .eo _ _, _, r => by simp only [RV, nor] at r; obtain ⟨_, _, _, h, _⟩ := r; cases h
  | .bp _ _, _, r => by simp only [RV, nor] at r; obtain ⟨_, h, _⟩ := r; cases h
  | .ag cs, _, r => by simp only [RV] at r ⊢; obtain ⟨xs, h1, h2⟩ := r; exact ⟨xs, h1, RVs.lift hk cs xs h2⟩
  | .tu cs, _, r => by simp only [RV] at r ⊢; obtain ⟨xs, h1, h2⟩ := r; exact ⟨xs, h1, RVs.lift hk cs xs h2⟩
  | .fn _ cs, _, r => by simp only [RV] at r ⊢; obtain ⟨xs, h1, h2⟩ := r; exact ⟨xs, h1, RVs.lift hk cs xs h2⟩
  | .fv g, _, r => by
    simp only [RV] at r ⊢
    obtain ⟨f, caps, rfl, h1, h2⟩ := r
    exact ⟨f, caps, rfl, h1, fun w' hw' ns r hg => h2 w' (hk.of_sub hw') ns r hg⟩
  | .vw _ _ _, _, r => by simp only [RV, nor] at r; obtain ⟨_, _, _, h, _⟩ := r; cases h
  | .sc wd rs, v, r => by
    simp only [RV] at r ⊢
    rcases r with r | ⟨b, o, cap, rfl, h0, h1, h2, h3⟩
    · exact .inl r
    · exact .inr ⟨b, o, cap, rfl, h0, h1, h2, fun j u hj => ⟨inX b, hk.cell (h3 j u hj).1 (h3 j u hj).2⟩⟩
  | .ec _ _ _ _, _, r => by simp only [RV, nor] at r; obtain ⟨_, _, _, h, _⟩ := r; cases h
theorem RVs.lift {c : Cx} {w : World} (hk : Keep c w) : ∀ (x : List AV) (v : List Value), RVs c nor x v → RVs (sub c w) nor x v
  | [], _, r => r
  | x :: xs, _, r => by simp only [RVs] at r ⊢; obtain ⟨y, ys, h1, h2, h3⟩ := r; exact ⟨y, ys, h1, RV.lift hk x y h2, RVs.lift hk xs ys h3⟩
theorem RCells.lift {c : Cx} {w : World} (hk : Keep c w) : ∀ (x : List AV) (b o : Nat), RCells c x b o → RCells (sub c w) x b o
  | [], _, _, _ => trivial
  | x :: xs, b, o, r => by
    simp only [RCells] at r ⊢
    obtain ⟨⟨hX, y, hy, h1⟩, h2⟩ := r
    exact ⟨⟨inX b, y, hk.cell hX hy, RV.lift hk x y h1⟩, RCells.lift hk xs b (o + 1) h2⟩
end

theorem RowR.sl {c : Cx} {w : World} {k : IntKind} {E : TypeId} {l : List Int} {v : Value} (h : RowR c w k E l v) : SlR (sub c w) k l v := by
  rcases h with h | ⟨b, cap, cur, rfl, _, hg, h1, h2, h3, ht⟩
  · exact .inl h
  · refine .inr ⟨b, 0, cap, rfl, h1, h2, fun j hj => ⟨inX _, ?_⟩⟩
    show w.cell? _ = _
    rw [Nat.zero_add, row_cell hg]
    exact row_at ht hj
theorem RoR.sl {c : Cx} {w : World} {k : IntKind} {l : List Int} {v : Value} (h : RoR c w k l v) : SlR (sub c w) k l v := by
  rcases h with h | ⟨b, o, cap, rfl, _, _, h1, h2, h3⟩
  · exact .inl h
  · exact .inr ⟨b, o, cap, rfl, h1, h2, fun j hj => ⟨inX _, h3 j hj⟩⟩
theorem RcR.sc {c : Cx} {w : World} {E : TypeId} {wd : Nat} {rs : List (List Value)} {v : Value} (h : RcR c w E wd rs v) : ScR (sub c w) wd rs v := by
  rcases h with h | ⟨b, cap, cur, rfl, _, hg, h0, h1, h2, h3, ht⟩
  · exact .inl h
  · refine .inr ⟨b, 0, cap, rfl, h0, h1, h2, fun j u hj => ⟨inX _, ?_⟩⟩
    show w.cell? _ = _
    rw [Nat.zero_add, row_cell hg, ← Array.getElem?_toList]
    rw [← ht, List.getElem?_take] at hj
    split at hj
    · exact hj
    · cases hj

theorem RV.frz0 {c : Cx} {w : World} {ρ : Nat → Option Value} {Hf H : List AO} (hH : HR c w ρ Hf) (hsub : ∀ (id : Nat) (o : AO), H[id]? = some o → Hf[id]? = some o) (hk : Keep c w) :
    ∀ {x : AV} {v : Value}, RV c ρ x v → RV (sub c w) nor (frz0 H x) v
  | .any, _, _ => trivial
  | .un, _, _ => trivial
  | .i _, _, r => r
  | .b _, _, r => r
  | .v _, _, r => r
  | .nl, v, r => by simp only [RV] at r; subst r; simp only [Ab.frz0, RV]; exact .inl ⟨rfl, rfl⟩
  | .sl k l, v, r => RV.lift hk (.sl k l) v (by simpa only [RV] using r)
  | .ref cs, v, r => RV.lift hk (.ref cs) v (by simpa only [RV] using r)
  | .fv g, v, r => RV.lift hk (.fv g) v (by simpa only [RV] using r)
  | .own id, v, r => by
    simp only [RV] at r
    simp only [Ab.frz0]
    split
    · rename_i k E l hid; simp only [RV]; exact RowR.sl (hH.get hsub hid r.1)
    · rename_i k l hid; simp only [RV]; exact RoR.sl (hH.get hsub hid r.1)
    · rename_i E wd rs hid; simp only [RV]; exact RcR.sc (hH.get hsub hid r.1)
    · trivial
  | .vw id lo hi, v, r => by
    simp only [RV] at r
    simp only [Ab.frz0]
    split
    · rename_i k E l hid
      simp only [RV]
      obtain ⟨a, n, cap, hρ, h1, h2, rfl⟩ := r
      have hs := RowR.sl (hH.get hsub hid hρ)
      have hn : n = l.length := by
        obtain ⟨a', cap', e⟩ := row_len (hH.get hsub hid hρ)
        simp only [Value.slice.injEq] at e; exact e.2.1
      obtain ⟨a', n', cap', e, _, _, h5⟩ := hs.cut (lo := lo) (hi := hi) h1 (by omega)
      simp only [Value.slice.injEq] at e
      obtain ⟨rfl, rfl, rfl⟩ := e
      exact h5
    · trivial
  | .sc wd rs, v, r => RV.lift hk (.sc wd rs) v (by simpa only [RV] using r)
  | .ec _ _ _ _, _, _ => trivial
  | .eo _ _, _, _ => trivial
  | .bp _ _, _, _ => trivial
  | .ag _, _, _ => trivial
  | .tu _, _, _ => trivial
  | .fn f [], v, r => by simp only [Ab.frz0, RV, RVs] at r ⊢; exact r
  | .fn _ (_ :: _), _, _ => trivial

theorem RVs.map {c c' : Cx} {ρ ρ' : Nat → Option Value} {g : AV → AV} (h : ∀ {x : AV} {v : Value}, RV c ρ x v → RV c' ρ' (g x) v) : ∀ {xs : List AV} {vs : List Value}, RVs c ρ xs vs → RVs c' ρ' (xs.map g) vs
  | [], _, r => r
  | x :: xs, _, r => by simp only [RVs, List.map_cons] at r ⊢; obtain ⟨y, ys, h1, h2, h3⟩ := r; exact ⟨y, ys, h1, h h2, RVs.map h h3⟩

theorem RVs.cells {c : Cx} {w : World} {ρ : Nat → Option Value} (hw : c.w0 = w) (hX : ∀ b, c.In b) (hρ : ρ = nor) {b : Nat} : ∀ {xs : List AV} {vs : List Value} {o : Nat}, RVs c ρ xs vs → (∀ j v, vs[j]? = some v → w.cell? ⟨b, o + j, none⟩ = some v) → RCells c xs b o
  | [], _, _, _, _ => trivial
  | x :: xs, _, o, r, h => by
    simp only [RVs] at r
    obtain ⟨y, ys, rfl, h2, h3⟩ := r
    simp only [RCells]
    refine ⟨⟨hX b, y, by rw [hw]; exact h 0 y rfl, by rw [hρ] at h2; exact h2⟩, RVs.cells hw hX hρ h3 fun j v hv => ?_⟩
    rw [show o + 1 + j = o + (j + 1) by omega]
    exact h (j + 1) v (by simpa using hv)

theorem RV.frz1 {c : Cx} {w : World} {ρ : Nat → Option Value} {Hf H : List AO} (hH : HR c w ρ Hf) (hsub : ∀ (id : Nat) (o : AO), H[id]? = some o → Hf[id]? = some o) (hk : Keep c w)
    {x : AV} {v : Value} (hx : RV c ρ x v) : RV (sub c w) nor (frz1 H x) v := by
  unfold Ab.frz1
  split
  · rename_i id off
    split
    · rename_i T cs hid
      simp only [RV] at hx ⊢
      obtain ⟨b, hρ, rfl⟩ := hx
      obtain ⟨b', xs, hb, _, hg, hrs⟩ := hH.get hsub hid hρ
      simp only [Value.pointer.injEq, Option.some.injEq, Addr.mk.injEq, and_true] at hb
      obtain rfl := hb
      refine ⟨b, off, rfl, ?_⟩
      have h1 : RVs (sub c w) nor (cs.map (Ab.frz0 H)) xs := RVs.map (fun h => RV.frz0 hH hsub hk h) hrs
      have h2 : RCells (sub c w) (cs.map (Ab.frz0 H)) b 0 := RVs.cells rfl inX rfl h1 (fun j v hv => by show w.cell? _ = _; rw [Nat.zero_add, row_cell hg]; simpa using hv)
      have := RCells.drop off h2
      rwa [Nat.zero_add] at this
    · trivial
  · simp only [RV] at hx ⊢
    obtain ⟨xs, h1, h2⟩ := hx
    exact ⟨xs, h1, RVs.map (fun h => RV.frz0 hH hsub hk h) h2⟩
  · exact RV.frz0 hH hsub hk hx

theorem RV.frz {c : Cx} {w : World} {ρ : Nat → Option Value} {Hf H : List AO} (hH : HR c w ρ Hf) (hsub : ∀ (id : Nat) (o : AO), H[id]? = some o → Hf[id]? = some o) (hk : Keep c w)
    {x : AV} {v : Value} (hx : RV c ρ x v) : RV (sub c w) nor (frz H x) v := by
  unfold Ab.frz
  split
  · simp only [RV] at hx ⊢
    obtain ⟨xs, h1, h2⟩ := hx
    exact ⟨xs, h1, RVs.map (fun h => RV.frz1 hH hsub hk h) h2⟩
  · exact RV.frz1 hH hsub hk hx

/-! ### What comes back -/
def join (ρ ρ' : Nat → Option Value) (n m : Nat) : Nat → Option Value := fun id => if n ≤ id ∧ id < n + m then ρ' (id - n) else ρ id

theorem join_new {ρ ρ' : Nat → Option Value} {n m id : Nat} (h : id < m) : join ρ ρ' n m (id + n) = ρ' id := by
  unfold join; rw [if_pos (by omega)]; congr 1; omega

section
variable {c c' : Cx} {ρ ρ' : Nat → Option Value} {n m : Nat} (hdom : ∀ id x, ρ' id = some x → id < m)
include hdom
theorem RV.back0 {x : AV} {v : Value} (hp : x.plain = true) (h : RV c' ρ' x v) : RV c (join ρ ρ' n m) (x.shift0 n) v := by
  cases x <;> simp [AV.plain] at hp <;> simp only [AV.shift0, RV] at h ⊢
  case i => exact h
  case b => exact h
  case v => exact h
  case nl => exact h
  case un => exact h
  case own id => exact ⟨by rw [join_new (hdom _ _ h.1)]; exact h.1, h.2⟩
theorem RVs.back0 : ∀ {xs : List AV} {vs : List Value}, xs.all AV.plain = true → RVs c' ρ' xs vs → RVs c (join ρ ρ' n m) (xs.map (AV.shift0 n)) vs
  | [], _, _, r => r
  | x :: xs, _, hp, r => by
    simp only [List.all_cons, Bool.and_eq_true] at hp
    simp only [RVs, List.map_cons] at r ⊢; obtain ⟨y, ys, h1, h2, h3⟩ := r; exact ⟨y, ys, h1, RV.back0 hdom hp.1 h2, RVs.back0 hp.2 h3⟩
theorem RV.back1 {x : AV} {v : Value} (hp : x.outOk = true) (h : RV c' ρ' x v) : RV c (join ρ ρ' n m) (x.shift1 n) v := by
  unfold AV.outOk at hp
  split at hp
  · simp only [AV.shift1, RV] at h ⊢
    obtain ⟨xs, h1, h2⟩ := h
    exact ⟨xs, h1, RVs.back0 hdom hp h2⟩
  · rename_i hne
    have : x.shift1 n = x.shift0 n := by cases x <;> simp_all [AV.shift1]
    rw [this]; exact RV.back0 hdom hp h
theorem RVs.back1 : ∀ {xs : List AV} {vs : List Value}, xs.all AV.outOk = true → RVs c' ρ' xs vs → RVs c (join ρ ρ' n m) (xs.map (AV.shift1 n)) vs
  | [], _, _, r => r
  | x :: xs, _, hp, r => by
    simp only [List.all_cons, Bool.and_eq_true] at hp
    simp only [RVs, List.map_cons] at r ⊢; obtain ⟨y, ys, h1, h2, h3⟩ := r; exact ⟨y, ys, h1, RV.back1 hdom hp.1 h2, RVs.back1 hp.2 h3⟩
theorem RV.back {x : AV} {v : Value} (hp : x.outOk2 = true) (h : RV c' ρ' x v) : RV c (join ρ ρ' n m) (x.shift n) v := by
  unfold AV.outOk2 at hp
  split at hp
  · simp only [AV.shift, RV] at h ⊢
    obtain ⟨xs, h1, h2⟩ := h
    exact ⟨xs, h1, RVs.back1 hdom hp h2⟩
  · rename_i hne
    have : x.shift n = x.shift1 n := by cases x <;> simp_all [AV.shift]
    rw [this]; exact RV.back1 hdom hp h
end

theorem AO.shift_live (o : AO) (n : Nat) : (o.shift n).live = o.live ∧ (o.shift n).mut = o.mut := by cases o <;> exact ⟨rfl, rfl⟩

/-- The heap behind a call: what was, and what the callee made. -/
theorem HR.join {c : Cx} {w w' : World} {ρ ρ' : Nat → Option Value} {Hf Ho : List AO} (hk : Keep c w) (hH : HR c w ρ Hf) (hk' : Keep (sub c w) w') (hH' : HR (sub c w) w' ρ' Ho) (hok : Ho.all AO.outOk = true) {n : Nat}
    (hfree : ∀ id, n ≤ id → id < n + Ho.length → ρ id = none) (hnew : ∀ (j : Nat) (o : AO), Ho[j]? = some o → Hf[n + j]? = some (o.shift n)) : HR c w' (join ρ ρ' n Ho.length) Hf := by
  have hdom : ∀ id x, ρ' id = some x → id < Ho.length := fun id x h => by obtain ⟨o, ho, _⟩ := hH'.obj id x h; exact (List.getElem?_eq_some_iff.1 ho).1
  have hb : Below w.heap.size w w' := hk'.below
  have hext : Ext ρ (Ab.join ρ ρ' n Ho.length) := fun id x h => by
    unfold Ab.join; rw [if_neg]; exact h
    intro hr; rw [hfree id hr.1 hr.2] at h; cases h
  have own : ∀ b, Ownb (sub c w) b → w.heap.size ≤ b := fun b h => h.elim id (fun h => (noX b h).elim)
  have back : ∀ (o : AO) (x : Value), o.outOk = true → OR (sub c w) w' ρ' o x → OR c w' (Ab.join ρ ρ' n Ho.length) (o.shift n) x := fun o x ho h => by
    cases o with
    | dead => trivial
    | row k E l =>
      rcases h with h | ⟨b, cap, cur, rfl, h0, r⟩
      · exact .inl h
      · exact .inr ⟨b, cap, cur, rfl, .inl (Nat.le_trans hk.size (own b h0)), r⟩
    | box T cs =>
      obtain ⟨b, xs, rfl, h0, hg, r⟩ := h
      exact ⟨b, xs, rfl, .inl (Nat.le_trans hk.size (own b h0)), hg, RVs.back0 hdom ho r⟩
    | ro k l =>
      rcases h with h | ⟨b, o', cap, rfl, h0, r⟩
      · exact .inl h
      · exact .inr ⟨b, o', cap, rfl, .inl (Nat.le_trans hk.size (own b h0)), r⟩
    | rc E wd rs =>
      rcases h with h | ⟨b, cap, cur, rfl, h0, r⟩
      · exact .inl h
      · exact .inr ⟨b, cap, cur, rfl, .inl (Nat.le_trans hk.size (own b h0)), r⟩
  have case : ∀ id x, Ab.join ρ ρ' n Ho.length id = some x → (ρ id = some x ∧ ¬ (n ≤ id ∧ id < n + Ho.length)) ∨ ∃ j o, id = n + j ∧ ρ' j = some x ∧ Ho[j]? = some o ∧ OR (sub c w) w' ρ' o x := fun id x h => by
    unfold Ab.join at h
    split at h
    · rename_i hr
      obtain ⟨o, ho, hr'⟩ := hH'.obj _ x h
      exact .inr ⟨id - n, o, by omega, h, ho, hr'⟩
    · rename_i hr; exact .inl ⟨h, hr⟩
  refine ⟨fun id x h => ?_, fun i j y z oi oj hij hi hj hoi hoj li lj hmm b hb1 hb2 => ?_⟩
  · rcases case id x h with ⟨h1, _⟩ | ⟨j, o, rfl, _, ho, hr⟩
    · obtain ⟨o, ho, hr⟩ := hH.obj id x h1
      exact ⟨o, ho, hr.keep hext hb.size fun hl b hbl => hb.block b (hr.lt hl hbl).1⟩
    · exact ⟨_, hnew j o ho, back o x ((List.all_eq_true.1 hok) o (List.mem_of_getElem? ho)) hr⟩
  · rcases case i y hi with ⟨hi1, hin⟩ | ⟨i', o1, rfl, hi1, ho1, hr1⟩ <;> rcases case j z hj with ⟨hj1, hjn⟩ | ⟨j', o2, rfl, hj1, ho2, hr2⟩
    · exact hH.sep i j y z oi oj hij hi1 hj1 hoi hoj li lj hmm b hb1 hb2
    · obtain ⟨o, ho, hr⟩ := hH.obj i y hi1
      rw [hoi] at ho; cases ho
      rw [hnew j' o2 ho2] at hoj; cases hoj
      rw [(AO.shift_live o2 n).1] at lj
      have := own b (hr2.lt lj hb2).2
      have := (hr.lt li hb1).1
      omega
    · obtain ⟨o, ho, hr⟩ := hH.obj j z hj1
      rw [hoj] at ho; cases ho
      rw [hnew i' o1 ho1] at hoi; cases hoi
      rw [(AO.shift_live o1 n).1] at li
      have := own b (hr1.lt li hb1).2
      have := (hr.lt lj hb2).1
      omega
    · rw [hnew i' o1 ho1] at hoi; cases hoi
      rw [hnew j' o2 ho2] at hoj; cases hoj
      rw [(AO.shift_live o1 n).1] at li
      rw [(AO.shift_live o2 n).1] at lj
      rw [(AO.shift_live o1 n).2, (AO.shift_live o2 n).2] at hmm
      exact hH'.sep i' j' y z o1 o2 (by omega) hi1 hj1 ho1 ho2 li lj hmm b hb1 hb2

theorem RVs.app {c : Cx} {ρ : Nat → Option Value} {xs ys : List AV} {us vs : Array Value} (h1 : RVs c ρ xs us.toList) (h2 : RVs c ρ ys vs.toList) : RVs c ρ (xs ++ ys) (us ++ vs).toList := by
  rw [Array.toList_append]; exact h1.append h2

theorem ints_of {c : Cx} {ρ : Nat → Option Value} : ∀ {xs : List AV} {vs : List Value} {ns : List Int}, xs.mapM (fun x => match x with | .i n => some n | _ => none) = some ns → RVs c ρ xs vs → vs = ns.map (Value.int .i64)
  | [], _, _, h, r => by simp only [RVs] at r; subst r; simp at h; subst h; rfl
  | x :: xs, _, ns, h, r => by
    simp only [RVs] at r
    obtain ⟨y, ys, rfl, h2, h3⟩ := r
    simp only [List.mapM_cons, Option.bind_eq_bind, Option.bind_eq_some_iff, Option.pure_def, Option.some.injEq] at h
    obtain ⟨n, hn, ms, hm, rfl⟩ := h
    have := ints_of hm h3
    subst this
    split at hn <;> cases hn
    simp only [RV] at h2
    subst h2
    rfl

/-- A call. -/
theorem call_ok {c : Cx} {C : Cfg} (ok : CfgOk c.P C) {f : AV} {args : List AV} {Hf H H' : List AO} {p : Prop} {v : AV} (h : aCall C.noM f args H = .ok p v H') (hp : p)
    {ρ : Nat → Option Value} {w : World} (hH : HR c w ρ Hf) (hsub : ∀ (id : Nat) (o : AO), H'[id]? = some o → Hf[id]? = some o) (hk : Keep c w) (hfree : ∀ id, H.length ≤ id → id < H'.length → ρ id = none)
    {uf : Value} {us : Array Value} (hf : RV c ρ f uf) (hx : RVs c ρ args us.toList) :
    ∃ fid first caps, uf = .func (.func fid) first caps ∧ first = #[] ∧ Callable c.P fid ∧
      Calls c.P fid (us ++ caps) w fun e w' => ∃ u ρ', e = .returned u ∧ Post c ρ Hf H.length H'.length v u w' ρ' := by
  unfold aCall at h
  split at h
  · rename_i fid caps
    split at h <;> try cases h
    rename_i p' out Ho hT
    obtain ⟨hcall, ho1, ho2, hcl⟩ := ok.calls _ _ _ _ _ hT hp
    simp only [RV] at hf
    obtain ⟨xs, rfl, hxs⟩ := hf
    have hs := sub_left hsub
    have h1 : RVs (sub c w) nor (args.map (Ab.frz H)) us.toList := RVs.map (fun h => RV.frz hH hs hk h) hx
    have h2 : RVs (sub c w) nor (caps.map (Ab.frz1 H)) xs.toArray.toList := RVs.map (fun h => RV.frz1 hH hs hk h) hxs
    refine ⟨fid, #[], xs.toArray, rfl, rfl, hcl, ?_⟩
    have := hcall w (us ++ xs.toArray).toList hk.gw (RVs.app h1 h2)
    rw [Array.toArray_toList] at this
    refine this.mono ?_
    rintro e w' ⟨u, ρ', rfl, r1, r2, r3⟩
    have hdom : ∀ id x, ρ' id = some x → id < Ho.length := fun id x h => by obtain ⟨o, ho, _⟩ := r2.obj id x h; exact (List.getElem?_eq_some_iff.1 ho).1
    have hl : (H ++ Ho.map (AO.shift H.length)).length = H.length + Ho.length := by simp
    rw [hl] at hfree
    refine ⟨u, join ρ ρ' H.length Ho.length, rfl, ?_, ?_, ?_, hk.of_sub r3, RV.back hdom ho1 r1⟩
    · intro id x hx'
      unfold join; rw [if_neg]; exact hx'
      intro hr; rw [hfree id hr.1 hr.2] at hx'; cases hx'
    · intro id hne
      unfold join at hne
      rw [hl]
      split at hne
      · rename_i hr; exact .inr hr
      · exact .inl hne
    · refine HR.join hk hH r3 r2 ho2 (fun id h1 h2 => hfree id h1 h2) (fun j o hj => hsub _ _ ?_)
      rw [List.getElem?_append_right (by omega)]
      simp [hj]
  · rename_i g
    split at h <;> try cases h
    rename_i ns hns
    split at h <;> try cases h
    rename_i r hg
    simp only [RV] at hf
    obtain ⟨fid, caps, rfl, hcl, hall⟩ := hf
    refine ⟨fid, #[], caps, rfl, rfl, hcl, ?_⟩
    have := ints_of hns hx
    have e : us = (ns.map (Value.int .i64)).toArray := by rw [← this]
    rw [e]
    refine (hall w hk ns r hg).mono ?_
    rintro e' w' ⟨rfl, hb⟩
    exact ⟨r, ρ, rfl, .same (hH.below hb) (hk.below_step hb) (RV.const c ρ r)⟩
  · cases h

/-! ### Calls that lend objects -/
theorem posIn_spec {j : Nat} : ∀ {js : List Nat} {k : Nat}, posIn j js = some k → js[k]? = some j
  | [], _, h => by cases h
  | i :: is, k, h => by
    simp only [posIn] at h
    split at h
    · rename_i e; subst e; cases h; rfl
    · cases hp : posIn j is with
      | none => rw [hp] at h; cases h
      | some m => rw [hp] at h; cases h; simpa using posIn_spec hp
theorem posIn_none {j : Nat} : ∀ {js : List Nat}, posIn j js = none → j ∉ js
  | [], _ => by simp
  | i :: is, h => by
    simp only [posIn] at h
    split at h
    · cases h
    · rename_i e
      cases hp : posIn j is with
      | none => simp only [List.mem_cons, not_or]; exact ⟨fun h' => e h'.symm, posIn_none hp⟩
      | some m => rw [hp] at h; cases h
theorem posIn_at {js : List Nat} (hn : js.Nodup) {k i : Nat} (h : js[k]? = some i) : posIn i js = some k := by
  cases hp : posIn i js with
  | none => exact absurd (List.mem_of_getElem? h) (posIn_none hp)
  | some m =>
    have := posIn_spec hp
    obtain ⟨h1, e1⟩ := List.getElem?_eq_some_iff.1 h
    obtain ⟨h2, e2⟩ := List.getElem?_eq_some_iff.1 this
    rw [(List.getElem_inj hn).1 (e1.trans e2.symm)]
theorem nodupB_spec : ∀ {js : List Nat}, nodupB js = true → js.Nodup
  | [], _ => List.nodup_nil
  | i :: is, h => by
    simp only [nodupB, Bool.and_eq_true, Bool.not_eq_true', List.contains_eq_mem, decide_eq_false_iff_not] at h
    exact List.nodup_cons.2 ⟨h.1, nodupB_spec h.2⟩

/-- The callee's setting may be told what the caller's is told. -/
structure Low (c c' : Cx) (w : World) : Prop where
  P : c'.P = c.P
  w0 : c'.w0 = w
  inn : ∀ b, c.In b → b < c.w0.heap.size → c'.In b
  back : ∀ w', Keep c' w' → Keep c w'

mutual
theorem RV.low {c c' : Cx} {w : World} (hk : Keep c w) (hl : Low c c' w) : ∀ (x : AV) (v : Value), RV c nor x v → RV c' nor x v
  | .any, _, _ => trivial
  | .un, _, r => r
  | .i _, _, r => r
  | .b _, _, r => r
  | .v _, _, r => r
  | .nl, _, r => r
  | .sl k l, v, r => by
    simp only [RV] at r ⊢
    rcases r with r | ⟨b, o, cap, rfl, h1, h2, h3⟩
    · exact .inl r
    · exact .inr ⟨b, o, cap, rfl, h1, h2, fun j hj => ⟨hl.inn b (h3 j hj).1 (World.block_lt_of_cell? _ _ (h3 j hj).2), by rw [hl.w0]; exact hk.cell (h3 j hj).1 (h3 j hj).2⟩⟩
  | .ref cs, v, r => by simp only [RV] at r ⊢; obtain ⟨b, o, rfl, h⟩ := r; exact ⟨b, o, rfl, RCells.low hk hl cs b o h⟩
  | .own id, v, r => by simp only [RV, nor] at r; cases r.1
  | .eo _ _, _, r => by simp only [RV, nor] at r; obtain ⟨_, _, _, h, _⟩ := r; cases h
  | .bp _ _, _, r => by simp only [RV, nor] at r; obtain ⟨_, h, _⟩ := r; cases h
  | .ag cs, _, r => by simp only [RV] at r ⊢; obtain ⟨xs, h1, h2⟩ := r; exact ⟨xs, h1, RVs.low hk hl cs xs h2⟩
  | .tu cs, _, r => by simp only [RV] at r ⊢; obtain ⟨xs, h1, h2⟩ := r; exact ⟨xs, h1, RVs.low hk hl cs xs h2⟩
  | .fn _ cs, _, r => by simp only [RV] at r ⊢; obtain ⟨xs, h1, h2⟩ := r; exact ⟨xs, h1, RVs.low hk hl cs xs h2⟩
  | .fv g, _, r => by
    simp only [RV] at r ⊢
    obtain ⟨f, caps, rfl, h1, h2⟩ := r
    exact ⟨f, caps, rfl, by rw [hl.P]; exact h1, fun w' hw' ns r hg => by rw [hl.P]; exact h2 w' (hl.back w' hw') ns r hg⟩
  | .vw _ _ _, _, r => by simp only [RV, nor] at r; obtain ⟨_, _, _, h, _⟩ := r; cases h
  | .sc wd rs, v, r => by
    simp only [RV] at r ⊢
    rcases r with r | ⟨b, o, cap, rfl, h0, h1, h2, h3⟩
    · exact .inl r
    · exact .inr ⟨b, o, cap, rfl, h0, h1, h2, fun j u hj => ⟨hl.inn b (h3 j u hj).1 (World.block_lt_of_cell? _ _ (h3 j u hj).2), by rw [hl.w0]; exact hk.cell (h3 j u hj).1 (h3 j u hj).2⟩⟩
  | .ec _ _ _ _, _, r => by simp only [RV, nor] at r; obtain ⟨_, _, _, h, _⟩ := r; cases h
theorem RVs.low {c c' : Cx} {w : World} (hk : Keep c w) (hl : Low c c' w) : ∀ (x : List AV) (v : List Value), RVs c nor x v → RVs c' nor x v
  | [], _, r => r
  | x :: xs, _, r => by simp only [RVs] at r ⊢; obtain ⟨y, ys, h1, h2, h3⟩ := r; exact ⟨y, ys, h1, RV.low hk hl x y h2, RVs.low hk hl xs ys h3⟩
theorem RCells.low {c c' : Cx} {w : World} (hk : Keep c w) (hl : Low c c' w) : ∀ (x : List AV) (b o : Nat), RCells c x b o → RCells c' x b o
  | [], _, _, _ => trivial
  | x :: xs, b, o, r => by
    simp only [RCells] at r ⊢
    obtain ⟨⟨hX, y, hy, h1⟩, h2⟩ := r
    exact ⟨⟨hl.inn b hX (World.block_lt_of_cell? _ _ hy), y, by rw [hl.w0]; exact hk.cell hX hy, RV.low hk hl x y h1⟩, RCells.low hk hl xs b (o + 1) h2⟩
end

/-- What the callee knows of the lent objects. -/
def pull (ρ : Nat → Option Value) (σ : List Nat) : Nat → Option Value := fun j => (σ[j]?).bind ρ

theorem RV.nor_any {c : Cx} {ρ ρ' : Nat → Option Value} : ∀ {x : AV} {v : Value}, (x = .any ∨ RV c nor x v) → RV c ρ x v
  | _, _, .inl h => by subst h; trivial
  | x, v, .inr h => RV.ext (fun id y h => by cases h) x v h

theorem RV.pos0 {c c' : Cx} {w : World} {ρ : Nat → Option Value} {js : List Nat} (hk : Keep c w) (hl : Low c c' w) {x : AV} {v : Value} (h : RV c ρ x v) : RV c' (pull ρ js) (x.pos0 js) v := by
  have up : ∀ {x : AV} {v : Value}, RV c nor x v → RV c' (pull ρ js) x v := fun h => RV.ext (fun id y h => by cases h) _ _ (RV.low hk hl _ _ h)
  have at' : ∀ {j k : Nat}, posIn j js = some k → pull ρ js k = ρ j := fun h => by unfold pull; rw [posIn_spec h]; rfl
  cases x <;> simp only [AV.pos0]
  case any => trivial
  case un => exact h
  case i => exact h
  case b => exact h
  case v => exact h
  case nl => exact h
  case sl k l => exact up (x := .sl k l) (by simpa only [RV] using h)
  case ref cs => exact up (x := .ref cs) (by simpa only [RV] using h)
  case fv g => exact up (x := .fv g) (by simpa only [RV] using h)
  case own j =>
    split
    · rename_i k hp; simp only [RV] at h ⊢; rw [at' hp]; exact h
    · trivial
  case bp j off =>
    split
    · rename_i k hp; simp only [RV] at h ⊢; rw [at' hp]; exact h
    · trivial
  case eo => trivial
  case ag => trivial
  case tu => trivial
  case fn => trivial
  case vw => trivial
  case sc wd rs => exact up (x := .sc wd rs) (by simpa only [RV] using h)
  case ec => trivial
theorem RV.pos1 {c c' : Cx} {w : World} {ρ : Nat → Option Value} {js : List Nat} (hk : Keep c w) (hl : Low c c' w) {x : AV} {v : Value} (h : RV c ρ x v) : RV c' (pull ρ js) (x.pos1 js) v := by
  cases x
  case ag cs => simp only [AV.pos1, RV] at h ⊢; obtain ⟨xs, h1, h2⟩ := h; exact ⟨xs, h1, RVs.map (fun h => RV.pos0 hk hl h) h2⟩
  case fn f cs => simp only [AV.pos1, RV] at h ⊢; obtain ⟨xs, h1, h2⟩ := h; exact ⟨xs, h1, RVs.map (fun h => RV.pos0 hk hl h) h2⟩
  all_goals (simp only [AV.pos1]; exact RV.pos0 hk hl h)

theorem lent_at {H : List AO} {js : List Nat} : ∀ {is : List Nat} {k i : Nat} {o : AO}, is[k]? = some i → H[i]? = some o → (lent H js is)[k]? = some (o.pos js)
  | [], k, i, o, h, _ => by simp at h
  | i' :: is, 0, i, o, h, h' => by simp at h; subst h; simp only [lent, h', List.getElem?_cons_zero]
  | i' :: is, k + 1, i, o, h, h' => by simp only [lent, List.getElem?_cons_succ]; exact lent_at (by simpa using h) h'
theorem lent_len {H : List AO} {js : List Nat} : ∀ {is : List Nat}, (lent H js is).length = is.length
  | [] => rfl
  | _ :: is => by simp only [lent, List.length_cons, lent_len (is := is)]

theorem getElem?_lendBack {σ : List Nat} : ∀ {is : List Nat} {Ho H : List AO}, is.Nodup → is.length ≤ Ho.length → (∀ i ∈ is, i < H.length) →
    (lendBack σ is Ho H).length = H.length + (Ho.length - is.length) ∧ (∀ (k i : Nat) (o : AO), is[k]? = some i → Ho[k]? = some o → (lendBack σ is Ho H)[i]? = some (o.ren σ)) ∧
    (∀ i, i < H.length → i ∉ is → (lendBack σ is Ho H)[i]? = H[i]?) ∧ (∀ (t : Nat) (o : AO), Ho[is.length + t]? = some o → (lendBack σ is Ho H)[H.length + t]? = some (o.ren σ))
  | [], Ho, H, _, _, _ => by
    simp only [lendBack, List.length_append, List.length_map, List.length_nil, Nat.sub_zero, true_and]
    refine ⟨fun k i o h => by simp at h, fun i hi _ => by rw [List.getElem?_append_left hi], fun t o h => ?_⟩
    rw [List.getElem?_append_right (by omega), Nat.add_sub_cancel_left, List.getElem?_map]
    rw [Nat.zero_add] at h
    rw [h]; rfl
  | i0 :: is, [], H, _, h, _ => by simp at h
  | i0 :: is, o0 :: Ho, H, hn, hl, hlt => by
    rw [List.nodup_cons] at hn
    simp only [List.length_cons] at hl
    obtain ⟨h1, h2, h3, h4⟩ := getElem?_lendBack (σ := σ) (is := is) (Ho := Ho) (H := H.set i0 (o0.ren σ)) hn.2 (by omega) (fun i hi => by rw [List.length_set]; exact hlt i (List.mem_cons_of_mem _ hi))
    rw [List.length_set] at h1 h3 h4
    simp only [lendBack, List.length_cons]
    have h0 : i0 < H.length := hlt i0 (List.mem_cons_self ..)
    refine ⟨by rw [h1]; omega, fun k i o hk ho => ?_, fun i hi hni => ?_, fun t o ht => ?_⟩
    · cases k with
      | zero =>
        simp at hk ho; subst hk ho
        rw [h3 i0 h0 hn.1]; simp [h0]
      | succ k => exact h2 k i o (by simpa using hk) (by simpa using ho)
    · simp only [List.mem_cons, not_or] at hni
      rw [h3 i hi hni.2, List.getElem?_set_ne (fun e => hni.1 e.symm)]
    · exact h4 t o (by rw [show is.length + 1 + t = is.length + t + 1 by omega] at ht; simpa using ht)

set_option maxHeartbeats 2000000 in
theorem lend_ok {c : Cx} {C : Cfg} (ok : CfgOk c.P C) {f : Nat} {xs : List AV} {js : List Nat} {H H' : List AO} {p : Prop} {v : AV} (h : aLendJ C f xs H js = .ok p v H') (hp : p)
    {ρ : Nat → Option Value} {w : World} (hH : HR c w ρ H) (hk : Keep c w) (hfree : ∀ id, H.length ≤ id → ρ id = none) {us : List Value} (hx : RVs c ρ xs us) :
    Callable c.P f ∧ Calls c.P f us.toArray w fun e w' => ∃ u ρ', e = .returned u ∧ Ext ρ ρ' ∧ HR c w' ρ' H' ∧ Keep c w' ∧ RV c ρ' v u := by
  unfold aLendJ at h
  split at h <;> try cases h
  rename_i p' out Ho hM
  obtain ⟨hok, hp'⟩ := hp
  have mok := ok.lends f _ _ _ _ _ hM hp'
  refine ⟨mok.callable, ?_⟩
  simp only [lendOk, Bool.and_eq_true] at hok
  have hnd := nodupB_spec hok.1
  have hmut : ∀ i ∈ js, ∃ o, H[i]? = some o ∧ o.mut = true := fun i hi => by
    have := List.all_eq_true.1 hok.2 i hi
    cases ho : H[i]? with
    | none => rw [ho] at this; cases this
    | some o => rw [ho] at this; exact ⟨o, rfl, this⟩
  have mlive : ∀ {o : AO}, o.mut = true → o.live = true := fun {o} h => by cases o <;> simp_all [AO.mut, AO.live]
  have hlt : ∀ i ∈ js, i < H.length := fun i hi => by obtain ⟨o, ho, _⟩ := hmut i hi; exact (List.getElem?_eq_some_iff.1 ho).1
  -- the callee's setting
  let c' : Cx := ⟨c.P, w, pull ρ js, fun b => c.In b ∧ b < c.w0.heap.size⟩
  have pl : ∀ {k x}, pull ρ js k = some x → ∃ i, js[k]? = some i ∧ ρ i = some x := fun {k x} h => by
    unfold pull at h
    cases hj : js[k]? with
    | none => rw [hj] at h; cases h
    | some i => rw [hj] at h; exact ⟨i, rfl, h⟩
  have X1 : ∀ {b}, c'.X b → ∃ i x, i ∈ js ∧ ρ i = some x ∧ blk x = some b := fun {b} ⟨k, x, h, hb⟩ => by
    obtain ⟨i, h1, h2⟩ := pl h
    exact ⟨i, x, List.mem_of_getElem? h1, h2, hb⟩
  have xown : ∀ {b}, c'.X b → b < w.heap.size ∧ Ownb c b := fun {b} hb => by
    obtain ⟨i, x, hi, hx, hb⟩ := X1 hb
    obtain ⟨o, ho, hm⟩ := hmut i hi
    obtain ⟨o', ho', hr⟩ := hH.obj i x hx
    rw [ho] at ho'; cases ho'
    exact hr.lt (mlive hm) hb
  have hlow : Low c c' w := by
    have inn : ∀ b, ¬ c.X b → b < c.w0.heap.size → ¬ c'.X b := fun b h1 h2 h3 => (xown h3).2.elim (fun h => by omega) h1
    refine ⟨rfl, rfl, fun b h1 h2 => ⟨inn b h1.1 h2, h1, h2⟩, fun w' hw => ⟨hw.os.trans hk.os, hw.tape.trans hk.tape, hw.output.trans hk.output, Nat.le_trans hk.size hw.size, fun k h1 h2 => ?_, hk.gl, hk.gx⟩⟩
    exact (hw.block k (Nat.lt_of_lt_of_le h1 hk.size) (inn k h2 h1)).trans (hk.block k h1 h2)
  have hargs : RVs c' (pull ρ js) (xs.map (AV.pos1 js)) us := RVs.map (fun h => RV.pos1 hk hlow h) hx
  have posmut : ∀ {o : AO}, o.mut = true → (o.pos js).mut = true ∧ (o.pos js).live = true := fun {o} h => by cases o <;> simp_all [AO.mut, AO.live, AO.pos]
  have hHL : HR c' w (pull ρ js) (lent H js js) := by
    refine ⟨fun k x hk' => ?_, fun k k' x y o o' hkk hk1 hk2 ho ho' hl hl' hm b hb1 hb2 => ?_⟩
    · obtain ⟨i, hi, hρ⟩ := pl hk'
      obtain ⟨o, ho, hr⟩ := hH.obj i x hρ
      obtain ⟨o', ho', hm⟩ := hmut i (List.mem_of_getElem? hi)
      rw [ho] at ho'; cases ho'
      refine ⟨_, lent_at hi ho, ?_⟩
      have hX : ∀ b, blk x = some b → Ownb c' b := fun b hb => .inr ⟨k, x, hk', hb⟩
      cases o with
      | dead => cases hm
      | ro k l => cases hm
      | row k E l =>
        rcases hr with hr | ⟨b, cap, cur, rfl, h0, r⟩
        · exact .inl hr
        · exact .inr ⟨b, cap, cur, rfl, hX b rfl, r⟩
      | rc E wd rs =>
        rcases hr with hr | ⟨b, cap, cur, rfl, h0, r⟩
        · exact .inl hr
        · exact .inr ⟨b, cap, cur, rfl, hX b rfl, r⟩
      | box T cs =>
        obtain ⟨b, ys, rfl, h0, hg, r⟩ := hr
        exact ⟨b, ys, rfl, hX b rfl, hg, RVs.map (fun h => RV.pos0 hk hlow h) r⟩
    · obtain ⟨i, hi, hρ⟩ := pl hk1
      obtain ⟨i', hi', hρ'⟩ := pl hk2
      obtain ⟨oi, hoi, hmi⟩ := hmut i (List.mem_of_getElem? hi)
      obtain ⟨oi', hoi', hmi'⟩ := hmut i' (List.mem_of_getElem? hi')
      refine hH.sep i i' x y oi oi' (fun e => hkk ?_) hρ hρ' hoi hoi' (mlive hmi) (mlive hmi') (.inl hmi) b hb1 hb2
      subst e
      have e1 := posIn_at hnd hi
      have e2 := posIn_at hnd hi'
      rw [e1] at e2; cases e2; rfl
  have hkc : Keep c' w := Keep.refl _ _ _ _ hk.gw fun k hg hX => (xown hX).2.elim (fun h => Nat.lt_irrefl _ (Nat.lt_of_lt_of_le (hk.gl.lt k hg) h)) (hk.gx k hg)
  refine (mok.call w (pull ρ js) (fun b => c.In b ∧ b < c.w0.heap.size) us hkc hargs hHL).mono ?_
  rintro e w' ⟨u, ρ', rfl, r1, r2, r3, r4⟩
  have hjl : js.length ≤ Ho.length := by have := mok.len; rwa [lent_len] at this
  rw [lent_len] at r4
  have hdom : ∀ id x, ρ' id = some x → id < Ho.length := fun id x h => by obtain ⟨o, ho, _⟩ := r2.obj id x h; exact (List.getElem?_eq_some_iff.1 ho).1
  have hk' := hlow.back w' r3
  generalize hσ : lendσ js H.length Ho.length = σ
  have σ1 : ∀ k, k < js.length → σ[k]? = js[k]? := fun k hk => by rw [← hσ, lendσ, List.getElem?_append_left hk]
  have σ2 : ∀ k, js.length ≤ k → k < Ho.length → σ[k]? = some (H.length + (k - js.length)) := fun k h1 h2 => by
    rw [← hσ, lendσ, List.getElem?_append_right h1, List.getElem?_range' (by omega)]; simp
  have σl : σ.length = Ho.length := by rw [← hσ, lendσ, List.length_append, List.length_range']; omega
  have σn : σ.Nodup := by
    rw [← hσ, lendσ, List.nodup_append]
    refine ⟨hnd, List.nodup_range', fun a ha b hb e => ?_⟩
    subst e
    have := hlt a ha
    rw [List.mem_range'_1] at hb
    omega
  let ρ2 : Nat → Option Value := fun id => (ρ id).or ((posIn id σ).bind ρ')
  have ext : Ext ρ ρ2 := fun id x h => by show (ρ id).or _ = some x; rw [h]; rfl
  have new : ∀ {k i x}, σ[k]? = some i → ρ' k = some x → ρ2 i = some x := fun {k i x} h1 h2 => by
    show (ρ i).or ((posIn i σ).bind ρ') = some x
    cases hi : ρ i with
    | none => rw [posIn_at σn h1]; exact h2
    | some y =>
      rcases Nat.lt_or_ge k js.length with h3 | h3
      · rw [σ1 k h3] at h1
        have : pull ρ js k = some y := by unfold pull; rw [h1]; exact hi
        have := r4 k y h3 this
        rw [h2] at this; cases this; rfl
      · have := hdom k x h2
        rw [σ2 k h3 this] at h1
        cases h1
        rw [hfree _ (by omega)] at hi; cases hi
  have old : ∀ {i x}, ρ2 i = some x → (∃ k, σ[k]? = some i ∧ ρ' k = some x) ∨ (ρ i = some x ∧ i ∉ σ) := fun {i x} h => by
    cases hp : posIn i σ with
    | none =>
      right
      refine ⟨?_, posIn_none hp⟩
      have h' : (ρ i).or ((posIn i σ).bind ρ') = some x := h
      rw [hp] at h'
      simpa using h'
    | some k =>
      left
      have hk1 := posIn_spec hp
      refine ⟨k, hk1, ?_⟩
      have h' : (ρ i).or ((posIn i σ).bind ρ') = some x := h
      rw [hp] at h'
      cases hi : ρ i with
      | none => rw [hi] at h'; simpa using h'
      | some y =>
        rw [hi] at h'
        obtain rfl : y = x := by simpa using h'
        rcases Nat.lt_or_ge k js.length with h3 | h3
        · rw [σ1 k h3] at hk1
          exact r4 k y h3 (by unfold pull; rw [hk1]; exact hi)
        · have hlt' := (List.getElem?_eq_some_iff.1 hk1).1
          rw [σ2 k h3 (by omega)] at hk1
          cases hk1
          rw [hfree _ (by omega)] at hi; cases hi
  have get : ∀ {j : Nat}, j < Ho.length → σ[j]? = some (σ.getD j 0) := fun {j} h => by
    rw [List.getD_eq_getElem?_getD, List.getElem?_eq_getElem (by omega)]; rfl
  have slb : ∀ {k : IntKind} {l : List Int} {v : Value}, SlR c' k l v → SlR c k l v := fun {k l v} r => by
    rcases r with r | ⟨b, o, cap, rfl, h1, h2, h3⟩
    · exact .inl r
    · refine .inr ⟨b, o, cap, rfl, h1, h2, fun j hj => ?_⟩
      obtain ⟨h4, h5⟩ := h3 j hj
      exact ⟨h4.2.1, by rw [← h5]; exact (cell?_eq (a := ⟨b, o + j, none⟩) (hk.block b h4.2.2 h4.2.1.1)).symm⟩
  have inb : ∀ {x : AV} {v : Value}, x.plain1 = true → RV c' nor x v → RV c nor x v := fun {x v} hp h => by
    cases x <;> simp [AV.plain1, AV.plain] at hp <;> simp only [RV] at h ⊢
    case i => exact h
    case b => exact h
    case v => exact h
    case nl => exact h
    case un => exact h
    case sl => exact slb h
    case own => cases h.1
    case bp => obtain ⟨_, h, _⟩ := h; cases h
  have celb : ∀ {xs : List AV} {b o : Nat}, xs.all AV.plain1 = true → RCells c' xs b o → RCells c xs b o := by
    intro xs
    induction xs with
    | nil => intro b o _ _; trivial
    | cons x xs ih =>
      intro b o hp r
      simp only [List.all_cons, Bool.and_eq_true] at hp
      simp only [RCells] at r ⊢
      obtain ⟨⟨h1, y, hy, h2⟩, h3⟩ := r
      exact ⟨⟨h1.2.1, y, by rw [← hy]; exact (cell?_eq (a := ⟨b, o, none⟩) (hk.block b h1.2.2 h1.2.1.1)).symm, inb hp.1 h2⟩, ih hp.2 h3⟩
  have b0 : ∀ {x : AV} {v : Value}, x.plain2 = true → x.lt0 Ho.length = true → RV c' ρ' x v → RV c ρ2 (x.ren0 σ) v := fun {x v} hp hl h => by
    cases x <;> simp [AV.plain2, AV.plain1, AV.plain] at hp <;> simp only [AV.ren0, RV] at h ⊢
    case i => exact h
    case b => exact h
    case v => exact h
    case nl => exact h
    case un => exact h
    case sl => exact slb h
    case ref cs =>
      obtain ⟨b, o, rfl, h2⟩ := h
      exact ⟨b, o, rfl, celb (by rw [List.all_eq_true]; exact hp) h2⟩
    case own id => exact ⟨new (get (by simpa [AV.lt0] using hl)) h.1, h.2⟩
    case bp id off => obtain ⟨b, h1, h2⟩ := h; exact ⟨b, new (get (by simpa [AV.lt0] using hl)) h1, h2⟩
  have b0s : ∀ {xs : List AV} {vs : List Value}, xs.all AV.plain2 = true → xs.all (AV.lt0 Ho.length) = true → RVs c' ρ' xs vs → RVs c ρ2 (xs.map (AV.ren0 σ)) vs := by
    intro xs
    induction xs with
    | nil => intro vs _ _ r; exact r
    | cons x xs ih =>
      intro vs hp hl r
      simp only [List.all_cons, Bool.and_eq_true] at hp hl
      simp only [RVs, List.map_cons] at r ⊢; obtain ⟨y, ys, h1, h2, h3⟩ := r
      exact ⟨y, ys, h1, b0 hp.1 hl.1 h2, ih hp.2 hl.2 h3⟩
  have b1 : ∀ {x : AV} {v : Value}, x.outOkM = true → x.lt1 Ho.length = true → RV c' ρ' x v → RV c ρ2 (x.ren1 σ) v := fun {x v} hp hl h => by
    unfold AV.outOkM at hp
    split at hp
    · simp only [AV.ren1, RV] at h ⊢
      obtain ⟨xs, h1, h2⟩ := h
      exact ⟨xs, h1, b0s hp (by simpa [AV.lt1] using hl) h2⟩
    · rename_i hne
      have e1 : x.ren1 σ = x.ren0 σ := by cases x <;> simp_all [AV.ren1]
      have e2 : x.lt1 Ho.length = x.lt0 Ho.length := by cases x <;> simp_all [AV.lt1]
      rw [e1]; rw [e2] at hl
      exact b0 hp hl h
  have b1s : ∀ {xs : List AV} {vs : List Value}, xs.all AV.outOkM = true → xs.all (AV.lt1 Ho.length) = true → RVs c' ρ' xs vs → RVs c ρ2 (xs.map (AV.ren1 σ)) vs := by
    intro xs
    induction xs with
    | nil => intro vs _ _ r; exact r
    | cons x xs ih =>
      intro vs hp hl r
      simp only [List.all_cons, Bool.and_eq_true] at hp hl
      simp only [RVs, List.map_cons] at r ⊢; obtain ⟨y, ys, h1, h2, h3⟩ := r
      exact ⟨y, ys, h1, b1 hp.1 hl.1 h2, ih hp.2 hl.2 h3⟩
  have b2 : RV c ρ2 (out.ren σ) u := by
    have hp := mok.out1
    have hl := mok.out2
    unfold AV.outOk2M at hp
    split at hp
    · simp only [AV.ren, RV] at r1 ⊢
      obtain ⟨xs, h1, h2⟩ := r1
      exact ⟨xs, h1, b1s hp (by simpa [AV.lt] using hl) h2⟩
    · rename_i hne
      have e1 : out.ren σ = out.ren1 σ := by cases out <;> simp_all [AV.ren]
      have e2 : out.lt Ho.length = out.lt1 Ho.length := by cases out <;> simp_all [AV.lt]
      rw [e1]; rw [e2] at hl
      exact b1 hp hl r1
  obtain ⟨hb1, hb2, hb3, hb4⟩ := getElem?_lendBack (σ := σ) hnd hjl hlt (H := H)
  have at2 : ∀ {k i : Nat} {o : AO}, σ[k]? = some i → Ho[k]? = some o → (lendBack σ js Ho H)[i]? = some (o.ren σ) := fun {k i o} h1 h2 => by
    rcases Nat.lt_or_ge k js.length with h3 | h3
    · rw [σ1 k h3] at h1; exact hb2 k i o h1 h2
    · have := (List.getElem?_eq_some_iff.1 h2).1
      rw [σ2 k h3 this] at h1; cases h1
      exact hb4 _ o (by rw [Nat.add_sub_cancel' h3]; exact h2)
  have at3 : ∀ {i : Nat} {o : AO}, i ∉ σ → H[i]? = some o → (lendBack σ js Ho H)[i]? = some o := fun {i o} h1 h2 => by
    rw [hb3 i (List.getElem?_eq_some_iff.1 h2).1 (fun h => h1 (by rw [← hσ, lendσ]; exact List.mem_append_left _ h))]; exact h2
  have notX : ∀ {i x o b}, ρ i = some x → i ∉ σ → H[i]? = some o → o.live = true → blk x = some b → ¬ c'.X b := fun {i x o b} h1 h2 h3 h4 h5 h6 => by
    obtain ⟨i', y, h6, h7, h8⟩ := X1 h6
    obtain ⟨o', ho', hm'⟩ := hmut i' h6
    refine hH.sep i i' x y o o' (fun e => h2 ?_) h1 h7 h3 ho' h4 (mlive hm') (.inr hm') b h5 h8
    subst e
    rw [← hσ, lendσ]; exact List.mem_append_left _ h6
  have own : ∀ {b}, Ownb c' b → Ownb c b := fun {b} h => h.elim (fun h => .inl (Nat.le_trans hk.size h)) (fun h => (xown h).2)
  have renl : ∀ (o : AO), (o.ren σ).live = o.live ∧ (o.ren σ).mut = o.mut := fun o => by cases o <;> exact ⟨rfl, rfl⟩
  refine ⟨u, ρ2, rfl, ext, ⟨fun i x hi => ?_, fun i j x y oi oj hij hi hj hoi hoj li lj hmm b hbi hbj => ?_⟩, hk', b2⟩
  · rcases old hi with ⟨k, h1, h2⟩ | ⟨h1, h2⟩
    · obtain ⟨o, ho, hr⟩ := r2.obj k x h2
      refine ⟨_, at2 h1 ho, ?_⟩
      have p1 := (List.all_eq_true.1 mok.obj1) o (List.mem_of_getElem? ho)
      have p2 := (List.all_eq_true.1 mok.obj2) o (List.mem_of_getElem? ho)
      cases o with
      | dead => trivial
      | row k E l =>
        rcases hr with hr | ⟨b, cap, cur, rfl, h0, r⟩
        · exact .inl hr
        · exact .inr ⟨b, cap, cur, rfl, own h0, r⟩
      | ro k l =>
        rcases hr with hr | ⟨b, o', cap, rfl, h0, r⟩
        · exact .inl hr
        · exact .inr ⟨b, o', cap, rfl, own h0, r⟩
      | rc E wd rs =>
        rcases hr with hr | ⟨b, cap, cur, rfl, h0, r⟩
        · exact .inl hr
        · exact .inr ⟨b, cap, cur, rfl, own h0, r⟩
      | box T cs =>
        obtain ⟨b, ys, rfl, h0, hg, r⟩ := hr
        exact ⟨b, ys, rfl, own h0, hg, b0s p1 p2 r⟩
    · obtain ⟨o, ho, hr⟩ := hH.obj i x h1
      exact ⟨o, at3 h2 ho, hr.keep ext r3.size fun hl b hb => r3.block b (hr.lt hl hb).1 (notX h1 h2 ho hl hb)⟩
  · rcases old hi with ⟨k, h1, h2⟩ | ⟨h1, h2⟩ <;> rcases old hj with ⟨k', h3, h4⟩ | ⟨h3, h4⟩
    · obtain ⟨o, ho, hr⟩ := r2.obj k x h2
      obtain ⟨o', ho', hr'⟩ := r2.obj k' y h4
      rw [at2 h1 ho] at hoi; cases hoi
      rw [at2 h3 ho'] at hoj; cases hoj
      rw [(renl o).1] at li; rw [(renl o').1] at lj
      rw [(renl o).2, (renl o').2] at hmm
      refine r2.sep k k' x y o o' (fun e => hij ?_) h2 h4 ho ho' li lj hmm b hbi hbj
      subst e; rw [h1] at h3; cases h3; rfl
    · obtain ⟨o, ho, hr⟩ := r2.obj k x h2
      obtain ⟨o', ho', hr'⟩ := hH.obj j y h3
      rw [at2 h1 ho] at hoi; cases hoi
      rw [at3 h4 ho'] at hoj; cases hoj
      rw [(renl o).1] at li
      have e1 := (hr'.lt lj hbj).1
      exact (hr.lt li hbi).2.elim (fun h => by have h' : w.heap.size ≤ b := h; omega) (fun h => notX h3 h4 ho' lj hbj h)
    · obtain ⟨o, ho, hr⟩ := r2.obj k' y h4
      obtain ⟨o', ho', hr'⟩ := hH.obj i x h1
      rw [at2 h3 ho] at hoj; cases hoj
      rw [at3 h2 ho'] at hoi; cases hoi
      rw [(renl o).1] at lj
      have e1 := (hr'.lt li hbi).1
      exact (hr.lt lj hbj).2.elim (fun h => by have h' : w.heap.size ≤ b := h; omega) (fun h => notX h1 h2 ho' li hbi h)
    · obtain ⟨o, ho, _⟩ := hH.obj i x h1
      obtain ⟨o', ho', _⟩ := hH.obj j y h3
      rw [at3 h2 ho] at hoi; cases hoi
      rw [at3 h4 ho'] at hoj; cases hoj
      exact hH.sep i j x y _ _ hij h1 h3 ho ho' li lj hmm b hbi hbj

/-- A call: of a function that is lent nothing, or of one that is. -/
theorem call_cases {C : Cfg} {f : AV} {args : List AV} {H H' : List AO} {p : Prop} {v : AV} (h : aCall C f args H = .ok p v H') :
    aCall C.noM f args H = .ok p v H' ∨ ∃ g caps, f = .fn g caps ∧ aLend C g (args ++ caps) H = .ok p v H' := by
  unfold aCall at h ⊢
  split at h
  · rename_i g caps
    split at h
    · rename_i hT; left; simp only [Cfg.noM, hT]; exact h
    · right; exact ⟨g, caps, rfl, h⟩
  · left; exact h
  · cases h

end Go.Ab
