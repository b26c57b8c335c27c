/-
  AN ABSTRACT MACHINE, part E: calls, and every operation.
-/
import Derived.Test.YtjebaloibfngnaaAbD
set_option linter.unusedSimpArgs false
set_option linter.unusedVariables false
namespace Go.Ab
open Go Go.RowKit

/-- A callee's setting: the world at the call; nothing lent. -/
def sub (c : Cx) (w : World) : Cx := ⟨c.P, w, fun _ => False⟩
def nor : Nat → Option Value := fun _ => none

theorem Keep.of_sub {c : Cx} {w w' : World} (hk : Keep c w) (h : Keep (sub c w) w') : Keep c w' := hk.trans h

mutual
theorem RV.lift {c : Cx} {w : World} (hk : Keep c w) : ∀ (x : AV) (v : Value), RV c nor x v → RV (sub c w) nor x v
  | .any, _, _ => trivial
  | .un, _, r => r
  | .i _, _, r => r
  | .b _, _, r => r
  | .v _, _, r => r
  | .nl, _, r => r
  | .sl k l, v, r => by
    simp only [RV] at r ⊢
    rcases r with r | ⟨b, o, cap, rfl, h1, h2, h3⟩
    · exact .inl r
    · exact .inr ⟨b, o, cap, rfl, h1, h2, fun j hj => ⟨fun h => h, hk.cell (h3 j hj).1 (h3 j hj).2⟩⟩
  | .ref cs, v, r => by simp only [RV] at r ⊢; obtain ⟨b, o, rfl, h⟩ := r; exact ⟨b, o, rfl, RCells.lift hk cs b o h⟩
  | .own id, v, r => by simp only [RV, nor] at r; cases r.1
  | .eo _ _, _, r => by simp only [RV, nor] at r; obtain ⟨_, _, _, h, _⟩ := r; cases h
  | .bp _ _, _, r => by simp only [RV, nor] at r; obtain ⟨_, h, _⟩ := r; cases h
  | .ag cs, _, r => by simp only [RV] at r ⊢; obtain ⟨xs, h1, h2⟩ := r; exact ⟨xs, h1, RVs.lift hk cs xs h2⟩
  | .tu cs, _, r => by simp only [RV] at r ⊢; obtain ⟨xs, h1, h2⟩ := r; exact ⟨xs, h1, RVs.lift hk cs xs h2⟩
  | .fn _ cs, _, r => by simp only [RV] at r ⊢; obtain ⟨xs, h1, h2⟩ := r; exact ⟨xs, h1, RVs.lift hk cs xs h2⟩
  | .fv g, _, r => by
    simp only [RV] at r ⊢
    obtain ⟨f, caps, rfl, h1, h2⟩ := r
    exact ⟨f, caps, rfl, h1, fun w' hw' ns r hg => h2 w' (hk.of_sub hw') ns r hg⟩
theorem RVs.lift {c : Cx} {w : World} (hk : Keep c w) : ∀ (x : List AV) (v : List Value), RVs c nor x v → RVs (sub c w) nor x v
  | [], _, r => r
  | x :: xs, _, r => by simp only [RVs] at r ⊢; obtain ⟨y, ys, h1, h2, h3⟩ := r; exact ⟨y, ys, h1, RV.lift hk x y h2, RVs.lift hk xs ys h3⟩
theorem RCells.lift {c : Cx} {w : World} (hk : Keep c w) : ∀ (x : List AV) (b o : Nat), RCells c x b o → RCells (sub c w) x b o
  | [], _, _, _ => trivial
  | x :: xs, b, o, r => by
    simp only [RCells] at r ⊢
    obtain ⟨⟨hX, y, hy, h1⟩, h2⟩ := r
    exact ⟨⟨fun h => h, y, hk.cell hX hy, RV.lift hk x y h1⟩, RCells.lift hk xs b (o + 1) h2⟩
end

theorem RowR.sl {c : Cx} {w : World} {k : IntKind} {E : TypeId} {l : List Int} {v : Value} (h : RowR c w k E l v) : SlR (sub c w) k l v := by
  rcases h with h | ⟨b, cap, cur, rfl, _, hg, h1, h2, h3, ht⟩
  · exact .inl h
  · refine .inr ⟨b, 0, cap, rfl, h1, h2, fun j hj => ⟨fun h => h, ?_⟩⟩
    show w.cell? _ = _
    rw [Nat.zero_add, row_cell hg]
    exact row_at ht hj
theorem RoR.sl {c : Cx} {w : World} {k : IntKind} {l : List Int} {v : Value} (h : RoR c w k l v) : SlR (sub c w) k l v := by
  rcases h with h | ⟨b, o, cap, rfl, _, _, h1, h2, h3⟩
  · exact .inl h
  · exact .inr ⟨b, o, cap, rfl, h1, h2, fun j hj => ⟨fun h => h, h3 j hj⟩⟩

theorem RV.frz0 {c : Cx} {w : World} {ρ : Nat → Option Value} {Hf H : List AO} (hH : HR c w ρ Hf) (hsub : ∀ (id : Nat) (o : AO), H[id]? = some o → Hf[id]? = some o) (hk : Keep c w) :
    ∀ {x : AV} {v : Value}, RV c ρ x v → RV (sub c w) nor (frz0 H x) v
  | .any, _, _ => trivial
  | .un, _, _ => trivial
  | .i _, _, r => r
  | .b _, _, r => r
  | .v _, _, r => r
  | .nl, v, r => by simp only [RV] at r; subst r; simp only [Ab.frz0, RV]; exact .inl ⟨rfl, rfl⟩
  | .sl k l, v, r => RV.lift hk (.sl k l) v (by simpa only [RV] using r)
  | .ref cs, v, r => RV.lift hk (.ref cs) v (by simpa only [RV] using r)
  | .fv g, v, r => RV.lift hk (.fv g) v (by simpa only [RV] using r)
  | .own id, v, r => by
    simp only [RV] at r
    simp only [Ab.frz0]
    split
    · rename_i k E l hid; simp only [RV]; exact RowR.sl (hH.get hsub hid r.1)
    · rename_i k l hid; simp only [RV]; exact RoR.sl (hH.get hsub hid r.1)
    · trivial
  | .eo _ _, _, _ => trivial
  | .bp _ _, _, _ => trivial
  | .ag _, _, _ => trivial
  | .tu _, _, _ => trivial
  | .fn _ _, _, _ => trivial

theorem RVs.map {c c' : Cx} {ρ ρ' : Nat → Option Value} {g : AV → AV} (h : ∀ {x : AV} {v : Value}, RV c ρ x v → RV c' ρ' (g x) v) : ∀ {xs : List AV} {vs : List Value}, RVs c ρ xs vs → RVs c' ρ' (xs.map g) vs
  | [], _, r => r
  | x :: xs, _, r => by simp only [RVs, List.map_cons] at r ⊢; obtain ⟨y, ys, h1, h2, h3⟩ := r; exact ⟨y, ys, h1, h h2, RVs.map h h3⟩

theorem RVs.cells {c : Cx} {w : World} {ρ : Nat → Option Value} (hw : c.w0 = w) (hX : ∀ b, ¬ c.X b) (hρ : ρ = nor) {b : Nat} : ∀ {xs : List AV} {vs : List Value} {o : Nat}, RVs c ρ xs vs → (∀ j v, vs[j]? = some v → w.cell? ⟨b, o + j, none⟩ = some v) → RCells c xs b o
  | [], _, _, _, _ => trivial
  | x :: xs, _, o, r, h => by
    simp only [RVs] at r
    obtain ⟨y, ys, rfl, h2, h3⟩ := r
    simp only [RCells]
    refine ⟨⟨hX b, y, by rw [hw]; exact h 0 y rfl, by rw [hρ] at h2; exact h2⟩, RVs.cells hw hX hρ h3 fun j v hv => ?_⟩
    rw [show o + 1 + j = o + (j + 1) by omega]
    exact h (j + 1) v (by simpa using hv)

theorem RV.frz1 {c : Cx} {w : World} {ρ : Nat → Option Value} {Hf H : List AO} (hH : HR c w ρ Hf) (hsub : ∀ (id : Nat) (o : AO), H[id]? = some o → Hf[id]? = some o) (hk : Keep c w)
    {x : AV} {v : Value} (hx : RV c ρ x v) : RV (sub c w) nor (frz1 H x) v := by
  unfold Ab.frz1
  split
  · rename_i id off
    split
    · rename_i T cs hid
      simp only [RV] at hx ⊢
      obtain ⟨b, hρ, rfl⟩ := hx
      obtain ⟨b', xs, hb, _, hg, hrs⟩ := hH.get hsub hid hρ
      simp only [Value.pointer.injEq, Option.some.injEq, Addr.mk.injEq, and_true] at hb
      obtain rfl := hb
      refine ⟨b, off, rfl, ?_⟩
      have h1 : RVs (sub c w) nor (cs.map (Ab.frz0 H)) xs := RVs.map (fun h => RV.frz0 hH hsub hk h) hrs
      have h2 : RCells (sub c w) (cs.map (Ab.frz0 H)) b 0 := RVs.cells rfl (fun _ h => h) rfl h1 (fun j v hv => by show w.cell? _ = _; rw [Nat.zero_add, row_cell hg]; simpa using hv)
      have := RCells.drop off h2
      rwa [Nat.zero_add] at this
    · trivial
  · simp only [RV] at hx ⊢
    obtain ⟨xs, h1, h2⟩ := hx
    exact ⟨xs, h1, RVs.map (fun h => RV.frz0 hH hsub hk h) h2⟩
  · exact RV.frz0 hH hsub hk hx

theorem RV.frz {c : Cx} {w : World} {ρ : Nat → Option Value} {Hf H : List AO} (hH : HR c w ρ Hf) (hsub : ∀ (id : Nat) (o : AO), H[id]? = some o → Hf[id]? = some o) (hk : Keep c w)
    {x : AV} {v : Value} (hx : RV c ρ x v) : RV (sub c w) nor (frz H x) v := by
  unfold Ab.frz
  split
  · simp only [RV] at hx ⊢
    obtain ⟨xs, h1, h2⟩ := hx
    exact ⟨xs, h1, RVs.map (fun h => RV.frz1 hH hsub hk h) h2⟩
  · exact RV.frz1 hH hsub hk hx

/-! ### What comes back -/
def join (ρ ρ' : Nat → Option Value) (n m : Nat) : Nat → Option Value := fun id => if n ≤ id ∧ id < n + m then ρ' (id - n) else ρ id

theorem join_new {ρ ρ' : Nat → Option Value} {n m id : Nat} (h : id < m) : join ρ ρ' n m (id + n) = ρ' id := by
  unfold join; rw [if_pos (by omega)]; congr 1; omega

section
variable {c c' : Cx} {ρ ρ' : Nat → Option Value} {n m : Nat} (hdom : ∀ id x, ρ' id = some x → id < m)
include hdom
theorem RV.back0 {x : AV} {v : Value} (hp : x.plain = true) (h : RV c' ρ' x v) : RV c (join ρ ρ' n m) (x.shift0 n) v := by
  cases x <;> simp [AV.plain] at hp <;> simp only [AV.shift0, RV] at h ⊢
  case i => exact h
  case b => exact h
  case v => exact h
  case nl => exact h
  case un => exact h
  case own id => exact ⟨by rw [join_new (hdom _ _ h.1)]; exact h.1, h.2⟩
theorem RVs.back0 : ∀ {xs : List AV} {vs : List Value}, xs.all AV.plain = true → RVs c' ρ' xs vs → RVs c (join ρ ρ' n m) (xs.map (AV.shift0 n)) vs
  | [], _, _, r => r
  | x :: xs, _, hp, r => by
    simp only [List.all_cons, Bool.and_eq_true] at hp
    simp only [RVs, List.map_cons] at r ⊢; obtain ⟨y, ys, h1, h2, h3⟩ := r; exact ⟨y, ys, h1, RV.back0 hdom hp.1 h2, RVs.back0 hp.2 h3⟩
theorem RV.back1 {x : AV} {v : Value} (hp : x.outOk = true) (h : RV c' ρ' x v) : RV c (join ρ ρ' n m) (x.shift1 n) v := by
  unfold AV.outOk at hp
  split at hp
  · simp only [AV.shift1, RV] at h ⊢
    obtain ⟨xs, h1, h2⟩ := h
    exact ⟨xs, h1, RVs.back0 hdom hp h2⟩
  · rename_i hne
    have : x.shift1 n = x.shift0 n := by cases x <;> simp_all [AV.shift1]
    rw [this]; exact RV.back0 hdom hp h
theorem RVs.back1 : ∀ {xs : List AV} {vs : List Value}, xs.all AV.outOk = true → RVs c' ρ' xs vs → RVs c (join ρ ρ' n m) (xs.map (AV.shift1 n)) vs
  | [], _, _, r => r
  | x :: xs, _, hp, r => by
    simp only [List.all_cons, Bool.and_eq_true] at hp
    simp only [RVs, List.map_cons] at r ⊢; obtain ⟨y, ys, h1, h2, h3⟩ := r; exact ⟨y, ys, h1, RV.back1 hdom hp.1 h2, RVs.back1 hp.2 h3⟩
theorem RV.back {x : AV} {v : Value} (hp : x.outOk2 = true) (h : RV c' ρ' x v) : RV c (join ρ ρ' n m) (x.shift n) v := by
  unfold AV.outOk2 at hp
  split at hp
  · simp only [AV.shift, RV] at h ⊢
    obtain ⟨xs, h1, h2⟩ := h
    exact ⟨xs, h1, RVs.back1 hdom hp h2⟩
  · rename_i hne
    have : x.shift n = x.shift1 n := by cases x <;> simp_all [AV.shift]
    rw [this]; exact RV.back1 hdom hp h
end

theorem AO.shift_live (o : AO) (n : Nat) : (o.shift n).live = o.live ∧ (o.shift n).mut = o.mut := by cases o <;> exact ⟨rfl, rfl⟩

/-- The heap behind a call: what was, and what the callee made. -/
theorem HR.join {c : Cx} {w w' : World} {ρ ρ' : Nat → Option Value} {Hf Ho : List AO} (hk : Keep c w) (hH : HR c w ρ Hf) (hk' : Keep (sub c w) w') (hH' : HR (sub c w) w' ρ' Ho) (hok : Ho.all AO.outOk = true) {n : Nat}
    (hfree : ∀ id, n ≤ id → id < n + Ho.length → ρ id = none) (hnew : ∀ (j : Nat) (o : AO), Ho[j]? = some o → Hf[n + j]? = some (o.shift n)) : HR c w' (join ρ ρ' n Ho.length) Hf := by
  have hdom : ∀ id x, ρ' id = some x → id < Ho.length := fun id x h => by obtain ⟨o, ho, _⟩ := hH'.obj id x h; exact (List.getElem?_eq_some_iff.1 ho).1
  have hb : Below w.heap.size w w' := hk'.below
  have hext : Ext ρ (Ab.join ρ ρ' n Ho.length) := fun id x h => by
    unfold Ab.join; rw [if_neg]; exact h
    intro hr; rw [hfree id hr.1 hr.2] at h; cases h
  have own : ∀ b, Ownb (sub c w) b → w.heap.size ≤ b := fun b h => h.elim id (fun h => h.elim)
  have back : ∀ (o : AO) (x : Value), o.outOk = true → OR (sub c w) w' ρ' o x → OR c w' (Ab.join ρ ρ' n Ho.length) (o.shift n) x := fun o x ho h => by
    cases o with
    | dead => trivial
    | row k E l =>
      rcases h with h | ⟨b, cap, cur, rfl, h0, r⟩
      · exact .inl h
      · exact .inr ⟨b, cap, cur, rfl, .inl (Nat.le_trans hk.size (own b h0)), r⟩
    | box T cs =>
      obtain ⟨b, xs, rfl, h0, hg, r⟩ := h
      exact ⟨b, xs, rfl, .inl (Nat.le_trans hk.size (own b h0)), hg, RVs.back0 hdom ho r⟩
    | ro k l =>
      rcases h with h | ⟨b, o', cap, rfl, h0, r⟩
      · exact .inl h
      · exact .inr ⟨b, o', cap, rfl, .inl (Nat.le_trans hk.size (own b h0)), r⟩
  have case : ∀ id x, Ab.join ρ ρ' n Ho.length id = some x → (ρ id = some x ∧ ¬ (n ≤ id ∧ id < n + Ho.length)) ∨ ∃ j o, id = n + j ∧ ρ' j = some x ∧ Ho[j]? = some o ∧ OR (sub c w) w' ρ' o x := fun id x h => by
    unfold Ab.join at h
    split at h
    · rename_i hr
      obtain ⟨o, ho, hr'⟩ := hH'.obj _ x h
      exact .inr ⟨id - n, o, by omega, h, ho, hr'⟩
    · rename_i hr; exact .inl ⟨h, hr⟩
  refine ⟨fun id x h => ?_, fun i j y z oi oj hij hi hj hoi hoj li lj hmm b hb1 hb2 => ?_⟩
  · rcases case id x h with ⟨h1, _⟩ | ⟨j, o, rfl, _, ho, hr⟩
    · obtain ⟨o, ho, hr⟩ := hH.obj id x h1
      exact ⟨o, ho, hr.keep hext hb.size fun hl b hbl => hb.block b (hr.lt hl hbl).1⟩
    · exact ⟨_, hnew j o ho, back o x ((List.all_eq_true.1 hok) o (List.mem_of_getElem? ho)) hr⟩
  · rcases case i y hi with ⟨hi1, hin⟩ | ⟨i', o1, rfl, hi1, ho1, hr1⟩ <;> rcases case j z hj with ⟨hj1, hjn⟩ | ⟨j', o2, rfl, hj1, ho2, hr2⟩
    · exact hH.sep i j y z oi oj hij hi1 hj1 hoi hoj li lj hmm b hb1 hb2
    · obtain ⟨o, ho, hr⟩ := hH.obj i y hi1
      rw [hoi] at ho; cases ho
      rw [hnew j' o2 ho2] at hoj; cases hoj
      rw [(AO.shift_live o2 n).1] at lj
      have := own b (hr2.lt lj hb2).2
      have := (hr.lt li hb1).1
      omega
    · obtain ⟨o, ho, hr⟩ := hH.obj j z hj1
      rw [hoj] at ho; cases ho
      rw [hnew i' o1 ho1] at hoi; cases hoi
      rw [(AO.shift_live o1 n).1] at li
      have := own b (hr1.lt li hb1).2
      have := (hr.lt lj hb2).1
      omega
    · rw [hnew i' o1 ho1] at hoi; cases hoi
      rw [hnew j' o2 ho2] at hoj; cases hoj
      rw [(AO.shift_live o1 n).1] at li
      rw [(AO.shift_live o2 n).1] at lj
      rw [(AO.shift_live o1 n).2, (AO.shift_live o2 n).2] at hmm
      exact hH'.sep i' j' y z o1 o2 (by omega) hi1 hj1 ho1 ho2 li lj hmm b hb1 hb2

theorem RVs.app {c : Cx} {ρ : Nat → Option Value} {xs ys : List AV} {us vs : Array Value} (h1 : RVs c ρ xs us.toList) (h2 : RVs c ρ ys vs.toList) : RVs c ρ (xs ++ ys) (us ++ vs).toList := by
  rw [Array.toList_append]; exact h1.append h2

theorem ints_of {c : Cx} {ρ : Nat → Option Value} : ∀ {xs : List AV} {vs : List Value} {ns : List Int}, xs.mapM (fun x => match x with | .i n => some n | _ => none) = some ns → RVs c ρ xs vs → vs = ns.map (Value.int .i64)
  | [], _, _, h, r => by simp only [RVs] at r; subst r; simp at h; subst h; rfl
  | x :: xs, _, ns, h, r => by
    simp only [RVs] at r
    obtain ⟨y, ys, rfl, h2, h3⟩ := r
    simp only [List.mapM_cons, Option.bind_eq_bind, Option.bind_eq_some_iff, Option.pure_def, Option.some.injEq] at h
    obtain ⟨n, hn, ms, hm, rfl⟩ := h
    have := ints_of hm h3
    subst this
    split at hn <;> cases hn
    simp only [RV] at h2
    subst h2
    rfl

/-- A call. -/
theorem call_ok {c : Cx} {C : Cfg} (ok : CfgOk c.P C) {f : AV} {args : List AV} {Hf H H' : List AO} {p : Prop} {v : AV} (h : aCall C f args H = .ok p v H') (hp : p)
    {ρ : Nat → Option Value} {w : World} (hH : HR c w ρ Hf) (hsub : ∀ (id : Nat) (o : AO), H'[id]? = some o → Hf[id]? = some o) (hk : Keep c w) (hfree : ∀ id, H.length ≤ id → id < H'.length → ρ id = none)
    {uf : Value} {us : Array Value} (hf : RV c ρ f uf) (hx : RVs c ρ args us.toList) :
    ∃ fid first caps, uf = .func (.func fid) first caps ∧ first = #[] ∧ Callable c.P fid ∧
      Calls c.P fid (us ++ caps) w fun e w' => ∃ u ρ', e = .returned u ∧ Post c ρ Hf H.length H'.length v u w' ρ' := by
  unfold aCall at h
  split at h
  · rename_i fid caps
    split at h <;> try cases h
    rename_i p' out Ho hT
    obtain ⟨hcall, ho1, ho2, hcl⟩ := ok.calls _ _ _ _ _ hT hp
    simp only [RV] at hf
    obtain ⟨xs, rfl, hxs⟩ := hf
    have hs := sub_left hsub
    have h1 : RVs (sub c w) nor (args.map (Ab.frz H)) us.toList := RVs.map (fun h => RV.frz hH hs hk h) hx
    have h2 : RVs (sub c w) nor (caps.map (Ab.frz1 H)) xs.toArray.toList := RVs.map (fun h => RV.frz1 hH hs hk h) hxs
    refine ⟨fid, #[], xs.toArray, rfl, rfl, hcl, ?_⟩
    have := hcall w (us ++ xs.toArray).toList (RVs.app h1 h2)
    rw [Array.toArray_toList] at this
    refine this.mono ?_
    rintro e w' ⟨u, ρ', rfl, r1, r2, r3⟩
    have hdom : ∀ id x, ρ' id = some x → id < Ho.length := fun id x h => by obtain ⟨o, ho, _⟩ := r2.obj id x h; exact (List.getElem?_eq_some_iff.1 ho).1
    have hl : (H ++ Ho.map (AO.shift H.length)).length = H.length + Ho.length := by simp
    rw [hl] at hfree
    refine ⟨u, join ρ ρ' H.length Ho.length, rfl, ?_, ?_, ?_, hk.of_sub r3, RV.back hdom ho1 r1⟩
    · intro id x hx'
      unfold join; rw [if_neg]; exact hx'
      intro hr; rw [hfree id hr.1 hr.2] at hx'; cases hx'
    · intro id hne
      unfold join at hne
      rw [hl]
      split at hne
      · rename_i hr; exact .inr hr
      · exact .inl hne
    · refine HR.join hk hH r3 r2 ho2 (fun id h1 h2 => hfree id h1 h2) (fun j o hj => hsub _ _ ?_)
      rw [List.getElem?_append_right (by omega)]
      simp [hj]
  · rename_i g
    split at h <;> try cases h
    rename_i ns hns
    split at h <;> try cases h
    rename_i r hg
    simp only [RV] at hf
    obtain ⟨fid, caps, rfl, hcl, hall⟩ := hf
    refine ⟨fid, #[], caps, rfl, rfl, hcl, ?_⟩
    have := ints_of hns hx
    have e : us = (ns.map (Value.int .i64)).toArray := by rw [← this]
    rw [e]
    refine (hall w hk ns r hg).mono ?_
    rintro e' w' ⟨rfl, hb⟩
    exact ⟨r, ρ, rfl, .same (hH.below hb) (hk.below_step hb) (RV.const c ρ r)⟩
  · cases h

end Go.Ab
