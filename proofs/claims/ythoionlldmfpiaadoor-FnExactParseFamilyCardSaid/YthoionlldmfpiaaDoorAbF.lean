/-
  AN ABSTRACT MACHINE, part F: every operation; regions; code.
-/
import Derived.Test.YthoionlldmfpiaaDoorAbE
set_option linter.unusedSimpArgs false
set_option linter.unusedVariables false
namespace Go.Ab
open Go Go.RowKit

def Pre (H H' : List AO) : Prop := ∃ K, H' = H ++ K
theorem Pre.refl (H : List AO) : Pre H H := ⟨[], by simp⟩
theorem Pre.trans {H H' H'' : List AO} (h : Pre H H') (h' : Pre H' H'') : Pre H H'' := by obtain ⟨K, rfl⟩ := h; obtain ⟨L, rfl⟩ := h'; exact ⟨K ++ L, by simp⟩
theorem Pre.sub {H H' : List AO} (h : Pre H H') : ∀ (id : Nat) (o : AO), H[id]? = some o → H'[id]? = some o := by
  obtain ⟨K, rfl⟩ := h
  exact sub_left (fun _ _ h => h)
theorem Pre.length {H H' : List AO} (h : Pre H H') : H.length ≤ H'.length := by obtain ⟨K, rfl⟩ := h; simp

def Keeps (H : List AO) : Res → Prop
  | .bad => True
  | .ok _ _ H' => Pre H H'
theorem keeps_ok {H : List AO} (p : Prop) (v : AV) : Keeps H (.ok p v H) := Pre.refl H
theorem keeps_new {H : List AO} (p : Prop) (v : AV) (K : List AO) : Keeps H (.ok p v (H ++ K)) := ⟨K, rfl⟩
theorem keeps_bad {H : List AO} : Keeps H .bad := trivial

theorem aop_pre {C : Cfg} {op : Op} {ev : Operand → AV} {H : List AO} (hs : stableOp op = true) : Keeps H (aop C.noM op ev H) := by
  cases op
  case makeFunc fn fst caps => cases fn <;> simp only [aop] <;> first | exact keeps_bad | (split <;> first | exact keeps_bad | exact keeps_ok _ _)
  all_goals simp only [aop]
  all_goals try exact keeps_bad
  case move => exact keeps_ok _ _
  case assign => exact keeps_ok _ _
  case pick => unfold aPick; (repeat' split) <;> first | exact keeps_bad | exact keeps_ok _ _
  case alloc => unfold aAlloc aNew; (repeat' split) <;> first | exact keeps_bad | exact keeps_new _ _ _
  case box => unfold aBox aNew; (repeat' split) <;> first | exact keeps_bad | exact keeps_new _ _ _
  case build => unfold aBuild; (repeat' split) <;> first | exact keeps_bad | exact keeps_ok _ _
  case buildSlice => unfold aBuildSlice aNew; (repeat' split) <;> first | exact keeps_bad | exact keeps_new _ _ _
  case load => unfold aLoad; (repeat' split) <;> first | exact keeps_bad | exact keeps_ok _ _
  case store => cases hs
  case nilCheck => unfold aNilCheck; (repeat' split) <;> first | exact keeps_bad | exact keeps_ok _ _
  case binOp => unfold aBin; (repeat' split) <;> first | exact keeps_bad | exact keeps_ok _ _
  case unOp => unfold aUn; (repeat' split) <;> first | exact keeps_bad | exact keeps_ok _ _
  case convert => unfold aConvert aConvStr; (repeat' split) <;> first | exact keeps_bad | exact keeps_ok _ _
  case index => unfold aIndex; (repeat' split) <;> first | exact keeps_bad | exact keeps_ok _ _
  case makeSlice => unfold aMakeSlice aNew; (repeat' split) <;> first | exact keeps_bad | exact keeps_new _ _ _
  case slice => unfold aSlice; (repeat' split) <;> first | exact keeps_bad | exact keeps_ok _ _
  case fieldAddr => unfold aFieldAddr; (repeat' split) <;> first | exact keeps_bad | exact keeps_ok _ _
  case field => unfold aField; (repeat' split) <;> first | exact keeps_bad | exact keeps_ok _ _
  case indexAddr => unfold aIndexAddr; (repeat' split) <;> first | exact keeps_bad | exact keeps_ok _ _
  case extract => unfold aExtract; (repeat' split) <;> first | exact keeps_bad | exact keeps_ok _ _
  case call c =>
    split
    · unfold aCall aLend aLendJ; (repeat' split) <;> first | exact keeps_bad | exact keeps_ok _ _ | exact keeps_new _ _ _ | (rename_i h; cases h)
    · rename_i b hb
      unfold aBuiltin
      split
      · unfold aLen; (repeat' split) <;> first | exact keeps_bad | exact keeps_ok _ _
      · simp [stableOp, hb] at hs
      · unfold aMin; (repeat' split) <;> first | exact keeps_bad | exact keeps_ok _ _
      · unfold aMax; (repeat' split) <;> first | exact keeps_bad | exact keeps_ok _ _
      · exact keeps_bad
    · exact keeps_bad

theorem wp_value {P : Program} {o : Oper} {a : Act} {w w' : World} {K : Act → World → Prop} {Q : Exit → Act → World → Prop} {u : Value} (h : (execOp a.eval o).run P w = .ok (.value u) w') (hk : K (a.put o.dst u) w') : o.wp P a w K Q := by
  unfold Oper.wp; rw [h]; exact hk
theorem wp_skip' {P : Program} {o : Oper} {a : Act} {w w' : World} {K : Act → World → Prop} {Q : Exit → Act → World → Prop} (h : (execOp a.eval o).run P w = .ok .skip w') (hk : K (a.put o.dst undef) w') : o.wp P a w K Q := by
  unfold Oper.wp; rw [h]; exact hk
theorem wp_enter {P : Program} {o : Oper} {a : Act} {w w' : World} {K : Act → World → Prop} {Q : Exit → Act → World → Prop} {f : FuncId} {args : Array Value} (h : (execOp a.eval o).run P w = .ok (.enter f args) w')
    (hk : Calls P f args w' fun e w'' => ∃ u, e = .returned u ∧ K (a.put o.dst u) w'') : o.wp P a w K Q := by
  unfold Oper.wp; rw [h]
  exact hk.mono fun e w'' ⟨u, he, hK⟩ => by subst he; exact hK

theorem rps_of {c : Cx} {ρ : Nat → Option Value} {ev : Operand → AV} {f : Operand → Value} : ∀ (ps : List (Nat × Operand)), (∀ p ∈ ps, RV c ρ (ev p.2) (f p.2)) → RPs c ρ (ps.map fun p => (p.1, ev p.2)) (ps.map fun p => (p.1, f p.2))
  | [], _ => rfl
  | p :: ps, h => ⟨_, _, rfl, h p (by simp), rps_of ps fun q hq => h q (by simp [hq])⟩
theorem rvs_of {c : Cx} {ρ : Nat → Option Value} {ev : Operand → AV} {f : Operand → Value} : ∀ (xs : List Operand), (∀ x ∈ xs, RV c ρ (ev x) (f x)) → RVs c ρ (xs.map ev) (xs.map f)
  | [], _ => rfl
  | x :: xs, h => by simp only [List.map_cons, RVs]; exact ⟨_, _, rfl, h x (by simp), rvs_of xs fun y hy => h y (by simp [hy])⟩

theorem run_callFunc {P : Program} {f : FuncId} (h : Callable P f) (args : Array Value) (w : World) : (callFunc f args).run P w = .ok (.enter f args) w := by
  obtain ⟨fn, h1, h2, h3⟩ := h
  have h2' : ¬ fn.name = "runtime.NumGoroutine" := by simpa using h2
  have h3' : ¬ fn.body = none := by intro e; rw [e] at h3; cases h3
  simp [callFunc, h1, h2', h3']

section
variable {c : Cx} {C : Cfg} {o : Oper} {a : Act} {ev : Operand → AV} {H H' Hf : List AO} {p : Prop} {v : AV} {ρ : Nat → Option Value} {w : World} {Q : Exit → Act → World → Prop}

/-- An operation that turns no object: from the values of its operands alone. -/
theorem op_stable (ok : CfgOk c.P C) (h : aop C.noM o.op ev H = .ok p v H') (hp : p) (hst : stableOp o.op = true) (hH : HR c w ρ Hf) (hsub : ∀ (id : Nat) (x : AO), H'[id]? = some x → Hf[id]? = some x) (hk : Keep c w)
    (hfree : ∀ id, H.length ≤ id → id < H'.length → ρ id = none) (hev : ∀ x ∈ o.op.operands.toList, RV c ρ (ev x) (a.eval x)) :
    o.wp c.P a w (fun a' w' => ∃ u ρ', a' = a.put o.dst u ∧ Post c ρ Hf H.length H'.length v u w' ρ') Q := by
  have hpre : Pre H H' := by have := aop_pre (C := C) (ev := ev) (H := H) hst; rw [h] at this; exact this
  have hsub0 : ∀ (id : Nat) (x : AO), H[id]? = some x → Hf[id]? = some x := fun id x hx => hsub id x (hpre.sub id x hx)
  obtain ⟨dst, op, type, pos, after, guard⟩ := o
  simp only at h hst hev
  have same : ∀ {u : Value}, RV c ρ v u → (execOp a.eval ⟨dst, op, type, pos, after, guard⟩).run c.P w = .ok (.value u) w →
      (⟨dst, op, type, pos, after, guard⟩ : Oper).wp c.P a w (fun a' w' => ∃ u ρ', a' = a.put dst u ∧ Post c ρ Hf H.length H'.length v u w' ρ') Q := fun hv hr => wp_value hr ⟨_, ρ, rfl, .same hH hk hv⟩
  have made : ∀ {u : Value} {w' : World} {ρ' : Nat → Option Value}, Post c ρ Hf H.length (H.length + 1) v u w' ρ' → H'.length = H.length + 1 → (execOp a.eval ⟨dst, op, type, pos, after, guard⟩).run c.P w = .ok (.value u) w' →
      (⟨dst, op, type, pos, after, guard⟩ : Oper).wp c.P a w (fun a' w' => ∃ u ρ', a' = a.put dst u ∧ Post c ρ Hf H.length H'.length v u w' ρ') Q := fun hv hl hr => wp_value hr ⟨_, _, rfl, by rw [hl]; exact hv⟩
  cases op
  case makeFunc fn fst caps =>
    cases fn <;> simp only [aop] at h <;> try (cases h; done)
    rename_i f
    split at h
    · rename_i he
      simp only [Res.ok.injEq] at h; obtain ⟨rfl, rfl, rfl⟩ := h
      obtain rfl : fst = #[] := by simpa using he
      refine same (u := .func (.func f) #[] (caps.map a.eval)) ?_ (by simp [execOp, Instr.makeFunc])
      simp only [RV]
      exact ⟨(caps.map a.eval).toList, by rw [Array.toArray_toList], by rw [Array.toList_map]; exact rvs_of _ fun x hx => hev x (by simpa [Op.operands] using hx)⟩
    · cases h
  all_goals simp only [aop] at h
  all_goals try (cases h; done)
  case move x =>
    simp only [Res.ok.injEq] at h; obtain ⟨rfl, rfl, rfl⟩ := h
    exact same (hev x (by simp [Op.operands])) (by simp [execOp])
  case assign x =>
    simp only [Res.ok.injEq] at h; obtain ⟨rfl, rfl, rfl⟩ := h
    exact same (hev x (by simp [Op.operands])) (by simp [execOp])
  case pick x y z =>
    obtain ⟨rfl, b, hb, hv⟩ := pick_ok h (hev y (by simp [Op.operands])) (hev z (by simp [Op.operands])) (hev x (by simp [Op.operands])) w
    refine same hv ?_
    simp [execOp, hb, asBool]
  case alloc T =>
    have hl : H'.length = H.length + 1 := by unfold aAlloc aNew at h; split at h <;> cases h; simp
    obtain ⟨_, u, w', ρ', hr, hpost⟩ := alloc_ok ok h hH hsub hk (hfree _ (Nat.le_refl _) (by omega))
    exact made hpost hl (by simp [execOp, hr])
  case box T x =>
    have hl : H'.length = H.length + 1 := by unfold aBox aNew at h; split at h <;> cases h <;> simp
    obtain ⟨_, u, w', ρ', hr, hpost⟩ := box_ok h hp hH hsub hk (hfree _ (Nat.le_refl _) (by omega)) (hev x (by simp [Op.operands]))
    exact made hpost hl (by simp [execOp, hr])
  case build T ps =>
    obtain ⟨rfl, u, hr, hv⟩ := build_ok ok h hp (ps := ps.map fun q => (q.1, a.eval q.2)) (by
      rw [Array.toList_map]
      exact rps_of _ fun q hq => hev q.2 (by simp [Op.operands]; exact ⟨q.1, by simpa using hq⟩)) w
    exact same hv (by simp [execOp, hr])
  case buildSlice T n ps =>
    have hl : H'.length = H.length + 1 := by unfold aBuildSlice aNew at h; (repeat' split at h) <;> cases h <;> simp
    obtain ⟨_, u, w', ρ', hr, hpost⟩ := buildSlice_ok ok h hp hH hsub hk (hfree _ (Nat.le_refl _) (by omega)) (ps := ps.map fun q => (q.1, a.eval q.2)) (by
      rw [Array.toList_map]
      exact rps_of _ fun q hq => hev q.2 (by simp [Op.operands]; exact ⟨q.1, by simpa using hq⟩))
    exact made hpost hl (by simp [execOp, hr])
  case load T x =>
    obtain ⟨rfl, u, hr, hv⟩ := load_ok ok h hp hH hsub0 hk (hev x (by simp [Op.operands]))
    exact same hv (by simp [execOp, hr])
  case store => cases hst
  case nilCheck x =>
    obtain ⟨rfl, rfl, hv⟩ := nilCheck_ok h (hev x (by simp [Op.operands]))
    refine same (hev x (by simp [Op.operands])) ?_
    rcases hv with ⟨b, hv⟩ | ⟨f, caps, hv⟩ <;> simp [execOp, hv]
  case binOp op T x y yT =>
    obtain ⟨rfl, u, hg, hr, hv⟩ := bin_ok ok h hp (hev x (by simp [Op.operands])) (hev y (by simp [Op.operands])) x y w
    exact same hv (by simp [execOp, hg, hr])
  case unOp op T x =>
    obtain ⟨rfl, u, hr, hv⟩ := un_ok h (hev x (by simp [Op.operands])) w
    exact same hv (by simp [execOp, hr])
  case convert s d x =>
    obtain ⟨rfl, u, hr, hv⟩ := convert_ok ok h hH hsub0 (hev x (by simp [Op.operands]))
    exact same hv (by simp [execOp, hr])
  case index T x i =>
    obtain ⟨rfl, u, hr, hv⟩ := index_ok ok h hp (hev x (by simp [Op.operands])) (hev i (by simp [Op.operands])) w
    exact same hv (by simp [execOp, hr])
  case makeSlice T x y =>
    have hl : H'.length = H.length + 1 := by unfold aMakeSlice aNew at h; (repeat' split at h) <;> cases h <;> simp
    obtain ⟨_, u, w', ρ', hr, hpost⟩ := makeSlice_ok ok h hp hH hsub hk (hfree _ (Nat.le_refl _) (by omega)) (hev x (by simp [Op.operands])) (hev y (by simp [Op.operands]))
    exact made hpost hl (by simp [execOp, hr])
  case slice T x lo hi mx =>
    have hlo : ∀ y, lo.map ev = some y → ∃ u, lo.map a.eval = some u ∧ RV c ρ y u := fun y hy => by
      cases lo with
      | none => cases hy
      | some z => cases hy; exact ⟨_, rfl, hev z (by simp [Op.operands])⟩
    have hhi : ∀ y, hi.map ev = some y → ∃ u, hi.map a.eval = some u ∧ RV c ρ y u := fun y hy => by
      cases hi with
      | none => cases hy
      | some z => cases hy; exact ⟨_, rfl, hev z (by simp [Op.operands])⟩
    obtain ⟨rfl, u, hr, hv⟩ := slice_ok ok h hp hH hsub0 (hev x (by simp [Op.operands])) hlo (ulo := lo.map a.eval) (uhi := hi.map a.eval) (umx := mx.map a.eval)
      (fun h => by cases lo <;> simp_all) hhi (fun h => by cases hi <;> simp_all) (fun h => by cases mx <;> simp_all)
    exact same hv (by simp [execOp, hr])
  case fieldAddr S x f =>
    obtain ⟨rfl, u, hr, hv⟩ := fieldAddr_ok ok h hp (hev x (by simp [Op.operands])) w
    exact same hv (by simp [execOp, hr])
  case field S x f =>
    obtain ⟨rfl, u, hr, hv⟩ := field_ok ok h hp (hev x (by simp [Op.operands])) w
    exact same hv (by simp [execOp, hr])
  case indexAddr T x i =>
    obtain ⟨rfl, u, hr, hv⟩ := indexAddr_ok ok h hp hH hsub0 (hev x (by simp [Op.operands])) (hev i (by simp [Op.operands]))
    exact same hv (by simp [execOp, hr])
  case extract x j =>
    obtain ⟨rfl, u, hr, hv⟩ := extract_ok h hp (hev x (by simp [Op.operands])) w
    exact same hv (by simp [execOp, hr])
  case call cl =>
    obtain ⟨callee, args, argTypes⟩ := cl
    cases callee with
    | value f =>
      simp only at h
      have hargs : ∀ x ∈ args.toList, RV c ρ (ev x) (a.eval x) := fun x hx => hev x (by simp [Op.operands, Call.operands]; exact .inr (by simpa using hx))
      obtain ⟨fid, first, caps, hf, rfl, hcl, hcall⟩ := call_ok ok h hp hH hsub hk hfree (hev f (by simp [Op.operands, Call.operands])) (us := args.map a.eval) (by rw [Array.toList_map]; exact rvs_of _ hargs)
      refine wp_enter (f := fid) (args := args.map a.eval ++ caps) (w' := w) ?_ (hcall.mono fun e w' ⟨u, ρ', he, hpost⟩ => ⟨u, he, u, ρ', rfl, hpost⟩)
      simp [execOp, resolve, hf, Deferred.ofValue, invoke, run_callFunc hcl]
    | builtin b =>
      simp only at h
      have hargs : ∀ x ∈ args.toList, RV c ρ (ev x) (a.eval x) := fun x hx => hev x (by simp [Op.operands, Call.operands]; simpa using hx)
      unfold aBuiltin at h
      split at h
      · rename_i t x hts hxs
        obtain ⟨y, hy⟩ : ∃ y, args = #[y] := by
          match args, hxs with
          | ⟨[y]⟩, _ => exact ⟨y, rfl⟩
        obtain ⟨t', ht'⟩ : ∃ t', argTypes = #[t'] := by
          match argTypes, hts with
          | ⟨[t']⟩, _ => exact ⟨t', rfl⟩
        subst hy ht'
        simp at hts hxs
        subst hts hxs
        obtain ⟨rfl, u, hr, hv⟩ := len_ok ok (ty := type) h hH hsub0 (hargs y (by simp))
        exact same hv (by simp [execOp, resolve, invoke, builtin, hr])
      · cases hst
      · rename_i x y hxs
        obtain ⟨x', y', hy⟩ : ∃ x' y', args = #[x', y'] := by
          match args, hxs with
          | ⟨[x', y']⟩, _ => exact ⟨x', y', rfl⟩
        subst hy
        simp at hxs
        obtain ⟨rfl, rfl⟩ := hxs
        obtain ⟨rfl, u, hr, hv⟩ := min_ok h (hargs x' (by simp)) (hargs y' (by simp)) argTypes type w
        exact same hv (by simp [execOp, resolve, invoke, builtin, hr])
      · rename_i x y hxs
        obtain ⟨x', y', hy⟩ : ∃ x' y', args = #[x', y'] := by
          match args, hxs with
          | ⟨[x', y']⟩, _ => exact ⟨x', y', rfl⟩
        subst hy
        simp at hxs
        obtain ⟨rfl, rfl⟩ := hxs
        obtain ⟨rfl, u, hr, hv⟩ := max_ok h (hargs x' (by simp)) (hargs y' (by simp)) argTypes type w
        exact same hv (by simp [execOp, resolve, invoke, builtin, hr])
      · cases h
    | invoke r m => cases h

/-- The domain of what is known lies within the heap. -/
theorem HR.free (hH : HR c w ρ H) : ∀ id, H.length ≤ id → ρ id = none := fun id h => by
  cases hx : ρ id with
  | none => rfl
  | some x => obtain ⟨o, ho, _⟩ := hH.obj id x hx; have := (List.getElem?_eq_some_iff.1 ho).1; omega

theorem HR.grow (hH : HR c w ρ H) (hp : Pre H H') : HR c w ρ H' := by
  refine ⟨fun id x hx => ?_, fun i j x y oi oj hij hi hj hoi hoj => ?_⟩
  · obtain ⟨o, ho, hr⟩ := hH.obj id x hx; exact ⟨o, hp.sub _ _ ho, hr⟩
  · obtain ⟨o, ho, _⟩ := hH.obj i x hi
    obtain ⟨o', ho', _⟩ := hH.obj j y hj
    have h1 := hp.sub _ _ ho; rw [hoi] at h1; cases h1
    have h2 := hp.sub _ _ ho'; rw [hoj] at h2; cases h2
    exact hH.sep i j x y oi oj hij hi hj ho ho'

theorem op_cases {C : Cfg} {op : Op} {ev : Operand → AV} {H H' : List AO} {p : Prop} {v : AV} (h : aop C op ev H = .ok p v H') :
    aop C.noM op ev H = .ok p v H' ∨ ∃ g caps f xs ts, op = .call ⟨.value f, xs, ts⟩ ∧ ev f = .fn g caps ∧ aLendJ C g (xs.toList.map ev ++ caps) H (lendIds H (xs.toList.map ev ++ caps)) = .ok p v H' := by
  cases op
  case call cl =>
    obtain ⟨callee, xs, ts⟩ := cl
    cases callee with
    | value f =>
      simp only [aop] at h ⊢
      rcases call_cases h with h | ⟨g, caps, h1, h2⟩
      · exact .inl h
      · exact .inr ⟨g, caps, f, xs, ts, rfl, h1, h2⟩
    | builtin b => left; simp only [aop] at h ⊢; exact h
    | invoke r m => left; simp only [aop] at h ⊢; exact h
  all_goals (left; first | exact h | (rename_i fn _ _; cases fn <;> exact h))

/-- An operation, in its place. -/
theorem op_any (ok : CfgOk c.P C) (h : aop C o.op ev H = .ok p v H') (hp : p) (hH : HR c w ρ H) (hk : Keep c w) (hev : ∀ x ∈ o.op.operands.toList, RV c ρ (ev x) (a.eval x)) :
    o.wp c.P a w (fun a' w' => ∃ u ρ', a' = a.put o.dst u ∧ Ext ρ ρ' ∧ HR c w' ρ' H' ∧ Keep c w' ∧ RV c ρ' v u) Q := by
  have h2 := op_cases h
  clear h
  rcases h2 with h | ⟨g, caps, f, xs, ts, hop, hf, h⟩
  rotate_left
  · obtain ⟨dst, op, type, pos, after, guard⟩ := o
    simp only at hop
    subst hop
    have hargs : ∀ x ∈ xs.toList, RV c ρ (ev x) (a.eval x) := fun x hx => hev x (by simp [Op.operands, Call.operands]; exact .inr (by simpa using hx))
    have hfv := hev f (by simp [Op.operands, Call.operands])
    rw [hf] at hfv
    simp only [RV] at hfv
    obtain ⟨us, he, hcs⟩ := hfv
    obtain ⟨hcl, hcall⟩ := lend_ok ok h hp hH hk (hH.free) (us := (xs.map a.eval ++ us.toArray).toList) (RVs.app (by rw [Array.toList_map]; exact rvs_of _ hargs) hcs)
    rw [Array.toArray_toList] at hcall
    refine wp_enter (f := g) (args := xs.map a.eval ++ us.toArray) (w' := w) ?_ (hcall.mono fun e w' ⟨u, ρ', he, h1, h2, h3, h4⟩ => ⟨u, he, u, ρ', rfl, h1, h2, h3, h4⟩)
    simp [execOp, resolve, he, Deferred.ofValue, invoke, run_callFunc hcl]
  by_cases hst : stableOp o.op = true
  · have hpre : Pre H H' := by have := aop_pre (C := C) (ev := ev) (H := H) hst; rw [h] at this; exact this
    refine Oper.wp_mono ?_ (op_stable ok h hp hst (hH.grow hpre) (fun _ _ h => h) hk (fun id h1 _ => hH.free id h1) hev)
    rintro a' w' ⟨u, ρ', rfl, hpost⟩
    exact ⟨u, ρ', rfl, hpost.ext, hpost.hp, hpost.keep, hpost.val⟩
  · obtain ⟨dst, op, type, pos, after, guard⟩ := o
    simp only at h hst hev
    cases op <;> simp [stableOp] at hst
    case store T x y =>
      simp only [aop] at h
      obtain ⟨rfl, w', hr, hH', hk'⟩ := store_ok ok h hp hH hk (hev x (by simp [Op.operands])) (hev y (by simp [Op.operands]))
      exact wp_skip' (by simp [execOp, hr]) ⟨undef, ρ, rfl, fun _ _ h => h, hH', hk', rfl⟩
    case call cl =>
      obtain ⟨callee, args, argTypes⟩ := cl
      cases callee <;> simp at hst
      rename_i b
      cases b <;> simp at hst
      simp only [aop] at h
      have hargs : ∀ x ∈ args.toList, RV c ρ (ev x) (a.eval x) := fun x hx => hev x (by simp [Op.operands, Call.operands]; simpa using hx)
      unfold aBuiltin at h
      split at h <;> (first | (rename_i hb _ _; cases hb; done) | (rename_i hb _; cases hb; done) | skip)
      · rename_i t t2 x y _ hts hxs
        obtain ⟨x', y', hy⟩ : ∃ x' y', args = #[x', y'] := by
          match args, hxs with
          | ⟨[x', y']⟩, _ => exact ⟨x', y', rfl⟩
        obtain ⟨t', t2', ht'⟩ : ∃ t' t2', argTypes = #[t', t2'] := by
          match argTypes, hts with
          | ⟨[t', t2']⟩, _ => exact ⟨t', t2', rfl⟩
        subst hy ht'
        simp at hts hxs
        obtain ⟨rfl, rfl⟩ := hts
        obtain ⟨rfl, rfl⟩ := hxs
        obtain ⟨_, u, w', ρ', hr, hpost⟩ := append_ok ok (ty := type) h hp hH hk (hH.free _ (Nat.le_refl _)) (hargs x' (by simp)) (hargs y' (by simp))
        exact wp_value (by simp [execOp, resolve, invoke, builtin, hr]) ⟨u, ρ', rfl, hpost.ext, hpost.hp, hpost.keep, hpost.val⟩
      · cases h
end

end Go.Ab
