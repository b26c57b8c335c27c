/-
  AN ABSTRACT MACHINE, part J: regions that draw, by all their orders: operations that only hand on values are taken first, the others in every order that is left.
-/
import Derived.Test.YthoionlldmfpiaaDoorAbI
set_option linter.unusedSimpArgs false
set_option linter.unusedVariables false
namespace Go.Ab
open Go Go.RowKit

/-- Operations that hand on values alone. -/
def pureOp : Op → Bool
  | .move _ => true
  | .assign _ => true
  | .slice _ _ _ _ none => true
  | .binOp .. => true
  | .indexAddr .. => true
  | _ => false
def pureAt (ops : Array Oper) (i : Nat) : Bool := match ops[i]? with | some o => pureOp o.op && o.guard.isNone | none => false
def okG (ops : Array Oper) (i : Nat) : Bool := match ops[i]? with | some o => o.guard.isNone | none => false
def gStep (ops : Array Oper) (i : Nat) (x acc : Option (List (List Nat))) : Option (List (List Nat)) :=
  match acc, x with
  | some A, some (σ :: L) => if okG ops i = true then some ((σ :: L).map (i :: ·) ++ A) else none
  | _, _ => none
/-- The orders. -/
def gOrd (ops : Array Oper) : Nat → Array Bool → Option (List (List Nat))
  | 0, listed => if Region.ready .any ops listed = [] then some [[]] else none
  | f + 1, listed =>
    match Region.ready .any ops listed with
    | [] => some [[]]
    | r :: rs =>
      match (r :: rs).find? (fun i => pureAt ops i && Region.free .any ops listed i) with
      | some i => match gOrd ops f (listed.setIfInBounds i true) with
        | some (σ :: L) => some ((σ :: L).map (i :: ·))
        | _ => none
      | none => (r :: rs).foldr (fun i acc => gStep ops i (gOrd ops f (listed.setIfInBounds i true)) acc) (some [])

section
variable {c : Cx} {C : Cfg} {a : Act} {ρ : Nat → Option Value} {w : World} {ops : Array Oper} {s : ASt}

theorem pure_yields (ok : CfgOk c.P C) {o : Oper} (hpo : pureOp o.op = true) (hg : o.guard = none) (hr : Rel c s a w ρ) {p : Prop} {v : AV} {H : List AO}
    (h : aop C o.op s.ev s.hp = .ok p v H) (hp : p) : H = s.hp ∧ ∃ u, Yields c.P ops o u a ∧ RV c ρ v u := by
  obtain ⟨dst, op, type, pos, after, guard⟩ := o
  simp only at hpo hg h ⊢
  subst hg
  cases op with
  | move x =>
    simp only [aop, Res.ok.injEq] at h; obtain ⟨_, rfl, rfl⟩ := h
    exact ⟨rfl, a.eval x, .inl ⟨by simp [Region.wanted], fun w => by simp [execOp]⟩, ev_ok hr x⟩
  | assign x =>
    simp only [aop, Res.ok.injEq] at h; obtain ⟨_, rfl, rfl⟩ := h
    exact ⟨rfl, a.eval x, .inl ⟨by simp [Region.wanted], fun w => by simp [execOp]⟩, ev_ok hr x⟩
  | slice T x lo hi mx =>
    cases mx with
    | some z => cases hpo
    | none =>
      have hlo : ∀ y, lo.map s.ev = some y → ∃ u, lo.map a.eval = some u ∧ RV c ρ y u := fun y hy => by
        cases lo with
        | none => cases hy
        | some z => cases hy; exact ⟨_, rfl, ev_ok hr z⟩
      have hhi : ∀ y, hi.map s.ev = some y → ∃ u, hi.map a.eval = some u ∧ RV c ρ y u := fun y hy => by
        cases hi with
        | none => cases hy
        | some z => cases hy; exact ⟨_, rfl, ev_ok hr z⟩
      obtain ⟨e, u, hru, hv⟩ := slice_okU ok h hp hr.hp (fun _ _ h => h) (ev_ok hr x) hlo (ulo := lo.map a.eval) (uhi := hi.map a.eval) (umx := none)
        (fun h => by cases lo <;> simp_all) hhi (fun h => by cases hi <;> simp_all) (fun _ => rfl)
      exact ⟨e, u, .inl ⟨by simp [Region.wanted], fun w => by simp [execOp, hru]⟩, hv⟩
  | binOp op T x y yT =>
    obtain ⟨e, u, hru, hv⟩ := bin_okU ok h hp (ev_ok hr x) (ev_ok hr y) x y
    exact ⟨e, u, .inl ⟨by simp [Region.wanted], fun w => by simp [execOp, (hru w).1, (hru w).2]⟩, hv⟩
  | indexAddr T x i =>
    obtain ⟨e, u, hru, hv⟩ := indexAddr_okU ok h hp hr.hp (fun _ _ h => h) (ev_ok hr x) (ev_ok hr i)
    exact ⟨e, u, .inl ⟨by simp [Region.wanted], fun w => by simp [execOp, hru]⟩, hv⟩
  | _ => cases hpo

/-- What an order asks. -/
def along (C : Cfg) (ops : Array Oper) (σ : List Nat) (s : ASt) (K : ASt → Prop) : Prop := aops C ops (σ.filterMap (ops[·]?)) s K
theorem along_cons {K : ASt → Prop} {i : Nat} {σ : List Nat} {o : Oper} (ho : ops[i]? = some o) (hg : o.guard = none) (h : along C ops (i :: σ) s K) :
    ∃ p v H, aop C o.op s.ev s.hp = .ok p v H ∧ p ∧ along C ops σ ((⟨s.fr, H⟩ : ASt).put o.dst v) K := by
  unfold along at h
  rw [List.filterMap_cons_some ho] at h
  unfold aops at h
  rw [hg] at h
  obtain ⟨p, v, H, h1, h2, h3⟩ := Res.run_spec h
  exact ⟨p, v, H, h1, h2, h3⟩

theorem gFold {g : Nat → Option (List (List Nat))} : ∀ (rs : List Nat) (L : List (List Nat)), rs.foldr (fun i acc => gStep ops i (g i) acc) (some []) = some L →
    ∀ i ∈ rs, ∃ o σ L', ops[i]? = some o ∧ o.guard = none ∧ g i = some (σ :: L') ∧ ∀ τ ∈ σ :: L', i :: τ ∈ L
  | [], _, _, i, hi => by cases hi
  | j :: rs, L, h, i, hi => by
    rw [List.foldr_cons] at h
    unfold gStep at h
    split at h
    · rename_i A σ L' hA hx
      split at h
      · rename_i hgd
        cases h
        rcases List.mem_cons.1 hi with rfl | hi
        · unfold okG at hgd
          split at hgd
          · rename_i o ho
            exact ⟨o, σ, L', ho, by simpa using hgd, hx, fun τ hτ => List.mem_append_left _ (List.mem_map_of_mem hτ)⟩
          · cases hgd
        · obtain ⟨o, σ', L'', h1, h2, h3, h4⟩ := gFold rs A hA i hi
          exact ⟨o, σ', L'', h1, h2, h3, fun τ hτ => List.mem_append_right _ (h4 τ hτ)⟩
      · cases h
    · cases h

theorem gOrd_ok {Q : Exit → Act → World → Prop} (ok : CfgOk c.P C) (hsel : Region.noSelect ops = true) {K : ASt → Prop} (hQ : ∀ s a w ρ, K s → Rel c s a w ρ → Q .normal a w) (hP : ∀ e a w, ¬ Q (.panic e) a w) :
    ∀ (f : Nat) (listed : Array Bool) (L : List (List Nat)) (s : ASt) (a : Act) (w : World) (ρ : Nat → Option Value), gOrd ops f listed = some L → (∀ σ ∈ L, along C ops σ s K) → Rel c s a w ρ → wpAny c.P .any ops Q f listed a w
  | 0, listed, L, s, a, w, ρ, h, hal, hr => by
    unfold gOrd at h
    split at h
    · rename_i h0
      cases h
      exact ⟨h0, hQ s a w ρ (hal [] (by simp)) hr⟩
    · cases h
  | f + 1, listed, L, s, a, w, ρ, h, hal, hr => by
    unfold gOrd at h
    split at h
    · rename_i h0
      cases h
      exact wpAny_done h0 (hQ s a w ρ (hal [] (by simp)) hr) (f + 1)
    · rename_i r rs hrs
      split at h
      · rename_i i hfind
        split at h
        · rename_i σ L' hrec
          cases h
          have hi := List.find?_some hfind
          have him := List.mem_of_find?_eq_some hfind
          rw [Bool.and_eq_true] at hi
          obtain ⟨hpa, hfree⟩ := hi
          unfold pureAt at hpa
          split at hpa
          · rename_i o ho
            rw [Bool.and_eq_true] at hpa
            have hg : o.guard = none := by simpa using hpa.2
            obtain ⟨p, v, H, h1, h2, h3⟩ := along_cons ho hg (hal (i :: σ) (by simp))
            obtain ⟨rfl, u, hy, hv⟩ := pure_yields (ops := ops) ok hpa.1 hg hr h1 h2
            refine wpAny_take ho hsel hfree (by rw [hrs]; simpa using him) (fun c a w h => absurd h (hP _ _ _)) hy ?_
            refine gOrd_ok ok hsel hQ hP f _ _ _ _ _ ρ hrec (fun τ hτ => ?_) (hr.put (fun _ _ h => h) hr.hp hr.keep hv o.dst)
            obtain ⟨p', v', H', h1', _, h3'⟩ := along_cons ho hg (hal (i :: τ) (List.mem_map_of_mem hτ))
            rw [h1] at h1'
            cases h1'
            exact h3'
          · cases hpa
        · cases h
      · refine wpAny_all hrs (by simp) fun i him => ?_
        obtain ⟨o, σ, L', ho, hg, hrec, hmem⟩ := gFold (g := fun i => gOrd ops f (listed.setIfInBounds i true)) (r :: rs) L h i him
        obtain ⟨p, v, H, h1, h2, h3⟩ := along_cons ho hg (hal _ (hmem σ (by simp)))
        unfold wpOp
        simp only [ho]
        rw [if_pos (by simp [Region.wanted, hg])]
        refine .inl (Oper.wp_mono ?_ (op_any ok h1 h2 hr.hp hr.keep (fun x _ => ev_ok hr x)))
        rintro a' w' ⟨u, ρ', rfl, he, hH, hk, hv⟩
        refine gOrd_ok ok hsel hQ hP f _ _ _ _ _ ρ' hrec (fun τ hτ => ?_) (hr.put he hH hk hv o.dst)
        obtain ⟨p', v', H', h1', _, h3'⟩ := along_cons ho hg (hal _ (hmem τ hτ))
        rw [h1] at h1'
        cases h1'
        exact h3'
end
/-- The operations of a region that draws, in all their orders. -/
theorem awp_orders {c : Cx} {C : Cfg} {s : ASt} {Q : Exit → ASt → Prop} {id : Nat} {l : List Oper} {ds : List (Option Tmp)} (L : List (List Nat)) (hL : gOrd l.toArray l.toArray.size (Array.replicate l.toArray.size false) = some L)
    (hs : Region.noSelect l.toArray = true) (hd : Dsts l ds) (h : ∀ σ ∈ L, aol C ds (σ.filterMap (l[·]?)) s (Q .normal)) : Awp c C (.region id l.toArray true) Q s := by
  refine ⟨fun ok a w ρ hr => ?_⟩
  refine Code.wp_mono (Q := fun e a' w' => e = .normal ∧ ∃ s' ρ', Q .normal s' ∧ Rel c s' a' w' ρ') (fun e a' w' h => by obtain ⟨rfl, h⟩ := h; exact h) ?_
  refine wp_region_any ok.mixed ?_
  have hr' : Rel c s a { w with drawn := w.drawn + 1 } ρ := by
    have hb : Below w.heap.size w { w with drawn := w.drawn + 1 } := (Below.refl _ _).drew
    exact ⟨hr.fr, hr.len, hr.defers, hr.hp.below hb, hr.keep.below_step hb, hr.lent⟩
  refine gOrd_ok ok hs (K := Q .normal) (fun s a w ρ h1 h2 => ⟨rfl, s, ρ, h1, h2⟩) (fun e a w h => by cases h.1) _ _ L s a _ ρ hL (fun σ hσ => ?_) hr'
  unfold along
  have e : (σ.filterMap (l.toArray[·]?)) = σ.filterMap (l[·]?) := by simp
  rw [e]
  exact aops_of (by simpa using hd.eq) _ s (h σ hσ)
inductive Pick (l : List Oper) : List Nat → List Oper → Prop where
  | nil : Pick l [] []
  | cons {i : Nat} {o : Oper} {σ : List Nat} {os : List Oper} (h : l[i]? = some o) (t : Pick l σ os) : Pick l (i :: σ) (o :: os)
theorem Pick.eq {l : List Oper} {σ : List Nat} {os : List Oper} (h : Pick l σ os) : σ.filterMap (l[·]?) = os := by
  induction h with
  | nil => rfl
  | cons h _ ih => rw [List.filterMap_cons_some h, ih]
/-- All orders' lists. -/
def Alls (C : Cfg) (ds : List (Option Tmp)) (l : List Oper) (s : ASt) (K : ASt → Prop) : List (List Nat) → Prop
  | [] => True
  | σ :: L => (∃ os, Pick l σ os ∧ aol C ds os s K) ∧ Alls C ds l s K L
theorem alls_spec {C : Cfg} {ds : List (Option Tmp)} {l : List Oper} {s : ASt} {K : ASt → Prop} : ∀ {L : List (List Nat)}, Alls C ds l s K L → ∀ σ ∈ L, aol C ds (σ.filterMap (l[·]?)) s K
  | [], _, σ, h => by cases h
  | τ :: L, h, σ, hσ => by
    rcases List.mem_cons.1 hσ with rfl | hσ
    · obtain ⟨⟨os, h1, h2⟩, _⟩ := h
      rw [h1.eq]; exact h2
    · exact alls_spec h.2 σ hσ
theorem awp_ordersK {c : Cx} {C : Cfg} {Q : Exit → ASt → Prop} {s : ASt} {id : Nat} {l : List Oper} {ds : List (Option Tmp)} (L : List (List Nat)) (hL : gOrd l.toArray l.toArray.size (Array.replicate l.toArray.size false) = some L)
    (hs : Region.noSelect l.toArray = true) (hd : Dsts l ds) (h : ∀ K : ASt → Prop, (∀ s, Q .normal s → K s) → Alls C ds l s K L) : Awp c C (.region id l.toArray true) Q s :=
  awp_orders L hL hs hd (alls_spec (h _ fun _ h => h))
end Go.Ab
