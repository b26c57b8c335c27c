/-
  AN ABSTRACT MACHINE, part D: operations that make or turn memory; calls.
-/
import Derived.Test.YthoionlldmfpiaaDoorAbC
set_option linter.unusedSimpArgs false
set_option linter.unusedVariables false
namespace Go.Ab
open Go Go.RowKit

def setρ (ρ : Nat → Option Value) (id : Nat) (x : Value) : Nat → Option Value := fun j => if j = id then some x else ρ j
theorem setρ_ext {ρ : Nat → Option Value} {id : Nat} (h : ρ id = none) (x : Value) : Ext ρ (setρ ρ id x) := fun j y hj => by
  unfold setρ; split
  · rename_i e; subst e; rw [h] at hj; cases hj
  · exact hj
theorem setρ_same (ρ : Nat → Option Value) (id : Nat) (x : Value) : setρ ρ id x id = some x := by simp [setρ]

/-- What an operation leaves. -/
structure Post (c : Cx) (ρ : Nat → Option Value) (Hf : List AO) (n n' : Nat) (v : AV) (u : Value) (w' : World) (ρ' : Nat → Option Value) : Prop where
  ext : Ext ρ ρ'
  dom : ∀ id, ρ' id ≠ none → ρ id ≠ none ∨ (n ≤ id ∧ id < n')
  hp : HR c w' ρ' Hf
  keep : Keep c w'
  val : RV c ρ' v u

theorem Post.same {c : Cx} {ρ : Nat → Option Value} {Hf : List AO} {n n' : Nat} {v : AV} {u : Value} {w : World} (hH : HR c w ρ Hf) (hk : Keep c w) (hv : RV c ρ v u) : Post c ρ Hf n n' v u w ρ :=
  ⟨fun _ _ h => h, fun _ h => .inl h, hH, hk, hv⟩

theorem HR.new {c : Cx} {w : World} {ρ : Nat → Option Value} {Hf : List AO} (hH : HR c w ρ Hf) {id : Nat} {o : AO} {x : Value} (hid : ρ id = none) (ho : Hf[id]? = some o) (ob : Obj)
    (hor : OR c (w.alloc ob) (setρ ρ id x) o x) (hbl : blk x = some w.heap.size) : HR c (w.alloc ob) (setρ ρ id x) Hf := by
  have hb : Below w.heap.size w (w.alloc ob) := (Below.refl _ _).alloc (Nat.le_refl _) _
  refine ⟨fun j y hj => ?_, fun i j y z oi oj hij hi hj hoi hoj li lj hm b hb1 hb2 => ?_⟩
  · by_cases e : j = id
    · subst e; rw [setρ_same] at hj; cases hj; exact ⟨o, ho, hor⟩
    · simp only [setρ, if_neg e] at hj
      obtain ⟨o', ho', hr⟩ := hH.obj j y hj
      exact ⟨o', ho', hr.keep (setρ_ext hid x) (by simp) (fun hl b hbl => hb.block b (hr.lt hl hbl).1)⟩
  · by_cases ei : i = id <;> by_cases ej : j = id
    · exact hij (ei.trans ej.symm)
    · subst ei; rw [setρ_same] at hi; cases hi
      simp only [setρ, if_neg ej] at hj
      obtain ⟨o', ho', hr⟩ := hH.obj j z hj
      rw [hoj] at ho'; cases ho'
      rw [hbl] at hb1; cases hb1
      have := (hr.lt lj hb2).1
      omega
    · subst ej; rw [setρ_same] at hj; cases hj
      simp only [setρ, if_neg ei] at hi
      obtain ⟨o', ho', hr⟩ := hH.obj i y hi
      rw [hoi] at ho'; cases ho'
      rw [hbl] at hb2; cases hb2
      have := (hr.lt li hb1).1
      omega
    · simp only [setρ, if_neg ei] at hi
      simp only [setρ, if_neg ej] at hj
      exact hH.sep i j y z oi oj hij hi hj hoi hoj li lj hm b hb1 hb2

/-- A new object: its block is laid at the heap's end. -/
theorem new_post {c : Cx} {w : World} {ρ : Nat → Option Value} {Hf : List AO} (hH : HR c w ρ Hf) (hk : Keep c w) {n : Nat} {o : AO} {x : Value} (hid : ρ n = none) (ho : Hf[n]? = some o) (ob : Obj)
    (hor : OR c (w.alloc ob) (setρ ρ n x) o x) (hbl : blk x = some w.heap.size) {v : AV} (hv : RV c (setρ ρ n x) v x) : Post c ρ Hf n (n + 1) v x (w.alloc ob) (setρ ρ n x) :=
  ⟨setρ_ext hid x, fun id h => by
    by_cases e : id = n
    · right; omega
    · left; simpa [setρ, if_neg e] using h, hH.new hid ho ob hor hbl, hk.below_step ((Below.refl _ _).alloc (Nat.le_refl _) _), hv⟩

theorem Ownb.size {c : Cx} {w : World} (hk : Keep c w) : Ownb c w.heap.size := .inl hk.size

theorem get_new {H : List AO} {o : AO} {Hf : List AO} (hsub : ∀ (id : Nat) (o' : AO), (H ++ [o])[id]? = some o' → Hf[id]? = some o') : Hf[H.length]? = some o := hsub _ _ (by simp)
theorem sub_left {H K Hf : List AO} (hsub : ∀ (id : Nat) (o' : AO), (H ++ K)[id]? = some o' → Hf[id]? = some o') : ∀ (id : Nat) (o : AO), H[id]? = some o → Hf[id]? = some o := fun id o h =>
  hsub id o (by rw [List.getElem?_append_left (List.getElem?_eq_some_iff.1 h).1]; exact h)

theorem box_ok {c : Cx} {T : TypeId} {x : AV} {Hf H H' : List AO} {p : Prop} {v : AV} (h : aBox T x H = .ok p v H') (hp : p)
    {ρ : Nat → Option Value} {w : World} (hH : HR c w ρ Hf) (hsub : ∀ (id : Nat) (o : AO), H'[id]? = some o → Hf[id]? = some o) (hk : Keep c w) (hdom : ρ H.length = none) {ux : Value} (hx : RV c ρ x ux) :
    H'.length = H.length + 1 ∧ ∃ u w' ρ', (Instr.box T ux).run c.P w = .ok u w' ∧ Post c ρ Hf H.length (H.length + 1) v u w' ρ' := by
  have key : ∀ (xs : List AV) (ys : List Value), RVs c ρ xs ys → ux.cells = ys.toArray → H' = H ++ [.box T xs] → v = .bp H.length 0 →
      H'.length = H.length + 1 ∧ ∃ u w' ρ', (Instr.box T ux).run c.P w = .ok u w' ∧ Post c ρ Hf H.length (H.length + 1) v u w' ρ' := by
    intro xs ys hr hc e1 e2
    subst e1 e2
    refine ⟨by simp, .pointer (some ⟨w.heap.size, 0, none⟩), w.alloc (.cells ys.toArray T), setρ ρ H.length (.pointer (some ⟨w.heap.size, 0, none⟩)), by simp [Instr.box, newVar, newRow, hc], ?_⟩
    refine new_post hH hk hdom (get_new hsub) _ ⟨w.heap.size, ys, rfl, Ownb.size hk, heap_alloc_new w _, RVs.ext (setρ_ext hdom _) _ _ hr⟩ rfl ?_
    simp only [RV]; exact ⟨_, setρ_same _ _ _, rfl⟩
  unfold aBox aNew at h
  split at h
  · simp only [Res.ok.injEq] at h; obtain ⟨rfl, rfl, rfl⟩ := h
    simp only [RV] at hx
    obtain ⟨ys, rfl, hr⟩ := hx
    exact key _ ys hr rfl rfl rfl
  · simp only [Res.ok.injEq] at h; obtain ⟨rfl, rfl, rfl⟩ := h
    exact key [x] [ux] (by simp only [RVs]; exact ⟨ux, [], rfl, hx, rfl⟩) (hx.cells hp).2 rfl rfl

theorem alloc_ok {c : Cx} {C : Cfg} (ok : CfgOk c.P C) {T : TypeId} {Hf H H' : List AO} {p : Prop} {v : AV} (h : aAlloc C.Γ T H = .ok p v H')
    {ρ : Nat → Option Value} {w : World} (hH : HR c w ρ Hf) (hsub : ∀ (id : Nat) (o : AO), H'[id]? = some o → Hf[id]? = some o) (hk : Keep c w) (hdom : ρ H.length = none) :
    H'.length = H.length + 1 ∧ ∃ u w' ρ', (Instr.alloc T true (.tuple #[])).run c.P w = .ok u w' ∧ Post c ρ Hf H.length (H.length + 1) v u w' ρ' := by
  unfold aAlloc aNew at h
  split at h <;> try cases h
  rename_i d hd
  have td := ok.types _ _ hd
  obtain ⟨i, z, hi, _, _, hz, hzc⟩ := td.info
  refine ⟨by simp, .pointer (some ⟨w.heap.size, 0, none⟩), w.alloc (.cells (d.zero.map cval).toArray T), setρ ρ H.length (.pointer (some ⟨w.heap.size, 0, none⟩)), by simp [Instr.alloc, zeroValue, typeInfo, hi, hz, newVar, newRow, hzc], ?_⟩
  refine new_post hH hk hdom (get_new hsub) _ ⟨w.heap.size, _, rfl, Ownb.size hk, heap_alloc_new w _, closed_RVs _ _ _ td.closed⟩ rfl ?_
  simp only [RV]; exact ⟨_, setρ_same _ _ _, rfl⟩

/-! ### Rows of integers -/
theorem new_row {c : Cx} {w : World} {ρ : Nat → Option Value} {Hf H : List AO} (hH : HR c w ρ Hf) (hk : Keep c w) (hdom : ρ H.length = none) {k : IntKind} {E : TypeId} {l : List Int}
    (ho : Hf[H.length]? = some (.row k E l)) {cur : Array Value} {cap : Nat} (hcap : l.length ≤ cap) (hm : cap ≤ maxLen) (hs : cap ≤ cur.size) (ht : cur.toList.take l.length = l.map (Value.int k)) :
    Post c ρ Hf H.length (H.length + 1) (.own H.length) (.slice (some ⟨w.heap.size, 0, none⟩) l.length cap) (w.alloc (.cells cur E)) (setρ ρ H.length (.slice (some ⟨w.heap.size, 0, none⟩) l.length cap)) := by
  refine new_post hH hk hdom ho _ (.inr ⟨w.heap.size, cap, cur, rfl, Ownb.size hk, heap_alloc_new w _, hcap, hm, hs, ht⟩) rfl ?_
  simp only [RV]; exact ⟨setρ_same _ _ _, _, _, _, rfl⟩

theorem rowFill_length (k : IntKind) : ∀ (parts : List (Nat × AV)) (l r : List Int) (p : Prop), aRowFill k parts l = some (p, r) → r.length = l.length
  | [], l, r, p, h => by simp [aRowFill] at h; rw [h.2]
  | (j, x) :: rest, l, r, p, h => by
    simp only [aRowFill] at h
    split at h <;> try cases h
    split at h <;> try cases h
    rename_i hr
    have := rowFill_length k rest _ _ _ hr
    simpa using this

def RPs (c : Cx) (ρ : Nat → Option Value) : List (Nat × AV) → List (Nat × Value) → Prop
  | [], vs => vs = []
  | (j, x) :: xs, vs => ∃ y ys, vs = (j, y) :: ys ∧ RV c ρ x y ∧ RPs c ρ xs ys

theorem map_set_int (k : IntKind) (l : List Int) (j : Nat) (n : Int) : (l.set j n).map (Value.int k) = (l.map (Value.int k)).set j (.int k n) := by
  simp [List.map_set]

theorem rowFill_run {c : Cx} {ρ : Nat → Option Value} (k : IntKind) : ∀ (parts : List (Nat × AV)) (ps : List (Nat × Value)) (l r : List Int) (p : Prop), aRowFill k parts l = some (p, r) → p → RPs c ρ parts ps →
    Instr.fill (fun i => some (i * 1, 1)) (l.map (Value.int k)).toArray ps = some (r.map (Value.int k)).toArray
  | [], ps, l, r, p, h, _, hr => by simp only [RPs] at hr; subst hr; simp [aRowFill] at h; simp [Instr.fill, h.2]
  | (j, x) :: rest, ps, l, r, p, h, hp, hr => by
    simp only [RPs] at hr
    obtain ⟨y, ys, rfl, hx, hr'⟩ := hr
    simp only [aRowFill] at h
    split at h <;> try cases h
    rename_i k' n hi
    split at h <;> try cases h
    rename_i p' r' hf
    obtain ⟨⟨rfl, hj⟩, hp'⟩ := hp
    obtain rfl := hx.int? hi
    have ih := rowFill_run k rest ys _ _ _ hf hp' hr'
    simp only [Instr.fill, Value.cells]
    rw [map_set_int] at ih
    have : ¬ (l.length < j + 1) := by omega
    simp [this]
    simpa using ih

/-! Rows of wider elements. -/
theorem new_rowC {c : Cx} {w : World} {ρ : Nat → Option Value} {Hf H : List AO} (hH : HR c w ρ Hf) (hk : Keep c w) (hdom : ρ H.length = none) {E : TypeId} {wd : Nat} {rs : List (List Value)}
    (ho : Hf[H.length]? = some (.rc E wd rs)) {cur : Array Value} {cap : Nat} (hr : RsOk wd rs) (hcap : rs.length ≤ cap) (hm : cap ≤ maxLen) (hs : cap * wd ≤ cur.size) (ht : cur.toList.take (rs.length * wd) = rs.flatten) :
    Post c ρ Hf H.length (H.length + 1) (.own H.length) (.slice (some ⟨w.heap.size, 0, none⟩) rs.length cap) (w.alloc (.cells cur E)) (setρ ρ H.length (.slice (some ⟨w.heap.size, 0, none⟩) rs.length cap)) := by
  refine new_post hH hk hdom ho _ (.inr ⟨w.heap.size, cap, cur, rfl, Ownb.size hk, heap_alloc_new w _, hr, hcap, hm, hs, ht⟩) rfl ?_
  simp only [RV]; exact ⟨setρ_same _ _ _, _, _, _, rfl⟩

theorem foldl_fill (off : Nat) : ∀ (vs : List Value) (k : Nat) (us : List Value), off + k + vs.length ≤ us.length →
    (vs.zipIdx k).foldl (fun (cs : Array Value) (p : Value × Nat) => cs.setIfInBounds (off + p.2) p.1) us.toArray = (us.take (off + k) ++ vs ++ us.drop (off + k + vs.length)).toArray
  | [], k, us, _ => by simp
  | v :: vs, k, us, h => by
    simp only [List.length_cons] at h
    simp only [List.zipIdx_cons, List.foldl_cons]
    rw [show us.toArray.setIfInBounds (off + k) v = (us.set (off + k) v).toArray by simp]
    rw [foldl_fill off vs (k + 1) (us.set (off + k) v) (by simp; omega)]
    congr 1
    apply List.ext_getElem?
    intro j
    simp only [List.getElem?_append, List.length_take, List.length_set, List.length_append, List.length_cons, List.getElem?_drop, List.getElem?_take, List.getElem?_set]
    have hm : min (off + (k + 1)) us.length = off + k + 1 := by omega
    have hm' : min (off + k) us.length = off + k := by omega
    rw [hm, hm']
    by_cases h1 : j < off + k
    · simp [h1, show j < off + k + 1 by omega, show j < off + k + 1 + vs.length by omega, show j < off + (k + 1) by omega, show off + k ≠ j by omega, show j < off + k + (vs.length + 1) by omega]
    · by_cases h2 : j = off + k
      · subst h2
        simp [show off + k < us.length by omega, show off + k < off + k + 1 + vs.length by omega, show off + k < off + (k + 1) by omega, show off + k < off + k + (vs.length + 1) by omega]
      · by_cases h3 : j < off + k + 1 + vs.length
        · simp [h1, h3, show ¬ j < off + k + 1 by omega, show j < off + k + (vs.length + 1) by omega, show j - (off + k) = (j - (off + k + 1)) + 1 by omega]
        · simp [h3, show ¬ j < off + k + (vs.length + 1) by omega, show off + k ≠ off + (k + 1) + vs.length + (j - (off + k + 1 + vs.length)) by omega]
          congr 1
          omega

theorem fill_step {place : Nat → Option (Nat × Nat)} {j off sz : Nat} (hp : place j = some (off, sz)) {us ys : List Value} {y : Value} (hy : y.cells = ys.toArray) (hs : sz = ys.length) (hl : off + ys.length ≤ us.length) (rest : List (Nat × Value)) :
    Instr.fill place us.toArray ((j, y) :: rest) = Instr.fill place (us.take off ++ ys ++ us.drop (off + ys.length)).toArray rest := by
  have h1 := foldl_fill off ys 0 us (by simpa using hl)
  simp only [Nat.add_zero] at h1
  have hl' : ¬ (us.length < off + ys.length) := by omega
  simp only [Instr.fill, hp, hy]
  simp [hs, hl']
  rw [List.append_assoc] at h1
  rw [← h1]

theorem mem_set_of {α : Type} {l : List α} {j : Nat} {x y : α} (h : y ∈ l.set j x) : y ∈ l ∨ y = x := by
  rw [List.mem_iff_getElem?] at h
  obtain ⟨k, hk⟩ := h
  rw [List.getElem?_set] at hk
  split at hk
  · split at hk
    · cases hk; exact .inr rfl
    · cases hk
  · exact .inl (List.mem_of_getElem? hk)
theorem rowFillC_run {c : Cx} {ρ : Nat → Option Value} (wd : Nat) : ∀ (parts : List (Nat × AV)) (ps : List (Nat × Value)) (l r : List (List Value)) (p : Prop), aRowFillC wd parts l = some (p, r) → p → RPs c ρ parts ps →
    (∀ x ∈ l, x.length = wd ∧ ∀ u ∈ x, u.oneCell' = true) →
    Instr.fill (fun i => some (i * wd, wd)) l.flatten.toArray ps = some r.flatten.toArray ∧ (∀ x ∈ r, x.length = wd ∧ ∀ u ∈ x, u.oneCell' = true) ∧ r.length = l.length
  | [], ps, l, r, p, h, _, hr, hl => by
    simp only [RPs] at hr; subst hr
    simp only [aRowFillC, Option.some.injEq, Prod.mk.injEq] at h
    obtain ⟨_, rfl⟩ := h
    exact ⟨rfl, hl, rfl⟩
  | (j, x) :: rest, ps, l, r, p, h, hp, hr, hl => by
    simp only [RPs] at hr
    obtain ⟨y, ys, rfl, hx, hr'⟩ := hr
    have step : ∀ (cells : List Value) (p' : Prop), aRowFillC wd rest (l.set j cells) = some (p', r) → p' → j < l.length → cells.length = wd → (∀ u ∈ cells, u.oneCell' = true) → y.cells = cells.toArray →
        Instr.fill (fun i => some (i * wd, wd)) l.flatten.toArray ((j, y) :: ys) = some r.flatten.toArray ∧ (∀ x ∈ r, x.length = wd ∧ ∀ u ∈ x, u.oneCell' = true) ∧ r.length = l.length := by
      intro cells p' hf hp' hj hlen h1 hc
      have hll : ∀ x ∈ l.set j cells, x.length = wd ∧ ∀ u ∈ x, u.oneCell' = true := fun x hx => by
        rcases mem_set_of hx with h | rfl
        · exact hl x h
        · exact ⟨hlen, h1⟩
      obtain ⟨i1, i2, i3⟩ := rowFillC_run wd rest ys _ _ _ hf hp' hr' hll
      have hfl := flat_len (wd := wd) (fun x hx => (hl x hx).1)
      have hle : j * wd + cells.length ≤ l.flatten.length := by
        rw [hfl, hlen, ← Nat.succ_mul]; exact Nat.mul_le_mul_right _ hj
      refine ⟨?_, i2, by rw [i3, List.length_set]⟩
      rw [fill_step (place := fun i => some (i * wd, wd)) rfl hc hlen.symm hle, ← flat_set hlen (fun x hx => (hl x hx).1) hj]
      exact i1
    unfold aRowFillC at h
    split at h
    · cases ‹_ :: _ = []›
    · rename_i j' cs rest' l' he
      cases he
      split at h <;> try cases h
      rename_i p' r' hf
      obtain ⟨⟨h1, h2, h3⟩, hp'⟩ := hp
      simp only [RV] at hx
      obtain ⟨xs, rfl, hxs⟩ := hx
      obtain ⟨rfl, h4⟩ := hxs.one h3
      exact step _ _ hf hp' h1 (by simpa using h2) h4 rfl
    · rename_i j' x' rest' l' hne he
      cases he
      split at h <;> try cases h
      rename_i p' r' hf
      obtain ⟨⟨h1, h2, h3⟩, hp'⟩ := hp
      obtain ⟨rfl, h4, h5⟩ := hx.one h3
      exact step _ _ hf hp' h1 (by rw [h2]; rfl) (by simpa using h4) h5
theorem rep_cells {zs : List Value} {n wd : Nat} (hz : zs.length = wd) (hw : 0 < wd) :
    (Array.range (n * wd)).map (fun j => zs.toArray[j % zs.toArray.size]!) = (List.replicate n zs).flatten.toArray := by
  have hu : ∀ r ∈ List.replicate n zs, r.length = wd := fun r hr => by rw [(List.mem_replicate.1 hr).2]; exact hz
  have hl := flat_len (wd := wd) hu
  rw [List.length_replicate] at hl
  apply Array.ext
  · rw [Array.size_map, Array.size_range, List.size_toArray, hl]
  · intro j h1 h2
    rw [Array.size_map, Array.size_range] at h1
    have hm : j % wd < wd := Nat.mod_lt _ hw
    have hd : j / wd < n := (Nat.div_lt_iff_lt_mul hw).2 h1
    have h3 := flat_at (rs := List.replicate n zs) (j := j / wd) (f := j % wd) hu (by rw [List.length_replicate]; exact hd) hm
    rw [Nat.div_add_mod' j wd] at h3
    rw [List.getElem?_eq_getElem (by omega)] at h3
    rw [Array.getElem_map, Array.getElem_range, List.size_toArray, hz, List.getElem_toArray]
    rw [Option.some.inj h3]
    have e : (List.replicate n zs).getD (j / wd) [] = zs := by
      rw [List.getD_eq_getElem?_getD, List.getElem?_eq_getElem (by rw [List.length_replicate]; exact hd), List.getElem_replicate]; rfl
    rw [e, List.getD_eq_getElem?_getD, List.getElem?_eq_getElem (by omega), getElem!_pos _ _ (by rw [List.size_toArray, hz]; exact hm)]
    rfl
theorem buildSliceC_ok {c : Cx} {C : Cfg} (ok : CfgOk c.P C) {T : TypeId} {n : Nat} {parts : List (Nat × AV)} {Hf H H' : List AO} {p : Prop} {v : AV}
    (h : (match elemC C.Γ T with
      | some (E, wd, _, z) => match aRowFillC wd parts (List.replicate n z) with
        | some (p, rs) => Res.ok (p ∧ 0 < wd ∧ z.length = wd ∧ z.all Value.oneCell' = true ∧ n * wd ≤ 16777216) (.own H.length) (H ++ [AO.rc E wd rs])
        | none => .bad
      | none => .bad) = .ok p v H') (hp : p)
    {ρ : Nat → Option Value} {w : World} (hH : HR c w ρ Hf) (hsub : ∀ (id : Nat) (o : AO), H'[id]? = some o → Hf[id]? = some o) (hk : Keep c w) (hdom : ρ H.length = none)
    {ps : Array (Nat × Value)} (hx : RPs c ρ parts ps.toList) :
    H'.length = H.length + 1 ∧ ∃ u w' ρ', (Instr.buildSlice T n ps).run c.P w = .ok u w' ∧ Post c ρ Hf H.length (H.length + 1) v u w' ρ' := by
  split at h <;> try cases h
  rename_i E wd bt zs hc
  split at h <;> try cases h
  rename_i p' rs hl
  obtain ⟨hp1, hw, hzl, hz1, hp2⟩ := hp
  obtain ⟨hu, i, z, hi, hs, hb, hz, hzc, _⟩ := elemC_spec ok hc
  obtain ⟨hrun, hrs, hlen⟩ := rowFillC_run wd parts ps.toList _ _ _ hl hp1 hx (fun x hx => by
    rw [(List.mem_replicate.1 hx).2]; exact ⟨hzl, fun u hu => List.all_eq_true.1 hz1 u hu⟩)
  rw [List.length_replicate] at hlen
  have hfl := flat_len (wd := wd) (fun x hx => (hrs x hx).1)
  have hbig : ¬ (16777216 < n * wd) := by omega
  have hcap : n ≤ 16777216 := Nat.le_trans (Nat.le_mul_of_pos_right _ hw) hp2
  refine ⟨by simp, .slice (some ⟨w.heap.size, 0, none⟩) rs.length n, w.alloc (.cells rs.flatten.toArray E), setρ ρ H.length _, ?_,
    new_rowC hH hk hdom (get_new hsub) ⟨hw, hrs⟩ (by omega) (by unfold maxLen; omega) (by rw [List.size_toArray, hfl, hlen]; exact Nat.le_refl _) (by rw [List.take_of_length_le (by rw [hfl]; exact Nat.le_refl _)])⟩
  rw [← rep_cells hzl hw] at hrun
  by_cases h0 : n * wd = 0
  · have h00 : n = 0 := by
      rcases Nat.mul_eq_zero.1 h0 with h | h
      · exact h
      · omega
    subst h00
    simp only [Nat.zero_mul] at hrun
    have hr0 : (Array.range 0).map (fun j => zs.toArray[j % zs.toArray.size]!) = (#[] : Array Value) := by simp
    rw [hr0] at hrun
    have hr1 : (Array.range 0).map (fun _ => (default : Value)) = (#[] : Array Value) := by simp
    simp [Instr.buildSlice, run_underlying hu, sizeOf, typeInfo, hi, hs] at hrun ⊢
    simp [hr1, hrun, newRow, hlen]
  · simp [Instr.buildSlice, run_underlying hu, sizeOf, typeInfo, hi, hs, hbig, h0, zeroValue, hz, hzc] at hrun ⊢
    simp [hrun, newRow, hlen]

theorem buildSlice_ok {c : Cx} {C : Cfg} (ok : CfgOk c.P C) {T : TypeId} {n : Nat} {parts : List (Nat × AV)} {Hf H H' : List AO} {p : Prop} {v : AV} (h : aBuildSlice C.Γ T n parts H = .ok p v H') (hp : p)
    {ρ : Nat → Option Value} {w : World} (hH : HR c w ρ Hf) (hsub : ∀ (id : Nat) (o : AO), H'[id]? = some o → Hf[id]? = some o) (hk : Keep c w) (hdom : ρ H.length = none)
    {ps : Array (Nat × Value)} (hx : RPs c ρ parts ps.toList) :
    H'.length = H.length + 1 ∧ ∃ u w' ρ', (Instr.buildSlice T n ps).run c.P w = .ok u w' ∧ Post c ρ Hf H.length (H.length + 1) v u w' ρ' := by
  unfold aBuildSlice aNew at h
  split at h
  rotate_left
  · exact buildSliceC_ok ok h hp hH hsub hk hdom hx
  rename_i E k bt he
  split at h <;> try cases h
  rename_i p' l hl
  obtain ⟨hp1, hp2⟩ := hp
  obtain ⟨hu, huE, i, hi, hs, hb, hz⟩ := elemOf_spec ok he
  have hlen : l.length = n := by rw [rowFill_length k _ _ _ _ hl]; simp
  have hrun := rowFill_run k parts ps.toList _ _ _ hl hp1 hx
  have hcell : (Array.range (n * 1)).map (fun j => (if n * 1 = 0 then (#[] : Array Value) else #[.int k 0])[j % (if n * 1 = 0 then (#[] : Array Value) else #[.int k 0]).size]!) = ((List.replicate n (0 : Int)).map (Value.int k)).toArray := by
    apply Array.ext
    · simp
    · intro j h1 h2
      have : n ≠ 0 := by simp at h1; omega
      simp [this, Nat.mod_one]
  have hbig : ¬ (16777216 < n) := by omega
  refine ⟨by simp, .slice (some ⟨w.heap.size, 0, none⟩) l.length n, w.alloc (.cells (l.map (Value.int k)).toArray E), setρ ρ H.length _, ?_, new_row hH hk hdom (get_new hsub) (by omega) (by unfold maxLen; omega) (by simp; omega) (by rw [List.take_of_length_le (by simp)])⟩
  rw [← hcell] at hrun
  by_cases h0 : n = 0
  · subst h0
    simp [Instr.buildSlice, run_underlying hu, sizeOf, typeInfo, hi, hs] at hrun ⊢
    simp [hrun, newRow, hlen]
  · simp [Instr.buildSlice, run_underlying hu, sizeOf, typeInfo, hi, hs, hbig, h0, zeroValue, hz, Value.cells] at hrun ⊢
    simp [hrun, newRow, hlen]

theorem makeSlice_ok {c : Cx} {C : Cfg} (ok : CfgOk c.P C) {T : TypeId} {x y : AV} {Hf H H' : List AO} {p : Prop} {v : AV} (h : aMakeSlice C.Γ T x y H = .ok p v H') (hp : p)
    {ρ : Nat → Option Value} {w : World} (hH : HR c w ρ Hf) (hsub : ∀ (id : Nat) (o : AO), H'[id]? = some o → Hf[id]? = some o) (hk : Keep c w) (hdom : ρ H.length = none)
    {ux uy : Value} (hx : RV c ρ x ux) (hy : RV c ρ y uy) :
    H'.length = H.length + 1 ∧ ∃ u w' ρ', (Instr.makeSlice T ux uy).run c.P w = .ok u w' ∧ Post c ρ Hf H.length (H.length + 1) v u w' ρ' := by
  unfold aMakeSlice aNew at h
  split at h
  rotate_left
  · rename_i n m he
    split at h <;> try cases h
    rename_i E wd bt zs hc
    obtain ⟨h0, hnm, hw, hzl, hz1, h1, h2⟩ := hp
    simp only [RV] at hx hy; subst hx hy
    obtain ⟨hu, i, z, hi, hs, hb, hz, hzc, _⟩ := elemC_spec ok hc
    have hrun := run_make (P := c.P) w T E i _ hu hi hz .i64 .i64 n m h0 hnm (by
      have : (i.bytes : Int) ≤ 64 := by omega
      have h3 : (i.bytes : Int) * m ≤ 64 * m := Int.mul_le_mul_of_nonneg_right this (by omega)
      omega) (by omega)
    have hcl : madeCells z.cells (m.toNat * i.size) = (List.replicate m.toNat zs).flatten.toArray := by
      rw [← rep_cells hzl hw, hs, hzc]; rfl
    rw [hcl] at hrun
    have hl : (List.replicate n.toNat zs).length = n.toNat := by simp
    have hrs : ∀ n, ∀ x ∈ List.replicate n zs, x.length = wd ∧ ∀ u ∈ x, u.oneCell' = true := fun n x hx => by
      rw [(List.mem_replicate.1 hx).2]; exact ⟨hzl, fun u hu => List.all_eq_true.1 hz1 u hu⟩
    have hfl : ∀ n, (List.replicate n zs).flatten.length = n * wd := fun n => by
      have := flat_len (wd := wd) (fun x hx => (hrs n x hx).1)
      rwa [List.length_replicate] at this
    have hsp : (List.replicate m.toNat zs).flatten = (List.replicate n.toNat zs).flatten ++ (List.replicate (m.toNat - n.toNat) zs).flatten := by
      rw [← List.flatten_append, List.replicate_append_replicate]; congr 2; omega
    refine ⟨by simp, _, _, setρ ρ H.length (.slice (some ⟨w.heap.size, 0, none⟩) n.toNat m.toNat), hrun, ?_⟩
    have := new_rowC (E := E) hH hk hdom (get_new hsub) (cur := (List.replicate m.toNat zs).flatten.toArray) (cap := m.toNat) ⟨hw, hrs n.toNat⟩ (by rw [hl]; omega) (by unfold maxLen; omega) (by rw [List.size_toArray, hfl]; exact Nat.le_refl _) (by rw [hl, hsp, List.take_left' (hfl _)])
    rw [hl] at this
    exact this
  · cases h
  rename_i E k bt n m he
  cases h
  obtain ⟨h0, rfl, h1, h2⟩ := hp
  simp only [RV] at hx hy; subst hx hy
  obtain ⟨hu, huE, i, hi, hs, hb, hz⟩ := elemOf_spec ok he
  have hrun := run_make (P := c.P) w T E i _ hu hi hz .i64 .i64 n n h0 (Int.le_refl _) (by
    have : (i.bytes : Int) ≤ 8 := by omega
    have h3 : (i.bytes : Int) * n ≤ 8 * n := Int.mul_le_mul_of_nonneg_right this h0
    omega) (by omega)
  have hc : madeCells (Value.int k 0).cells (n.toNat * i.size) = ((List.replicate n.toNat (0 : Int)).map (Value.int k)).toArray := by
    unfold madeCells
    apply Array.ext
    · simp [hs]
    · intro j h1 h2
      simp [Value.cells, Nat.mod_one]
  rw [hc] at hrun
  have hl : (List.replicate n.toNat (0 : Int)).length = n.toNat := by simp
  refine ⟨by simp, _, _, setρ ρ H.length (.slice (some ⟨w.heap.size, 0, none⟩) n.toNat n.toNat), hrun, ?_⟩
  have := new_row hH hk hdom (get_new hsub) (cur := ((List.replicate n.toNat (0 : Int)).map (Value.int k)).toArray) (cap := n.toNat) (by simp) (by unfold maxLen; omega) (by simp) (by rw [List.take_of_length_le (by simp)])
  rw [hl] at this
  exact this

/-! ### Struct literals -/
theorem part_fill {c : Cx} {ρ : Nat → Option Value} {off : Nat} {zs cs : List AV} {us ys : List Value} (hz : RVs c ρ zs us) (hc : RVs c ρ cs ys) :
    RVs c ρ (zs.take off ++ cs ++ zs.drop (off + cs.length)) (us.take off ++ ys ++ us.drop (off + ys.length)) := by
  have := hc.length
  rw [this]
  exact ((hz.take off).append hc).append (hz.drop _)

theorem aFill_run {c : Cx} {C : Cfg} (ok : CfgOk c.P C) {ρ : Nat → Option Value} {fs : List (Nat × TypeId)} {place : Nat → Option (Nat × Nat)}
    (hpl : ∀ (j off : Nat) (ft : TypeId) (fd : TD), fs[j]? = some (off, ft) → C.Γ ft = some fd → place j = some (off, fd.size)) :
    ∀ (parts : List (Nat × AV)) (ps : List (Nat × Value)) (zs r : List AV) (p : Prop) (us : List Value), aFill C.Γ fs parts zs = some (p, r) → p → RPs c ρ parts ps → RVs c ρ zs us →
      ∃ us', Instr.fill place us.toArray ps = some us'.toArray ∧ RVs c ρ r us'
  | [], ps, zs, r, p, us, h, _, hr, hz => by
    simp only [RPs] at hr; subst hr
    simp only [aFill, Option.some.injEq, Prod.mk.injEq] at h
    obtain ⟨_, rfl⟩ := h
    exact ⟨us, rfl, hz⟩
  | (j, x) :: rest, ps, zs, r, p, us, h, hp, hr, hz => by
    simp only [RPs] at hr
    obtain ⟨y, ys, rfl, hx, hr'⟩ := hr
    simp only [aFill] at h
    split at h <;> try cases h
    rename_i off ft hj
    split at h <;> try cases h
    rename_i fd hfd
    have hzl := hz.length
    split at h
    · rename_i cs
      split at h <;> try cases h
      rename_i p' r' hf
      obtain ⟨⟨h1, h2⟩, hp'⟩ := hp
      simp only [RV] at hx
      obtain ⟨xs, rfl, hxs⟩ := hx
      have hxl := hxs.length
      rw [fill_step (hpl j off ft fd hj hfd) (ys := xs) rfl (by omega) (by omega)]
      exact aFill_run ok hpl rest ys _ _ _ _ hf hp' hr' (part_fill hz hxs)
    · split at h <;> try cases h
      rename_i p' r' hf
      obtain ⟨⟨h1, h2, h3⟩, hp'⟩ := hp
      have hcl := (hx.cells h3).2
      rw [fill_step (hpl j off ft fd hj hfd) (ys := [y]) hcl h1 (by simp; omega)]
      have : us.take off ++ [y] ++ us.drop (off + [y].length) = us.set off y := by
        rw [List.set_eq_take_append_cons_drop, if_pos (by omega)]
        simp
      rw [this]
      exact aFill_run ok hpl rest ys _ _ _ _ hf hp' hr' (hz.upd hx off)

theorem mapM_places {P : Program} : ∀ (fields : List Field), (∀ f ∈ fields, ∃ i, P.info? f.type = some i) →
    ∃ places, fields.mapM (fun f => (P.info? f.type).map fun i => (f.offset, i.size)) = some places ∧ ∀ (j : Nat) (f : Field) (i : TypeInfo), fields[j]? = some f → P.info? f.type = some i → places[j]? = some (f.offset, i.size)
  | [], _ => ⟨[], rfl, fun j f i h => by simp at h⟩
  | f :: fs, h => by
    obtain ⟨i, hi⟩ := h f (by simp)
    obtain ⟨pl, h1, h2⟩ := mapM_places fs (fun g hg => h g (by simp [hg]))
    refine ⟨(f.offset, i.size) :: pl, by simp [List.mapM_cons, hi, h1], fun j g i' hj hi' => ?_⟩
    cases j with
    | zero => simp at hj; subst hj; rw [hi] at hi'; cases hi'; rfl
    | succ j => simpa using h2 j g i' (by simpa using hj) hi'

theorem build_ok {c : Cx} {C : Cfg} (ok : CfgOk c.P C) {T : TypeId} {parts : List (Nat × AV)} {H H' : List AO} {p : Prop} {v : AV} (h : aBuild C.Γ T parts H = .ok p v H') (hp : p)
    {ρ : Nat → Option Value} {ps : Array (Nat × Value)} (hx : RPs c ρ parts ps.toList) (w : World) :
    H' = H ∧ ∃ u, (Instr.build T ps).run c.P w = .ok u w ∧ RV c ρ v u := by
  unfold aBuild at h
  split at h <;> try cases h
  rename_i fs sz bt z hT
  split at h <;> try cases h
  rename_i p' r hf
  have td := ok.types _ _ hT
  obtain ⟨fields, hu, hfs⟩ := KdOk.struct td rfl
  obtain ⟨i, zv, hi, _, _, hz, hzc⟩ := td.info
  obtain ⟨places, hpl, hplj⟩ := mapM_places (P := c.P) fields.toList (fun f hf => by
    obtain ⟨i, hi⟩ := td.fsz fs rfl (f.offset, f.type) (by rw [← hfs]; exact List.mem_map.2 ⟨f, hf, rfl⟩)
    exact ⟨i, hi⟩)
  obtain ⟨us', hfill, hr⟩ := aFill_run ok (ρ := ρ) (place := (places.toArray[·]?)) (fs := fs) (fun j off ft fd hj hfd => by
    obtain ⟨f, hf, rfl, rfl⟩ := field_get hfs hj
    obtain ⟨i', _, hi', hs', _⟩ := (ok.types _ _ hfd).info
    have := hplj j f i' (by simpa using hf) hi'
    simpa [hs'] using this) parts ps.toList _ _ _ _ hf hp hx (closed_RVs c ρ z td.closed)
  refine ⟨rfl, .agg us'.toArray, run_build w T ps us'.toArray ?_, by simp only [RV]; exact ⟨us', rfl, hr⟩⟩
  unfold Program.built
  simp only [hi, hu, hz, hpl, hzc]
  exact hfill

/-! ### Stores -/
theorem setRow_other (w : World) (g : Nat) (cs : Array Value) {k : Nat} (h : k ≠ g) : (w.setRow g cs).heap[k]? = w.heap[k]? := by
  simp only [World.setRow, Array.getElem?_modify]
  rw [if_neg (fun e => h e.symm)]

/-- One object is turned in place: its block alone is written. -/
theorem HR.turn {c : Cx} {w w' : World} {ρ : Nat → Option Value} {H : List AO} (hH : HR c w ρ H) {id : Nat} {o o' : AO} {x : Value} {g : Nat} (hid : H[id]? = some o) (hx : ρ id = some x) (hg : blk x = some g)
    (hm : o.mut = true) (hm' : o'.mut = true) (hs : w.heap.size ≤ w'.heap.size) (hb : ∀ k, k ≠ g → w'.heap[k]? = w.heap[k]?) (hor : OR c w' ρ o' x) : HR c w' ρ (H.set id o') := by
  have hlt : id < H.length := (List.getElem?_eq_some_iff.1 hid).1
  have live : o.live = true := by cases o <;> simp_all [AO.mut, AO.live]
  have live' : o'.live = true := by cases o' <;> simp_all [AO.mut, AO.live]
  have hget : (H.set id o')[id]? = some o' := by simp [hlt]
  have hoth : ∀ j, j ≠ id → (H.set id o')[j]? = H[j]? := fun j hj => by rw [List.getElem?_set_ne (Ne.symm hj)]
  refine ⟨fun j y hj => ?_, fun i j y z oi oj hij hi hj hoi hoj li lj hmm b hb1 hb2 => ?_⟩
  · by_cases e : j = id
    · subst e; rw [hx] at hj; cases hj; exact ⟨o', hget, hor⟩
    · obtain ⟨o2, ho2, hr⟩ := hH.obj j y hj
      refine ⟨o2, by rw [hoth j e]; exact ho2, hr.keep (fun _ _ h => h) hs fun hl b hbl => hb b fun eb => ?_⟩
      subst eb
      exact hH.sep id j x y o o2 (Ne.symm e) hx hj hid ho2 live hl (.inl hm) b hg hbl
  · by_cases ei : i = id <;> by_cases ej : j = id
    · exact hij (ei.trans ej.symm)
    · subst ei; rw [hx] at hi; cases hi; rw [hoth j ej] at hoj
      exact hH.sep i j x z o oj hij hx hj hid hoj live lj (.inl hm) b hb1 hb2
    · subst ej; rw [hx] at hj; cases hj; rw [hoth i ei] at hoi
      exact hH.sep i j y x oi o hij hi hx hoi hid li live (.inr hm) b hb1 hb2
    · rw [hoth i ei] at hoi; rw [hoth j ej] at hoj
      exact hH.sep i j y z oi oj hij hi hj hoi hoj li lj hmm b hb1 hb2

theorem run_storeVar {P : Program} {T : TypeId} {d : TD} (td : TdOk P T d) {w : World} {b off : Nat} {T' : TypeId} {xs ys : List Value} {u : Value} (hg : w.heap[b]? = some (.cells xs.toArray T' (0, 0)))
    (hc : u.cells = ys.toArray) (hs : d.size = ys.length) (hl : off + ys.length ≤ xs.length) (h1 : ∀ v ∈ ys, v.oneCell' = true) :
    (storeVar T ⟨b, off, none⟩ u).run P w = .ok () (w.setRow b (xs.take off ++ ys ++ xs.drop (off + ys.length)).toArray) := by
  have hst := run_storeCells_at P b off T' ys 0 xs.toArray w hg (by simpa using hl) h1
  simp only [Nat.add_zero] at hst
  have hs' : ys.length = d.size := hs.symm
  simp [storeVar, hc, run_sizeOf td, hs', hst]

theorem setRow_at {w : World} {g : Nat} {cs cs' : Array Value} {T : TypeId} {fz : Nat × Nat} (hg : w.heap[g]? = some (.cells cs T fz)) : (w.setRow g cs').heap[g]? = some (.cells cs' T fz) := setRow_heap w g cs cs' T fz hg

theorem setRow_keep {c : Cx} {w : World} (hk : Keep c w) {b : Nat} (ho : Ownb c b) (cs : Array Value) : Keep c (w.setRow b cs) :=
  hk.step rfl rfl rfl (by simp) fun k _ hn => setRow_other w b cs (fun e => hn (e ▸ ho))

theorem RVs.cellsOk {c : Cx} {ρ : Nat → Option Value} : ∀ {vs : List AV} {ys : List Value}, RVs c ρ vs ys → vs.all AV.cellOk = true → ∀ v ∈ ys, v.oneCell' = true
  | [], _, h, _ => by simp only [RVs] at h; subst h; simp
  | x :: xs, _, h, ha => by
    simp only [RVs] at h; obtain ⟨y, ys, rfl, h1, h2⟩ := h
    simp only [List.all_cons, Bool.and_eq_true] at ha
    intro v hv
    rcases List.mem_cons.1 hv with rfl | hv
    · exact (h1.cells ha.1).1
    · exact RVs.cellsOk h2 ha.2 v hv

theorem store_ok {c : Cx} {C : Cfg} (ok : CfgOk c.P C) {T : TypeId} {x y : AV} {H H' : List AO} {p : Prop} {v : AV} (h : aStore (C.Γ T) x y H = .ok p v H') (hp : p)
    {ρ : Nat → Option Value} {w : World} (hH : HR c w ρ H) (hk : Keep c w) {ux uy : Value} (hx : RV c ρ x ux) (hy : RV c ρ y uy) :
    v = .un ∧ ∃ w', (Instr.storeAt T ux uy).run c.P w = .ok () w' ∧ HR c w' ρ H' ∧ Keep c w' := by
  unfold aStore at h
  split at h
  · cases h
  rename_i d hd
  have td := ok.types _ _ hd
  split at h
  · rename_i id off vs ha
    split at h <;> try cases h
    rename_i T' cs hid
    obtain ⟨h1, h2, h3⟩ := hp
    simp only [RV] at hx hy
    obtain ⟨b, hρ, rfl⟩ := hx
    obtain ⟨ys, rfl, hys⟩ := hy
    obtain ⟨b', xs, hb, hob, hg, hrs⟩ := hH.get (fun _ _ h => h) hid hρ
    simp only [Value.pointer.injEq, Option.some.injEq, Addr.mk.injEq, and_true] at hb
    obtain rfl := hb
    have l1 := hys.length
    have l2 := hrs.length
    have hr := run_storeVar td hg (off := off) (u := .agg ys.toArray) (ys := ys) rfl (by omega) (by omega) (hys.cellsOk h3)
    refine ⟨rfl, _, by simp only [Instr.storeAt, Instr.sureAddr, Sem.run_bind, Sem.run_pure, Result.andThen_ok]; exact hr, ?_, setRow_keep hk hob _⟩
    exact hH.turn hid hρ (g := b) rfl rfl rfl (by simp) (fun k hk => setRow_other w b _ hk) ⟨b, _, rfl, hob, setRow_at hg, part_fill hrs hys⟩
  · rename_i id k ha
    split at h <;> try cases h
    rename_i kd E l kd' n hid hi
    obtain ⟨h1, rfl, h3⟩ := hp
    obtain rfl := hy.int? hi
    simp only [RV] at hx
    obtain ⟨b, n', cap, hρ, rfl⟩ := hx
    rcases hH.get (fun _ _ h => h) hid hρ with ⟨hb, _⟩ | ⟨b', cap', cur, hb, hob, hg, hlc, hm, hs, ht⟩
    · simp at hb
    simp only [Value.slice.injEq, Option.some.injEq, Addr.mk.injEq, and_true] at hb
    obtain ⟨rfl, rfl, rfl⟩ := hb
    have hg' : w.heap[b]? = some (.cells cur.toList.toArray E (0, 0)) := by simpa using hg
    have hr := run_storeVar td hg' (off := k) (u := .int kd n) (ys := [.int kd n]) rfl h1 (by simp; omega) (by simp [Value.oneCell'])
    refine ⟨rfl, _, by simp only [Instr.storeAt, Instr.sureAddr, Sem.run_bind, Sem.run_pure, Result.andThen_ok]; exact hr, ?_, setRow_keep hk hob _⟩
    have hset : cur.toList.take k ++ [.int kd n] ++ cur.toList.drop (k + [Value.int kd n].length) = cur.toList.set k (.int kd n) := by
      rw [List.set_eq_take_append_cons_drop, if_pos (by simp; omega)]
      simp
    rw [hset]
    refine hH.turn hid hρ (g := b) rfl rfl rfl (by simp) (fun k hk => setRow_other w b _ hk) (.inr ⟨b, cap, _, by simp, hob, setRow_at hg, by simpa using hlc, hm, by simpa using hs, ?_⟩)
    simp only [List.length_set, map_set_int]
    rw [← ht, List.take_set]
  · rename_i id off ha
    split at h <;> try cases h
    rename_i T' cs hid
    obtain ⟨h1, h2, h3⟩ := hp
    simp only [RV] at hx
    obtain ⟨b, hρ, rfl⟩ := hx
    obtain ⟨b', xs, hb, hob, hg, hrs⟩ := hH.get (fun _ _ h => h) hid hρ
    simp only [Value.pointer.injEq, Option.some.injEq, Addr.mk.injEq, and_true] at hb
    obtain rfl := hb
    have l2 := hrs.length
    have hcl := hy.cells h3
    have hr := run_storeVar td hg (off := off) (u := uy) (ys := [uy]) hcl.2 h1 (by simp; omega) (by simpa using hcl.1)
    refine ⟨rfl, _, by simp only [Instr.storeAt, Instr.sureAddr, Sem.run_bind, Sem.run_pure, Result.andThen_ok]; exact hr, ?_, setRow_keep hk hob _⟩
    have hset : xs.take off ++ [uy] ++ xs.drop (off + [uy].length) = xs.set off uy := by
      rw [List.set_eq_take_append_cons_drop, if_pos (by omega)]
      simp
    rw [hset]
    exact hH.turn hid hρ (g := b) rfl rfl rfl (by simp) (fun k hk => setRow_other w b _ hk) ⟨b, _, rfl, hob, setRow_at hg, hrs.upd hy off⟩
  · rename_i id wd j f ha
    split at h <;> try cases h
    rename_i E wd' rs u hid hi
    obtain ⟨h1, rfl, hj, hf⟩ := hp
    obtain ⟨rfl, hu1, huc⟩ := hy.val? hi
    simp only [RV] at hx
    obtain ⟨b, n', cap, hρ, rfl⟩ := hx
    rcases hH.get (fun _ _ h => h) hid hρ with ⟨hb, _⟩ | ⟨b', cap', cur, hb, hob, hg, ⟨hw, hrs⟩, hlc, hm, hs, ht⟩
    · simp at hb
    simp only [Value.slice.injEq, Option.some.injEq, Addr.mk.injEq, and_true] at hb
    obtain ⟨rfl, rfl, rfl⟩ := hb
    have hru := fun r hr => (hrs r hr).1
    have hle : j * wd + f + 1 ≤ cur.size := by
      have h2 : (j + 1) * wd ≤ cap * wd := Nat.mul_le_mul_right _ (by omega)
      rw [Nat.succ_mul] at h2; omega
    have hg' : w.heap[b]? = some (.cells cur.toList.toArray E (0, 0)) := by simpa using hg
    have hr := run_storeVar td hg' (off := j * wd + f) (u := uy) (ys := [uy]) huc h1 (by simpa using hle) (by simpa using hu1)
    refine ⟨rfl, _, by simp only [Instr.storeAt, Instr.sureAddr, Sem.run_bind, Sem.run_pure, Result.andThen_ok]; exact hr, ?_, setRow_keep hk hob _⟩
    have hset : cur.toList.take (j * wd + f) ++ [uy] ++ cur.toList.drop (j * wd + f + [uy].length) = cur.toList.set (j * wd + f) uy := by
      rw [List.set_eq_take_append_cons_drop, if_pos (by rw [Array.length_toList]; omega)]
      simp
    rw [hset]
    have hrow := flat_row hru hj
    refine hH.turn hid hρ (g := b) rfl rfl rfl (by simp) (fun k hk => setRow_other w b _ hk) (.inr ⟨b, cap, _, by simp, hob, setRow_at hg, ⟨hw, fun r hr => ?_⟩, by simpa using hlc, hm, by simpa using hs, ?_⟩)
    · rcases mem_set_of hr with h | rfl
      · exact hrs r h
      · refine ⟨by rw [List.length_set, hrow], fun v hv => ?_⟩
        rcases mem_set_of hv with h | rfl
        · exact (hrs (rs.getD j []) (by rw [List.getD_eq_getElem?_getD, List.getElem?_eq_getElem hj]; exact List.getElem_mem _)).2 v h
        · exact hu1
    · rw [flat_setc hru hj hf, List.length_set, ← ht, List.take_set]
  · cases h

/-! ### append -/
theorem HR.push {c : Cx} {w w' : World} {ρ : Nat → Option Value} {H H1 : List AO} (hH : HR c w ρ H) (hdom : ρ H.length = none) (hlen : H1.length = H.length)
    (hsub : ∀ (j : Nat) (o : AO), H1[j]? = some o → o.live = true → H[j]? = some o) {o' : AO} {u : Value} (hs : w.heap.size ≤ w'.heap.size)
    (hb : ∀ (j : Nat) (y : Value) (o : AO) (b : Nat), ρ j = some y → H1[j]? = some o → o.live = true → blk y = some b → w'.heap[b]? = w.heap[b]?)
    (hor : OR c w' (setρ ρ H.length u) o' u)
    (hsep : ∀ (j : Nat) (y : Value) (o : AO) (b : Nat), ρ j = some y → H1[j]? = some o → o.live = true → blk y = some b → blk u ≠ some b) :
    HR c w' (setρ ρ H.length u) (H1 ++ [o']) := by
  have hnew : (H1 ++ [o'])[H.length]? = some o' := by rw [← hlen]; simp
  have hold : ∀ j, j ≠ H.length → (∀ y, setρ ρ H.length u j = some y → ρ j = some y ∧ j < H.length) ∧ (j < H.length → (H1 ++ [o'])[j]? = H1[j]?) := fun j hj => by
    refine ⟨fun y hy => ?_, fun hl => List.getElem?_append_left (by omega)⟩
    simp only [setρ, if_neg hj] at hy
    obtain ⟨o, ho, _⟩ := hH.obj j y hy
    exact ⟨hy, (List.getElem?_eq_some_iff.1 ho).1⟩
  refine ⟨fun j y hj => ?_, fun i j y z oi oj hij hi hj hoi hoj li lj hmm b hb1 hb2 => ?_⟩
  · by_cases e : j = H.length
    · subst e; rw [setρ_same] at hj; cases hj; exact ⟨o', hnew, hor⟩
    · obtain ⟨hy, hl⟩ := (hold j e).1 y hj
      obtain ⟨o2, ho2, hr⟩ := hH.obj j y hy
      have h1 : H1[j]? = some H1[j] := List.getElem?_eq_getElem (by omega)
      refine ⟨H1[j], by rw [(hold j e).2 hl]; exact h1, ?_⟩
      by_cases lv : H1[j].live = true
      · have := hsub j _ h1 lv
        rw [ho2] at this
        have e2 : o2 = H1[j] := by simpa using this
        rw [← e2]
        exact hr.keep (setρ_ext hdom u) hs fun hl' b hbl => hb j y _ b hy h1 lv hbl
      · have : H1[j] = .dead := by cases h : H1[j] <;> simp_all [AO.live]
        rw [this]; trivial
  · by_cases ei : i = H.length <;> by_cases ej : j = H.length
    · exact hij (ei.trans ej.symm)
    · subst ei; rw [setρ_same] at hi; cases hi
      obtain ⟨hz, hl⟩ := (hold j ej).1 z hj
      rw [(hold j ej).2 hl] at hoj
      exact hsep j z oj b hz hoj lj hb2 hb1
    · subst ej; rw [setρ_same] at hj; cases hj
      obtain ⟨hy, hl⟩ := (hold i ei).1 y hi
      rw [(hold i ei).2 hl] at hoi
      exact hsep i y oi b hy hoi li hb1 hb2
    · obtain ⟨hy, hl⟩ := (hold i ei).1 y hi
      obtain ⟨hz, hl'⟩ := (hold j ej).1 z hj
      rw [(hold i ei).2 hl] at hoi
      rw [(hold j ej).2 hl'] at hoj
      exact hH.sep i j y z oi oj hij hy hz (hsub _ _ hoi li) (hsub _ _ hoj lj) li lj hmm b hb1 hb2

theorem take_two (k : IntKind) (l l' : List Int) (r : List Value) : (l.map (Value.int k) ++ l'.map (Value.int k) ++ r).take (l ++ l').length = (l ++ l').map (Value.int k) := by
  rw [← List.map_append, List.take_append_of_le_length (by simp), List.take_of_length_le (by simp)]
theorem cells_map {w : World} {k : IntKind} {l : List Int} {f : Nat → Addr} (h : ∀ j, j < l.length → w.cell? (f j) = some (.int k (l.getD j 0))) {j : Nat} {u : Value} (hu : (l.map (Value.int k))[j]? = some u) : w.cell? (f j) = some u := by
  rw [List.getElem?_map] at hu
  have hj : j < l.length := by
    rcases Nat.lt_or_ge j l.length with h | h
    · exact h
    · rw [List.getElem?_eq_none h] at hu; cases hu
  rw [List.getElem?_eq_getElem hj] at hu
  have := h j hj
  simp [List.getElem?_eq_getElem hj] at this
  rw [this]
  exact hu

/-- What an append's source is. -/
def SrcR (w : World) (k : IntKind) (l : List Int) (v : Value) : Prop :=
  (v = .slice none 0 0 ∧ l = []) ∨ ∃ a cap, v = .slice (some a) l.length cap ∧ ∀ j u, (l.map (Value.int k))[j]? = some u → w.cell? (a.add j) = some u

theorem src_ok {c : Cx} {y : AV} {H : List AO} {j : Option Nat} {k : IntKind} {l : List Int} (h : aSrc y H = some (j, k, l)) {ρ : Nat → Option Value} {w : World} (hH : HR c w ρ H) (hk : Keep c w) {uy : Value} (hy : RV c ρ y uy) :
    SrcR w k l uy := by
  unfold aSrc at h
  split at h
  · simp only [Option.some.injEq, Prod.mk.injEq] at h; obtain ⟨rfl, rfl, rfl⟩ := h
    simp only [RV] at hy
    rcases hy.get hk with h | ⟨b, o, cap, rfl, h1, h2, h3⟩
    · exact .inl h
    · refine .inr ⟨_, _, rfl, fun j u hu => ?_⟩
      rw [add_lit]
      exact cells_map (f := fun j => ⟨b, o + j, none⟩) h3 hu
  · split at h
    · rename_i id k' E l' hid
      simp only [Option.some.injEq, Prod.mk.injEq] at h; obtain ⟨rfl, rfl, rfl⟩ := h
      simp only [RV] at hy
      rcases hH.get (fun _ _ h => h) hid hy.1 with h | ⟨b, cap, cur, rfl, _, hg, h1, h2, h3, ht⟩
      · exact .inl h
      · refine .inr ⟨_, _, rfl, fun j u hu => ?_⟩
        rw [add_lit, Nat.zero_add, row_cell hg, ← Array.getElem?_toList]
        rw [← ht, List.getElem?_take] at hu
        split at hu
        · exact hu
        · cases hu
    · rename_i id k' l' hid
      simp only [Option.some.injEq, Prod.mk.injEq] at h; obtain ⟨rfl, rfl, rfl⟩ := h
      simp only [RV] at hy
      rcases hH.get (fun _ _ h => h) hid hy.1 with h | ⟨b, o, cap, rfl, _, _, h1, h2, h3⟩
      · exact .inl h
      · refine .inr ⟨_, _, rfl, fun j u hu => ?_⟩
        rw [add_lit]
        exact cells_map (f := fun j => ⟨b, o + j, none⟩) h3 hu
    · cases h
  · split at h <;> try cases h
    rename_i id lo hi k' E l' hid
    simp only [RV] at hy
    obtain ⟨a, n, cap0, hρ, h1, h2, rfl⟩ := hy
    rcases hH.get (fun _ _ h => h) hid hρ with ⟨hb, rfl⟩ | ⟨b, cap, cur, hb, _, hg, hlc, _, _, ht⟩
    · simp only [Value.slice.injEq] at hb
      obtain ⟨rfl, rfl, rfl⟩ := hb
      left
      obtain rfl : hi = 0 := by omega
      obtain rfl : lo = 0 := by omega
      exact ⟨rfl, rfl⟩
    · simp only [Value.slice.injEq] at hb
      obtain ⟨rfl, rfl, rfl⟩ := hb
      obtain ⟨o, e1, e2⟩ := view_of (a := some ⟨b, 0, none⟩) rfl h1 h2 hlc
      rw [e1]
      right
      have hlen : ((l'.take hi).drop lo).length = hi - lo := by rw [List.length_drop, List.length_take]; omega
      refine ⟨⟨b, o, none⟩, _, by rw [hlen], fun j u hu => ?_⟩
      have hj : j < hi - lo := by
        rcases Nat.lt_or_ge j (hi - lo) with h | h
        · exact h
        · rw [List.getElem?_eq_none (by rw [List.length_map, hlen]; exact h)] at hu; cases hu
      obtain rfl := e2 (by omega)
      rw [add_lit, row_cell hg, row_at ht (j := o + j) (by omega)]
      rw [List.getElem?_map, List.getElem?_drop, List.getElem?_take, if_pos (by omega), List.getElem?_eq_getElem (by omega)] at hu
      rw [← hu, List.getD_eq_getElem?_getD, List.getElem?_eq_getElem (by omega)]; rfl
  · cases h

/-- An append's three ways: nothing, in place, a new row. -/
theorem append_run {c : Cx} {C : Cfg} (ok : CfgOk c.P C) {T ty E : TypeId} {k : IntKind} {bt : Nat} (he : elemOf C.Γ T = some (E, k, bt)) (hbt : bt ≤ 8) {w : World} {l l' : List Int} {ux uy : Value}
    (hx : RowR c w k E l ux) (hy : SrcR w k l' uy) (hl : l.length + l'.length ≤ 1099511627776) :
    ∃ u w', (Builtin.append_ #[T, T] ty #[ux, uy]).run c.P w = .ok u w' ∧
      ((ux = .slice none 0 0 ∧ u = .slice none 0 0 ∧ l ++ l' = [] ∧ w' = w) ∨
       (∃ b cap cur cur', ux = .slice (some ⟨b, 0, none⟩) l.length cap ∧ w.heap[b]? = some (.cells cur E (0, 0)) ∧ u = .slice (some ⟨b, 0, none⟩) (l ++ l').length cap ∧ w' = w.setRow b cur' ∧
          (l ++ l').length ≤ cap ∧ cap ≤ maxLen ∧ cap ≤ cur'.size ∧ cur'.toList.take (l ++ l').length = (l ++ l').map (Value.int k)) ∨
       (∃ cap cur', u = .slice (some ⟨w.heap.size, 0, none⟩) (l ++ l').length cap ∧ w' = w.drew.alloc (.cells cur' E) ∧
          (l ++ l').length ≤ cap ∧ cap ≤ maxLen ∧ cap ≤ cur'.size ∧ cur'.toList.take (l ++ l').length = (l ++ l').map (Value.int k))) := by
  obtain ⟨hu, huE, i, hi, hs, hb, hz⟩ := elemOf_spec ok he
  have hone : ∀ u ∈ l'.map (Value.int k), u.oneCell' = true := by intro u hu; obtain ⟨n, _, rfl⟩ := List.mem_map.1 hu; rfl
  have hsz : (Value.int k 0).cells.size = 1 := rfl
  have new : ∀ (old : Nat), old < (l ++ l').length → ∃ cap cur', grownCap w (l ++ l').length old E = cap ∧ (l.map (Value.int k)).toArray ++ (l'.map (Value.int k)).toArray ++ Builtin.zeroCells (Value.int k 0).cells (cap - (l ++ l').length) = cur' ∧
      (l ++ l').length ≤ cap ∧ cap ≤ maxLen ∧ cap ≤ cur'.size ∧ cur'.toList.take (l ++ l').length = (l ++ l').map (Value.int k) := by
    intro old ho
    have hge := grownCap_ge w (l ++ l').length old E
    have hle := grownCap_le_maxLen w (l ++ l').length old E (by unfold maxLen; simp; omega)
    refine ⟨_, _, rfl, rfl, hge, hle, ?_, ?_⟩
    · simp only [Array.size_append, List.size_toArray, List.length_map, size_zeroCells, hsz, Nat.mul_one]
      simp at hge ⊢
      omega
    · rw [Array.toList_append, Array.toList_append]; exact take_two k l l' _
  rcases hx with ⟨rfl, rfl⟩ | ⟨b, cap, cur, rfl, hob, hg, hlc, hm, hcs, ht⟩
  · rcases hy with ⟨rfl, rfl⟩ | ⟨a, cap', rfl, hcell⟩
    · exact ⟨.slice none 0 0, w, by simp [Builtin.append_, run_underlying hu, sizeOf, typeInfo, hi, Builtin.lenOf, run_firstCells_none], .inl ⟨rfl, rfl, rfl, rfl⟩⟩
    · by_cases h0 : l' = []
      · subst h0
        refine ⟨.slice none 0 0, w, ?_, .inl ⟨rfl, rfl, rfl, rfl⟩⟩
        have hf := run_firstCells_some (P := c.P) w i.size 0 a 0 cap' [] (by simp) (fun j v h => by simp at h)
        simp [Builtin.append_, run_underlying hu, sizeOf, typeInfo, hi, Builtin.lenOf, hf]
      · have hpos : 0 < l'.length := List.length_pos_iff.2 h0
        obtain ⟨cp, cur', h1, h2, h3⟩ := new 0 (by simpa using hpos)
        have hr := run_append_nil (P := c.P) w T ty E i _ hu hi hz a l'.length cap' (l'.map (Value.int k)) (by simp [hs]) hcell hpos (by omega) (by
          have : l'.length * i.bytes ≤ l'.length * 8 := Nat.mul_le_mul_left _ (by omega)
          omega)
        refine ⟨_, _, hr, .inr (.inr ⟨cp, cur', by simp [← h1], ?_, h3⟩)⟩
        rw [← h2, ← h1]
        simp
  · rcases hy with ⟨rfl, rfl⟩ | ⟨a, cap', rfl, hcell⟩
    · refine ⟨.slice (some ⟨b, 0, none⟩) l.length cap, w, by simp [Builtin.append_, run_underlying hu, sizeOf, typeInfo, hi, Builtin.lenOf, run_firstCells_none, hlc, storeCells], .inr (.inl ⟨b, cap, cur, cur, rfl, hg, by simp, ?_, by simpa using hlc, hm, hcs, by simpa using ht⟩)⟩
      exact (setRow_self w b cur E (0, 0) hg).symm
    · by_cases hroom : l.length + l'.length ≤ cap
      · have hr := run_append_room (P := c.P) w T ty E i hu hi b l.length cap cur hg a l'.length cap' (l'.map (Value.int k)) (by simp [hs]) hcell hone hroom (by simp [hs]; omega)
        refine ⟨_, _, hr, .inr (.inl ⟨b, cap, cur, _, rfl, hg, by simp, rfl, by simpa using hroom, hm, ?_, ?_⟩)⟩
        · simp [hs]; omega
        · have e1 : cur.toList.take (l.length * i.size) = l.map (Value.int k) := by rw [hs, Nat.mul_one]; exact ht
          rw [e1]
          exact take_two k l l' _
      · obtain ⟨cp, cur', h1, h2, h3⟩ := new cap (by simp; omega)
        have hr := run_append_grow (P := c.P) w T ty E i _ hu hi hz ⟨b, 0, none⟩ l.length cap (l.map (Value.int k)) (by simp [hs]) (fun j v hv => by
            rw [add_lit, Nat.zero_add, row_cell hg, ← Array.getElem?_toList]
            rw [← ht, List.getElem?_take] at hv
            split at hv
            · exact hv
            · cases hv) a l'.length cap' (l'.map (Value.int k)) (by simp [hs]) hcell (by omega) (by omega) (by
            refine growslice_fits (by omega) ?_
            have : (l.length + l'.length) * i.bytes ≤ (l.length + l'.length) * 8 := Nat.mul_le_mul_left _ (by omega)
            omega)
        refine ⟨_, _, hr, .inr (.inr ⟨cp, cur', by simp [← h1], ?_, h3⟩)⟩
        rw [← h2, ← h1]
        simp

/-- The same for rows of wider elements. -/
def SrcCR (w : World) (wd : Nat) (rs : List (List Value)) (v : Value) : Prop :=
  (v = .slice none 0 0 ∧ rs = []) ∨ ∃ a cap, v = .slice (some a) rs.length cap ∧ RsOk wd rs ∧ ∀ j u, rs.flatten[j]? = some u → w.cell? (a.add j) = some u
theorem srcC_ok {c : Cx} {y : AV} {H : List AO} {j : Option Nat} {wd : Nat} {rs : List (List Value)} (h : aSrcC y H = some (j, wd, rs)) {ρ : Nat → Option Value} {w : World} (hH : HR c w ρ H) (hk : Keep c w) {uy : Value} (hy : RV c ρ y uy) :
    SrcCR w wd rs uy := by
  unfold aSrcC at h
  split at h
  · simp only [Option.some.injEq, Prod.mk.injEq] at h; obtain ⟨rfl, rfl, rfl⟩ := h
    simp only [RV] at hy
    rcases hy with h | ⟨b, o, cap, rfl, h1, h2, h3, h4⟩
    · exact .inl h
    · refine .inr ⟨_, _, rfl, h1, fun j u hu => ?_⟩
      rw [add_lit]
      exact hk.cell (h4 j u hu).1 (h4 j u hu).2
  · split at h <;> try cases h
    rename_i id E wd' rs' hid
    simp only [RV] at hy
    rcases hH.get (fun _ _ h => h) hid hy.1 with h | ⟨b, cap, cur, rfl, _, hg, h1, h2, h3, h4, ht⟩
    · exact .inl h
    · refine .inr ⟨_, _, rfl, h1, fun j u hu => ?_⟩
      rw [add_lit, Nat.zero_add, row_cell hg, ← Array.getElem?_toList]
      rw [← ht, List.getElem?_take] at hu
      split at hu
      · exact hu
      · cases hu
  · cases h
theorem append_runC {c : Cx} {C : Cfg} (ok : CfgOk c.P C) {T ty E : TypeId} {wd bt : Nat} {zs : List Value} (he : elemC C.Γ T = some (E, wd, bt, zs)) (hw : 0 < wd) (hzl : zs.length = wd) (hbt : bt ≤ 64) {w : World} {rs rs' : List (List Value)} {ux uy : Value}
    (hx : RcR c w E wd rs ux) (hy : SrcCR w wd rs' uy) (hl : rs.length + rs'.length ≤ 1099511627776) :
    ∃ u w', (Builtin.append_ #[T, T] ty #[ux, uy]).run c.P w = .ok u w' ∧
      ((ux = .slice none 0 0 ∧ u = .slice none 0 0 ∧ rs ++ rs' = [] ∧ w' = w) ∨
       (∃ b cap cur cur', ux = .slice (some ⟨b, 0, none⟩) rs.length cap ∧ w.heap[b]? = some (.cells cur E (0, 0)) ∧ u = .slice (some ⟨b, 0, none⟩) (rs ++ rs').length cap ∧ w' = w.setRow b cur' ∧ RsOk wd (rs ++ rs') ∧
          (rs ++ rs').length ≤ cap ∧ cap ≤ maxLen ∧ cap * wd ≤ cur'.size ∧ cur'.toList.take ((rs ++ rs').length * wd) = (rs ++ rs').flatten) ∨
       (∃ cap cur', u = .slice (some ⟨w.heap.size, 0, none⟩) (rs ++ rs').length cap ∧ w' = w.drew.alloc (.cells cur' E) ∧ RsOk wd (rs ++ rs') ∧
          (rs ++ rs').length ≤ cap ∧ cap ≤ maxLen ∧ cap * wd ≤ cur'.size ∧ cur'.toList.take ((rs ++ rs').length * wd) = (rs ++ rs').flatten)) := by
  obtain ⟨hu, i, z, hi, hs, hb, hz, hzc, _⟩ := elemC_spec ok he
  have hsz : z.cells.size = wd := by rw [hzc, List.size_toArray, hzl]
  have h1 : rs ≠ [] → RsOk wd rs := fun h0 => by
    rcases hx with ⟨_, h⟩ | ⟨b, cap, cur, _, _, _, h, _⟩
    · exact absurd h h0
    · exact h
  have h2 : rs' ≠ [] → RsOk wd rs' := fun h0 => by
    rcases hy with ⟨_, h⟩ | ⟨a, cap, _, h, _⟩
    · exact absurd h h0
    · exact h
  have hall : ∀ r ∈ rs ++ rs', r.length = wd ∧ ∀ u ∈ r, u.oneCell' = true := fun r hr => by
    rcases List.mem_append.1 hr with hr | hr
    · exact (h1 (List.ne_nil_of_mem hr)).2 r hr
    · exact (h2 (List.ne_nil_of_mem hr)).2 r hr
  have hok : RsOk wd (rs ++ rs') := ⟨hw, hall⟩
  have hf1 : rs.flatten.length = rs.length * wd := flat_len fun r hr => (hall r (List.mem_append_left _ hr)).1
  have hf2 : rs'.flatten.length = rs'.length * wd := flat_len fun r hr => (hall r (List.mem_append_right _ hr)).1
  have hfa : (rs ++ rs').flatten = rs.flatten ++ rs'.flatten := List.flatten_append
  have hla : (rs ++ rs').length * wd = rs.flatten.length + rs'.flatten.length := by rw [List.length_append, Nat.add_mul, hf1, hf2]
  have hone : ∀ u ∈ rs'.flatten, u.oneCell' = true := fun u hu => by
    obtain ⟨r, hr, hur⟩ := List.mem_flatten.1 hu
    exact (hall r (List.mem_append_right _ hr)).2 u hur
  have tk : ∀ r : List Value, (rs.flatten ++ rs'.flatten ++ r).take ((rs ++ rs').length * wd) = (rs ++ rs').flatten := fun r => by
    rw [hla, ← List.length_append, List.take_left', hfa]; rfl
  have new : ∀ (old : Nat), old < (rs ++ rs').length → ∃ cap cur', grownCap w (rs ++ rs').length old E = cap ∧ rs.flatten.toArray ++ rs'.flatten.toArray ++ Builtin.zeroCells z.cells (cap - (rs ++ rs').length) = cur' ∧
      (rs ++ rs').length ≤ cap ∧ cap ≤ maxLen ∧ cap * wd ≤ cur'.size ∧ cur'.toList.take ((rs ++ rs').length * wd) = (rs ++ rs').flatten := by
    intro old ho
    have hge := grownCap_ge w (rs ++ rs').length old E
    have hle := grownCap_le_maxLen w (rs ++ rs').length old E (by unfold maxLen; simp; omega)
    refine ⟨_, _, rfl, rfl, hge, hle, ?_, ?_⟩
    · simp only [Array.size_append, List.size_toArray, size_zeroCells, hsz]
      rw [← hla, Nat.sub_mul]
      have := Nat.mul_le_mul_right wd hge
      omega
    · rw [Array.toList_append, Array.toList_append]; exact tk _
  rcases hx with ⟨rfl, rfl⟩ | ⟨b, cap, cur, rfl, hob, hg, hrok, hlc, hm, hcs, ht⟩
  · rcases hy with ⟨rfl, rfl⟩ | ⟨a, cap', rfl, hrok', hcell⟩
    · exact ⟨.slice none 0 0, w, by simp [Builtin.append_, run_underlying hu, sizeOf, typeInfo, hi, Builtin.lenOf, run_firstCells_none], .inl ⟨rfl, rfl, rfl, rfl⟩⟩
    · by_cases h0 : rs' = []
      · subst h0
        refine ⟨.slice none 0 0, w, ?_, .inl ⟨rfl, rfl, rfl, rfl⟩⟩
        have hf := run_firstCells_some (P := c.P) w i.size 0 a 0 cap' [] (by simp) (fun j v h => by simp at h)
        simp [Builtin.append_, run_underlying hu, sizeOf, typeInfo, hi, Builtin.lenOf, hf]
      · have hpos : 0 < rs'.length := List.length_pos_iff.2 h0
        obtain ⟨cp, cur', e1, e2, h3⟩ := new 0 (by simpa using hpos)
        have hr := run_append_nil (P := c.P) w T ty E i _ hu hi hz a rs'.length cap' rs'.flatten (by rw [hs]; exact hf2) hcell hpos (by omega) (by
          have : rs'.length * i.bytes ≤ rs'.length * 64 := Nat.mul_le_mul_left _ (by omega)
          omega)
        refine ⟨_, _, hr, .inr (.inr ⟨cp, cur', by simp [← e1], ?_, hok, h3⟩)⟩
        rw [← e2, ← e1]
        simp
  · rcases hy with ⟨rfl, rfl⟩ | ⟨a, cap', rfl, hrok', hcell⟩
    · refine ⟨.slice (some ⟨b, 0, none⟩) rs.length cap, w, by simp [Builtin.append_, run_underlying hu, sizeOf, typeInfo, hi, Builtin.lenOf, run_firstCells_none, hlc, storeCells], .inr (.inl ⟨b, cap, cur, cur, rfl, hg, by simp, ?_, hok, by simpa using hlc, hm, hcs, by simpa using ht⟩)⟩
      exact (setRow_self w b cur E (0, 0) hg).symm
    · by_cases hroom : rs.length + rs'.length ≤ cap
      · have hfit : rs.length * i.size + rs'.flatten.length ≤ cur.size := by
          rw [hs, hf2, ← Nat.add_mul]
          exact Nat.le_trans (Nat.mul_le_mul_right _ hroom) hcs
        have hr := run_append_room (P := c.P) w T ty E i hu hi b rs.length cap cur hg a rs'.length cap' rs'.flatten (by rw [hs]; exact hf2) hcell hone hroom hfit
        refine ⟨_, _, hr, .inr (.inl ⟨b, cap, cur, _, rfl, hg, by simp, rfl, hok, by simpa using hroom, hm, ?_, ?_⟩)⟩
        · rw [List.size_toArray, List.length_append, List.length_append, List.length_take, List.length_drop, Array.length_toList (xs := cur)]
          omega
        · have e1 : cur.toList.take (rs.length * i.size) = rs.flatten := by rw [hs]; exact ht
          rw [e1]
          exact tk _
      · obtain ⟨cp, cur', e1, e2, h3⟩ := new cap (by simp; omega)
        have hr := run_append_grow (P := c.P) w T ty E i _ hu hi hz ⟨b, 0, none⟩ rs.length cap rs.flatten (by rw [hs]; exact hf1) (fun j v hv => by
            rw [add_lit, Nat.zero_add, row_cell hg, ← Array.getElem?_toList]
            rw [← ht, List.getElem?_take] at hv
            split at hv
            · exact hv
            · cases hv) a rs'.length cap' rs'.flatten (by rw [hs]; exact hf2) hcell (by omega) (by omega) (by
            refine growslice_fits (by omega) ?_
            have : (rs.length + rs'.length) * i.bytes ≤ (rs.length + rs'.length) * 64 := Nat.mul_le_mul_left _ (by omega)
            omega)
        refine ⟨_, _, hr, .inr (.inr ⟨cp, cur', by simp [← e1], ?_, hok, h3⟩)⟩
        rw [← e2, ← e1]
        simp

theorem appendC_ok {c : Cx} {C : Cfg} (ok : CfgOk c.P C) {T T2 ty : TypeId} {x y : AV} {H H' : List AO} {p : Prop} {v : AV}
    (h : (match elemC C.Γ T, aSrcC y H with
      | some (E, wd, b, z), some (j, wd', rs') =>
        match x with
        | .nl => Res.ok (T = T2 ∧ wd = wd' ∧ 0 < wd ∧ z.length = wd ∧ b ≤ 64 ∧ rs'.length ≤ 1099511627776) (.own H.length) (H ++ [AO.rc E wd rs'])
        | .own id => match H[id]? with
          | some (AO.rc E' wd'' rs) => .ok (T = T2 ∧ wd = wd' ∧ wd = wd'' ∧ 0 < wd ∧ z.length = wd ∧ E = E' ∧ j ≠ some id ∧ b ≤ 64 ∧ rs.length + rs'.length ≤ 1099511627776) (.own H.length) (H.set id .dead ++ [AO.rc E wd (rs ++ rs')])
          | _ => .bad
        | _ => .bad
      | _, _ => .bad) = .ok p v H') (hp : p)
    {ρ : Nat → Option Value} {w : World} (hH : HR c w ρ H) (hk : Keep c w) (hdom : ρ H.length = none) {ux uy : Value} (hx : RV c ρ x ux) (hy : RV c ρ y uy) :
    H'.length = H.length + 1 ∧ ∃ u w' ρ', (Builtin.append_ #[T, T2] ty #[ux, uy]).run c.P w = .ok u w' ∧ Post c ρ H' H.length (H.length + 1) v u w' ρ' := by
  split at h <;> try cases h
  rename_i E wd bt zs j wd' rs' he hsrc
  have hys := srcC_ok hsrc hH hk hy
  have hdm : ∀ (u : Value) (id : Nat), setρ ρ H.length u id ≠ none → ρ id ≠ none ∨ (H.length ≤ id ∧ id < H.length + 1) := fun u id h => by
    by_cases e : id = H.length
    · right; omega
    · left; simpa [setρ, if_neg e] using h
  split at h
  · simp only [Res.ok.injEq] at h; obtain ⟨rfl, rfl, rfl⟩ := h
    obtain ⟨rfl, rfl, hw, hzl, hbt, hll⟩ := hp
    simp only [RV] at hx; subst hx
    obtain ⟨u, w', hrun, hcase⟩ := append_runC ok (ty := ty) he hw hzl hbt (.inl ⟨rfl, rfl⟩) hys (rs := []) (by simpa using hll)
    refine ⟨by simp, u, w', setρ ρ H.length u, hrun, setρ_ext hdom u, hdm u, ?_, ?_, ?_⟩
    · rcases hcase with ⟨_, rfl, h0, rfl⟩ | ⟨b, cap, cur, cur', hh, _⟩ | ⟨cap, cur', rfl, rfl, h1, h2, h3, h4, h5⟩
      · exact hH.push hdom rfl (fun _ _ h _ => h) (Nat.le_refl _) (fun _ _ _ _ _ _ _ _ => rfl) (.inl ⟨rfl, h0⟩) (fun _ _ _ _ _ _ _ _ h => by simp [blk] at h)
      · simp at hh
      · refine hH.push hdom rfl (fun _ _ h _ => h) (by simp) (fun j y o b hy ho hl hb => ?_) (.inr ⟨w.heap.size, cap, cur', rfl, Ownb.size hk, heap_alloc_new w.drew _, h1, h2, h3, h4, h5⟩) (fun j y o b hy ho hl hb hb2 => ?_)
        · obtain ⟨o2, ho2, hr⟩ := hH.obj j y hy
          rw [ho] at ho2; cases ho2
          exact Below.heap_alloc w.drew _ b (hr.lt hl hb).1
        · obtain ⟨o2, ho2, hr⟩ := hH.obj j y hy
          rw [ho] at ho2; cases ho2
          have := (hr.lt hl hb).1
          simp [blk] at hb2; omega
    · rcases hcase with ⟨_, _, _, rfl⟩ | ⟨b, cap, cur, cur', hh, _⟩ | ⟨cap, cur', _, rfl, _⟩
      · exact hk
      · simp at hh
      · exact hk.below_step (((Below.refl _ _).drew).alloc (by simp) _)
    · simp only [RV]
      refine ⟨setρ_same _ _ _, ?_⟩
      rcases hcase with ⟨_, rfl, _⟩ | ⟨b, cap, cur, cur', hh, _⟩ | ⟨cap, cur', rfl, _⟩
      · exact ⟨_, _, _, rfl⟩
      · simp at hh
      · exact ⟨_, _, _, rfl⟩
  · rename_i id
    split at h <;> try cases h
    rename_i E' wd'' rs hid
    obtain ⟨rfl, rfl, rfl, hw, hzl, rfl, hj, hbt, hll⟩ := hp
    simp only [RV] at hx
    have hrow := hH.get (fun _ _ h => h) hid hx.1
    obtain ⟨u, w', hrun, hcase⟩ := append_runC ok (ty := ty) he hw hzl hbt hrow hys hll
    have hlt : id < H.length := (List.getElem?_eq_some_iff.1 hid).1
    have hsub : ∀ (j : Nat) (o : AO), (H.set id .dead)[j]? = some o → o.live = true → H[j]? = some o ∧ j ≠ id := fun j o ho hl => by
      by_cases e : j = id
      · subst e; simp [hlt] at ho; subst ho; cases hl
      · rw [List.getElem?_set_ne (Ne.symm e)] at ho; exact ⟨ho, e⟩
    refine ⟨by simp, u, w', setρ ρ H.length u, hrun, setρ_ext hdom u, hdm u, ?_, ?_, ?_⟩
    · rcases hcase with ⟨_, rfl, h0, rfl⟩ | ⟨b, cap, cur, cur', rfl, hg, rfl, rfl, h1, h2, h3, h4, h5⟩ | ⟨cap, cur', rfl, rfl, h1, h2, h3, h4, h5⟩
      · exact hH.push hdom (by simp) (fun j o h hl => (hsub j o h hl).1) (Nat.le_refl _) (fun _ _ _ _ _ _ _ _ => rfl) (.inl ⟨rfl, h0⟩) (fun _ _ _ _ _ _ _ _ h => by simp [blk] at h)
      · have hob : Ownb c b := (hrow.lt (c := c) (w := w) (ρ := ρ) (o := AO.rc E wd rs) rfl (b := b) rfl).2
        have apart : ∀ (j : Nat) (y : Value) (o : AO) (b' : Nat), ρ j = some y → (H.set id .dead)[j]? = some o → o.live = true → blk y = some b' → b' ≠ b := fun j y o b' hy ho hl hb e => by
          obtain ⟨h1, h2⟩ := hsub j o ho hl
          subst e
          exact hH.sep id j _ y (.rc E wd rs) o (Ne.symm h2) hx.1 hy hid h1 rfl hl (.inl rfl) b' rfl hb
        refine hH.push hdom (by simp) (fun j o h hl => (hsub j o h hl).1) (by simp) (fun j y o b' hy ho hl hb => setRow_other w b _ (apart j y o b' hy ho hl hb)) (.inr ⟨b, cap, cur', rfl, hob, setRow_at hg, h1, h2, h3, h4, h5⟩) (fun j y o b' hy ho hl hb hb2 => ?_)
        simp [blk] at hb2
        exact apart j y o b' hy ho hl hb hb2.symm
      · refine hH.push hdom (by simp) (fun j o h hl => (hsub j o h hl).1) (by simp) (fun j y o b hy ho hl hb => ?_) (.inr ⟨w.heap.size, cap, cur', rfl, Ownb.size hk, heap_alloc_new w.drew _, h1, h2, h3, h4, h5⟩) (fun j y o b hy ho hl hb hb2 => ?_)
        · obtain ⟨o2, ho2, hr⟩ := hH.obj j y hy
          rw [(hsub j o ho hl).1] at ho2; cases ho2
          exact Below.heap_alloc w.drew _ b (hr.lt hl hb).1
        · obtain ⟨o2, ho2, hr⟩ := hH.obj j y hy
          rw [(hsub j o ho hl).1] at ho2; cases ho2
          have := (hr.lt hl hb).1
          simp [blk] at hb2; omega
    · rcases hcase with ⟨_, _, _, rfl⟩ | ⟨b, cap, cur, cur', rfl, _, _, rfl, _⟩ | ⟨cap, cur', _, rfl, _⟩
      · exact hk
      · exact setRow_keep hk (hrow.lt (c := c) (w := w) (ρ := ρ) (o := AO.rc E wd rs) rfl (b := b) rfl).2 _
      · exact hk.below_step (((Below.refl _ _).drew).alloc (by simp) _)
    · simp only [RV]
      refine ⟨setρ_same _ _ _, ?_⟩
      rcases hcase with ⟨_, rfl, _⟩ | ⟨b, cap, cur, cur', _, _, rfl, _⟩ | ⟨cap, cur', rfl, _⟩ <;> exact ⟨_, _, _, rfl⟩
  · cases h

theorem append_ok {c : Cx} {C : Cfg} (ok : CfgOk c.P C) {T T2 ty : TypeId} {x y : AV} {H H' : List AO} {p : Prop} {v : AV} (h : aAppend C.Γ T T2 x y H = .ok p v H') (hp : p)
    {ρ : Nat → Option Value} {w : World} (hH : HR c w ρ H) (hk : Keep c w) (hdom : ρ H.length = none) {ux uy : Value} (hx : RV c ρ x ux) (hy : RV c ρ y uy) :
    H'.length = H.length + 1 ∧ ∃ u w' ρ', (Builtin.append_ #[T, T2] ty #[ux, uy]).run c.P w = .ok u w' ∧ Post c ρ H' H.length (H.length + 1) v u w' ρ' := by
  unfold aAppend at h
  split at h
  rotate_left
  · exact appendC_ok ok h hp hH hk hdom hx hy
  · cases h
  rename_i E k bt j k' l' he hsrc
  have hys := src_ok hsrc hH hk hy
  have hdm : ∀ (u : Value) (id : Nat), setρ ρ H.length u id ≠ none → ρ id ≠ none ∨ (H.length ≤ id ∧ id < H.length + 1) := fun u id h => by
    by_cases e : id = H.length
    · right; omega
    · left; simpa [setρ, if_neg e] using h
  split at h
  · simp only [Res.ok.injEq] at h; obtain ⟨rfl, rfl, rfl⟩ := h
    obtain ⟨rfl, rfl, hbt, hll⟩ := hp
    simp only [RV] at hx; subst hx
    obtain ⟨u, w', hrun, hcase⟩ := append_run ok (ty := ty) he hbt (.inl ⟨rfl, rfl⟩) hys (l := []) (by simpa using hll)
    refine ⟨by simp, u, w', setρ ρ H.length u, hrun, setρ_ext hdom u, hdm u, ?_, ?_, ?_⟩
    · rcases hcase with ⟨_, rfl, h0, rfl⟩ | ⟨b, cap, cur, cur', hh, _⟩ | ⟨cap, cur', rfl, rfl, h1, h2, h3, h4⟩
      · exact hH.push hdom rfl (fun _ _ h _ => h) (Nat.le_refl _) (fun _ _ _ _ _ _ _ _ => rfl) (.inl ⟨rfl, h0⟩) (fun _ _ _ _ _ _ _ _ h => by simp [blk] at h)
      · simp at hh
      · refine hH.push hdom rfl (fun _ _ h _ => h) (by simp) (fun j y o b hy ho hl hb => ?_) (.inr ⟨w.heap.size, cap, cur', rfl, Ownb.size hk, heap_alloc_new w.drew _, h1, h2, h3, h4⟩) (fun j y o b hy ho hl hb hb2 => ?_)
        · obtain ⟨o2, ho2, hr⟩ := hH.obj j y hy
          rw [ho] at ho2; cases ho2
          exact Below.heap_alloc w.drew _ b (hr.lt hl hb).1
        · obtain ⟨o2, ho2, hr⟩ := hH.obj j y hy
          rw [ho] at ho2; cases ho2
          have := (hr.lt hl hb).1
          simp [blk] at hb2; omega
    · rcases hcase with ⟨_, _, _, rfl⟩ | ⟨b, cap, cur, cur', hh, _⟩ | ⟨cap, cur', _, rfl, _⟩
      · exact hk
      · simp at hh
      · exact hk.below_step (((Below.refl _ _).drew).alloc (by simp) _)
    · simp only [RV]
      refine ⟨setρ_same _ _ _, ?_⟩
      rcases hcase with ⟨_, rfl, _⟩ | ⟨b, cap, cur, cur', hh, _⟩ | ⟨cap, cur', rfl, _⟩
      · exact ⟨_, _, _, rfl⟩
      · simp at hh
      · exact ⟨_, _, _, rfl⟩
  · rename_i id
    split at h <;> try cases h
    rename_i k'' E' l hid
    obtain ⟨rfl, rfl, rfl, rfl, hj, hbt, hll⟩ := hp
    simp only [RV] at hx
    have hrow := hH.get (fun _ _ h => h) hid hx.1
    obtain ⟨u, w', hrun, hcase⟩ := append_run ok (ty := ty) he hbt hrow hys hll
    have hlt : id < H.length := (List.getElem?_eq_some_iff.1 hid).1
    have hsub : ∀ (j : Nat) (o : AO), (H.set id .dead)[j]? = some o → o.live = true → H[j]? = some o ∧ j ≠ id := fun j o ho hl => by
      by_cases e : j = id
      · subst e; simp [hlt] at ho; subst ho; cases hl
      · rw [List.getElem?_set_ne (Ne.symm e)] at ho; exact ⟨ho, e⟩
    refine ⟨by simp, u, w', setρ ρ H.length u, hrun, setρ_ext hdom u, hdm u, ?_, ?_, ?_⟩
    · rcases hcase with ⟨_, rfl, h0, rfl⟩ | ⟨b, cap, cur, cur', rfl, hg, rfl, rfl, h1, h2, h3, h4⟩ | ⟨cap, cur', rfl, rfl, h1, h2, h3, h4⟩
      · exact hH.push hdom (by simp) (fun j o h hl => (hsub j o h hl).1) (Nat.le_refl _) (fun _ _ _ _ _ _ _ _ => rfl) (.inl ⟨rfl, h0⟩) (fun _ _ _ _ _ _ _ _ h => by simp [blk] at h)
      · have hob : Ownb c b := (hrow.lt (c := c) (w := w) (ρ := ρ) (o := .row k E l) rfl (b := b) rfl).2
        have apart : ∀ (j : Nat) (y : Value) (o : AO) (b' : Nat), ρ j = some y → (H.set id .dead)[j]? = some o → o.live = true → blk y = some b' → b' ≠ b := fun j y o b' hy ho hl hb e => by
          obtain ⟨h1, h2⟩ := hsub j o ho hl
          subst e
          exact hH.sep id j _ y (.row k E l) o (Ne.symm h2) hx.1 hy hid h1 rfl hl (.inl rfl) b' rfl hb
        refine hH.push hdom (by simp) (fun j o h hl => (hsub j o h hl).1) (by simp) (fun j y o b' hy ho hl hb => setRow_other w b _ (apart j y o b' hy ho hl hb)) (.inr ⟨b, cap, cur', rfl, hob, setRow_at hg, h1, h2, h3, h4⟩) (fun j y o b' hy ho hl hb hb2 => ?_)
        simp [blk] at hb2
        exact apart j y o b' hy ho hl hb hb2.symm
      · refine hH.push hdom (by simp) (fun j o h hl => (hsub j o h hl).1) (by simp) (fun j y o b hy ho hl hb => ?_) (.inr ⟨w.heap.size, cap, cur', rfl, Ownb.size hk, heap_alloc_new w.drew _, h1, h2, h3, h4⟩) (fun j y o b hy ho hl hb hb2 => ?_)
        · obtain ⟨o2, ho2, hr⟩ := hH.obj j y hy
          rw [(hsub j o ho hl).1] at ho2; cases ho2
          exact Below.heap_alloc w.drew _ b (hr.lt hl hb).1
        · obtain ⟨o2, ho2, hr⟩ := hH.obj j y hy
          rw [(hsub j o ho hl).1] at ho2; cases ho2
          have := (hr.lt hl hb).1
          simp [blk] at hb2; omega
    · rcases hcase with ⟨_, _, _, rfl⟩ | ⟨b, cap, cur, cur', rfl, _, _, rfl, _⟩ | ⟨cap, cur', _, rfl, _⟩
      · exact hk
      · exact setRow_keep hk (hrow.lt (c := c) (w := w) (ρ := ρ) (o := .row k E l) rfl (b := b) rfl).2 _
      · exact hk.below_step (((Below.refl _ _).drew).alloc (by simp) _)
    · simp only [RV]
      refine ⟨setρ_same _ _ _, ?_⟩
      rcases hcase with ⟨_, rfl, _⟩ | ⟨b, cap, cur, cur', _, _, rfl, _⟩ | ⟨cap, cur', rfl, _⟩ <;> exact ⟨_, _, _, rfl⟩
  · cases h

end Go.Ab
