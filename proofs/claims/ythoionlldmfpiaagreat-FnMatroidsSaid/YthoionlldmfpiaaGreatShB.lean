/-
  Contracts of the kit's shelf, turned into contracts of the abstract machine: sorting, compacting, cloning rows of ints.
-/
import Derived.Test.YthoionlldmfpiaaGreatAbI
import Derived.Sort.Row
import Derived.Sort.Grow
import Derived.Lib.SlicesCompact
import Derived.Laws.AppendOwn
set_option linter.unusedSimpArgs false
set_option linter.unusedVariables false
namespace Go.Ab
open Go Go.RowKit Go.Sort

theorem take_get {l : List Int} {cur : Array Value} (ht : cur.toList.take l.length = l.map (Value.int .i64)) {j : Nat} (hj : j < l.length) : cur[j]? = some (.int .i64 (l.getD j 0)) := by
  have h1 : (cur.toList.take l.length)[j]? = (l.map (Value.int .i64))[j]? := by rw [ht]
  rw [List.getElem?_take, if_pos hj, List.getElem?_map, List.getElem?_eq_getElem hj, Array.getElem?_toList] at h1
  rw [h1, List.getD_eq_getElem?_getD, List.getElem?_eq_getElem hj]; rfl
theorem holds_row {w : World} {b : Nat} {cur : Array Value} {E : TypeId} {l : List Int} (hg : w.heap[b]? = some (.cells cur E (0, 0))) (ht : cur.toList.take l.length = l.map (Value.int .i64)) : Holds (Value.int .i64) w b 0 l.toArray := by
  intro j hj
  have hj' : j < l.length := by simpa using hj
  have h1 := take_get ht hj'
  refine ⟨?_, ?_⟩
  · simp only [World.cell?, hg, Nat.zero_add]
    rw [h1, List.getD_eq_getElem?_getD, List.getElem?_eq_getElem hj']
    simp [hj']
  · simp [World.frozen?, hg]
/-- The block behind a laid row. -/
theorem putRow_block {w : World} {b : Nat} {cur : Array Value} {E : TypeId} {l : List Int} (hg : w.heap[b]? = some (.cells cur E (0, 0))) (hl : l.length ≤ cur.size) :
    ∃ cur', (putRow (Value.int .i64) w b 0 l.toArray).heap[b]? = some (.cells cur' E (0, 0)) ∧ cur'.size = cur.size ∧ cur'.toList.take l.length = l.map (Value.int .i64) := by
  refine ⟨putCells (Value.int .i64) 0 l.toArray cur, ?_, by simp [putCells], ?_⟩
  · simp only [putRow, mapBlock, Array.getElem?_modify, if_true, hg, Option.map_some, onCells]
  · apply List.ext_getElem?
    intro j
    rw [List.getElem?_take, List.getElem?_map]
    by_cases hj : j < l.length
    · rw [if_pos hj, Array.getElem?_toList]
      simp only [putCells, Array.getElem?_mapIdx]
      rw [Array.getElem?_eq_getElem (by omega : j < cur.size), List.getElem?_eq_getElem hj]
      simp [hj]
    · rw [if_neg hj, List.getElem?_eq_none (by omega)]; rfl
theorem putRow_other {w : World} {b k : Nat} {d : Array Int} (h : k ≠ b) : (putRow (Value.int .i64) w b 0 d).heap[k]? = w.heap[k]? := by
  simp only [putRow, mapBlock, Array.getElem?_modify, if_neg (Ne.symm h)]
theorem blk_own {P : Program} {w : World} {ρ : Nat → Option Value} {N : Nat → Prop} {b n cap : Nat} (hρ : ρ 0 = some (.slice (some ⟨b, 0, none⟩) n cap)) : (Cx.mk P w ρ N).X b := ⟨0, _, hρ, rfl⟩
/-- One object was lent. -/
theorem one_lent {P : Program} {w : World} {ρ : Nat → Option Value} {N : Nat → Prop} {o : AO} (hH : HR ⟨P, w, ρ, N⟩ w ρ [o]) {id : Nat} {x : Value} (h : ρ id = some x) : id = 0 := by
  obtain ⟨o', ho, _⟩ := hH.obj id x h
  cases id with
  | zero => rfl
  | succ n => simp at ho
def sortV (l : List Int) : List Int := l.mergeSort fun x y => decide (x ≤ y)
def tSort : MTab
  | [.own 0], [.row .i64 E l] => some (l.length < 4611686018427387904, .tu [], [.row .i64 E (sortV l)])
  | _, _ => none
theorem sort_fits {P : Program} {f : FuncId} (hc : Callable P f)
    (hs : ∀ (blk off cap : Nat) (zs : List Int) (w : World), Holds (Value.int .i64) w blk off zs.toArray → blk < w.heap.size → zs.length < 4611686018427387904 →
      Calls P f #[.slice (some ⟨blk, off, none⟩) zs.length cap] w fun e w' => e = .returned (.tuple #[]) ∧ ∃ n os, w' = grow (putRow (Value.int .i64) (Go.Sort.ahead w n) blk off (zs.mergeSort fun x y => decide (x ≤ y)).toArray) os)
    (h0 : ∀ (p : Option Addr) (cap : Nat) (w : World), Calls P f #[.slice p 0 cap] w fun e w' => e = .returned (.tuple #[]) ∧ w' = w) : FitsM P f tSort := by
  refine ⟨?_⟩
  intro args L p out Ho h hp
  unfold tSort at h
  split at h <;> cases h
  rename_i E l
  refine ⟨?_, rfl, rfl, rfl, rfl, Nat.le_refl _, hc⟩
  intro w ρ N vs hvs hH
  simp only [RVs, RV] at hvs
  obtain ⟨x, ys, rfl, ⟨hρ, a, n, cap, hx⟩, rfl⟩ := hvs
  obtain ⟨o, ho, hr⟩ := hH.obj 0 x hρ
  simp at ho
  subst ho
  have hone := fun id y (hy : ρ id = some y) => one_lent hH hy
  rcases hr with ⟨rfl, rfl⟩ | ⟨b, cap', cur, rfl, hob, hg, hlc, hm, hcs, ht⟩
  · refine Calls.mono (h0 none 0 w) ?_
    rintro e w' ⟨rfl, rfl⟩
    refine ⟨_, ρ, rfl, ⟨[], rfl, rfl⟩, ⟨fun id y hy => ?_, fun i j y z oi oj hij hy hz => absurd ((hone i y hy).trans (hone j z hz).symm) hij⟩, Keep.refl .., fun _ _ _ h => h⟩
    have := hone id y hy
    subst this
    rw [hρ] at hy; cases hy
    exact ⟨_, rfl, .inl ⟨rfl, by simp [sortV]⟩⟩
  · have hb := (Array.getElem?_eq_some_iff.1 hg).1
    refine Calls.mono (hs b 0 cap' l w (holds_row hg ht) hb hp) ?_
    rintro e w' ⟨rfl, m, os, rfl⟩
    have hl : (sortV l).length = l.length := by simp [sortV]
    obtain ⟨cur', g1, g2, g3⟩ := putRow_block (w := Go.Sort.ahead w m) (l := sortV l) hg (by omega)
    have hold : ∀ k, k < w.heap.size → (grow (putRow (Value.int .i64) (Go.Sort.ahead w m) b 0 (sortV l).toArray) os).heap[k]? = (putRow (Value.int .i64) (Go.Sort.ahead w m) b 0 (sortV l).toArray).heap[k]? := fun k hk => by
      simp only [grow]
      rw [Array.getElem?_append_left (by rw [size_putRow]; exact hk)]
    refine ⟨_, ρ, rfl, ⟨[], rfl, rfl⟩, ⟨fun id y hy => ?_, fun i j y z oi oj hij hy hz => ?_⟩, ?_, fun _ _ _ h => h⟩
    · have := hone id y hy
      subst this
      rw [hρ] at hy; cases hy
      refine ⟨_, rfl, .inr ⟨b, cap', cur', by rw [hl], hob, ?_, by omega, hm, by omega, g3⟩⟩
      exact (hold b hb).trans g1
    · exact absurd ((hone i y hy).trans (hone j z hz).symm) hij
    · refine ⟨rfl, rfl, rfl, by rw [size_grow, size_putRow]; exact Nat.le_add_right _ _, fun k hk hX => ?_⟩
      have hk' : k < w.heap.size := hk
      refine (hold k hk').trans (putRow_other fun e => ?_)
      subst e
      exact hX (blk_own hρ)
theorem compact_le (zs : List Int) : (Lib.compact zs).length ≤ zs.length := by
  simp only [Lib.compact, Lib.compactUpTo, List.length_map]
  exact Nat.le_trans (List.length_filter_le ..) (by simp)
def tCompact : MTab
  | [.own 0], [.row .i64 E l] => some (l.length ≤ 9223372036854775807, .own 1, [.dead, .row .i64 E (Lib.compact l)])
  | _, _ => none
theorem set_at (ρ : Nat → Option Value) (n : Nat) (v : Value) : setρ ρ n v n = some v := by simp [setρ]
theorem set_ne {ρ : Nat → Option Value} {n m : Nat} {v : Value} (h : m ≠ n) : setρ ρ n v m = ρ m := by simp [setρ, h]
theorem compact_fits {P : Program} {f : FuncId} (hc : Callable P f)
    (hs : ∀ (blk off cap : Nat) (zs : List Int) (w : World), Holds (Value.int .i64) w blk off zs.toArray → zs.length ≤ 9223372036854775807 → zs.length ≤ cap →
      Calls P f #[.slice (some ⟨blk, off, none⟩) zs.length cap] w fun e w' => e = .returned (.slice (some ⟨blk, off, none⟩) (Lib.compact zs).length cap) ∧ ∃ q, w' = putRow (Value.int .i64) (Go.Sort.ahead w q) blk off (Lib.compact zs ++ List.replicate (zs.length - (Lib.compact zs).length) 0).toArray)
    (h0 : ∀ (p : Option Addr) (cap : Nat) (w : World), Calls P f #[.slice p 0 cap] w fun e w' => e = .returned (.slice p 0 cap) ∧ w' = w) : FitsM P f tCompact := by
  refine ⟨?_⟩
  intro args L p out Ho h hp
  unfold tCompact at h
  split at h <;> cases h
  rename_i E l
  refine ⟨?_, rfl, rfl, rfl, rfl, by simp, hc⟩
  intro w ρ N vs hvs hH
  simp only [RVs, RV] at hvs
  obtain ⟨x, ys, rfl, ⟨hρ, a, n, cap, hx⟩, rfl⟩ := hvs
  obtain ⟨o, ho, hr⟩ := hH.obj 0 x hρ
  simp at ho
  subst ho
  have hone := fun id y (hy : ρ id = some y) => one_lent hH hy
  have fin : ∀ (y : Value) (w' : World), (∃ a n cap, y = .slice a n cap) → RowR ⟨P, w, ρ, N⟩ w' .i64 E (Lib.compact l) y → Keep ⟨P, w, ρ, N⟩ w' →
      ∃ v ρ', Ending.returned y = .returned v ∧ RV ⟨P, w, ρ, N⟩ ρ' (.own 1) v ∧ HR ⟨P, w, ρ, N⟩ w' ρ' [.dead, .row .i64 E (Lib.compact l)] ∧ Keep ⟨P, w, ρ, N⟩ w' ∧ ∀ j x, j < [AO.row IntKind.i64 E l].length → ρ j = some x → ρ' j = some x := fun y w' hy hrow hk => by
    refine ⟨y, setρ ρ 1 y, rfl, ?_, ⟨fun id z hz => ?_, fun i j z z' oi oj hij hz hz' hoi hoj hl1 hl2 => ?_⟩, hk, fun j x hj hx => ?_⟩
    · simp only [RV]; exact ⟨set_at .., hy⟩
    · by_cases e : id = 1
      · subst e
        rw [set_at] at hz; cases hz
        exact ⟨_, rfl, hrow⟩
      · rw [set_ne e] at hz
        have := hone id z hz
        subst this
        exact ⟨_, rfl, trivial⟩
    · have key : ∀ i z (o : AO), setρ ρ 1 y i = some z → [AO.dead, AO.row IntKind.i64 E (Lib.compact l)][i]? = some o → o.live = true → i = 1 := fun i z o hz ho hl => by
        by_cases e : i = 1
        · exact e
        · rw [set_ne e] at hz
          have := hone i z hz
          subst this
          simp at ho
          subst ho
          cases hl
      exact absurd ((key i z oi hz hoi hl1).trans (key j z' oj hz' hoj hl2).symm) hij
    · have : j = 0 := by simpa using hj
      subst this
      rw [set_ne (by omega)]; exact hx
  rcases hr with ⟨rfl, rfl⟩ | ⟨b, cap', cur, rfl, hob, hg, hlc, hm, hcs, ht⟩
  · refine Calls.mono (h0 none 0 w) ?_
    rintro e w' ⟨rfl, rfl⟩
    exact fin _ _ ⟨_, _, _, rfl⟩ (.inl ⟨rfl, by simp [Lib.compact, Lib.compactUpTo]⟩) (Keep.refl ..)
  · have hb := (Array.getElem?_eq_some_iff.1 hg).1
    refine Calls.mono (hs b 0 cap' l w (holds_row hg ht) hp hlc) ?_
    rintro e w' ⟨rfl, q, rfl⟩
    have hcl := compact_le l
    have hL : (Lib.compact l ++ List.replicate (l.length - (Lib.compact l).length) (0 : Int)).length = l.length := by simp; omega
    obtain ⟨cur', g1, g2, g3⟩ := putRow_block (w := Go.Sort.ahead w q) (l := Lib.compact l ++ List.replicate (l.length - (Lib.compact l).length) 0) hg (by omega)
    refine fin _ _ ⟨_, _, _, rfl⟩ (.inr ⟨b, cap', cur', rfl, hob, g1, by omega, hm, by omega, ?_⟩) ⟨rfl, rfl, rfl, by rw [size_putRow]; exact Nat.le_refl _, fun k hk hX => putRow_other fun e => ?_⟩
    · rw [hL] at g3
      have e1 : (cur'.toList.take l.length).take (Lib.compact l).length = cur'.toList.take (Lib.compact l).length := by rw [List.take_take, Nat.min_eq_left hcl]
      rw [← e1, g3, ← List.map_take, List.take_left']
      rfl
    · subst e
      exact hX (blk_own hρ)
def tClip : MTab
  | [.own 0], [.row .i64 E l] => some (True, .own 1, [.dead, .row .i64 E l])
  | _, _ => none
theorem clip_fits {P : Program} {f : FuncId} (hc : Callable P f)
    (hs : ∀ (a : Option Addr) (n c : Nat) (w : World), n ≤ c → Calls P f #[.slice a n c] w fun e w' => e = .returned (.slice a n n) ∧ w' = w) : FitsM P f tClip := by
  refine ⟨?_⟩
  intro args L p out Ho h hp
  unfold tClip at h
  split at h <;> cases h
  rename_i E l
  refine ⟨?_, rfl, rfl, rfl, rfl, by simp, hc⟩
  intro w ρ N vs hvs hH
  simp only [RVs, RV] at hvs
  obtain ⟨x, ys, rfl, ⟨hρ, a, n, cap, hx⟩, rfl⟩ := hvs
  obtain ⟨o, ho, hr⟩ := hH.obj 0 x hρ
  simp at ho
  subst ho
  have hone := fun id y (hy : ρ id = some y) => one_lent hH hy
  have fin : ∀ (y : Value), (∃ a n cap, y = .slice a n cap) → RowR ⟨P, w, ρ, N⟩ w .i64 E l y →
      ∃ v ρ', Ending.returned y = .returned v ∧ RV ⟨P, w, ρ, N⟩ ρ' (.own 1) v ∧ HR ⟨P, w, ρ, N⟩ w ρ' [.dead, .row .i64 E l] ∧ Keep ⟨P, w, ρ, N⟩ w ∧ ∀ j x, j < [AO.row IntKind.i64 E l].length → ρ j = some x → ρ' j = some x := fun y hy hrow => by
    refine ⟨y, setρ ρ 1 y, rfl, ?_, ⟨fun id z hz => ?_, fun i j z z' oi oj hij hz hz' hoi hoj hl1 hl2 => ?_⟩, Keep.refl .., fun j x hj hx => ?_⟩
    · simp only [RV]; exact ⟨set_at .., hy⟩
    · by_cases e : id = 1
      · subst e
        rw [set_at] at hz; cases hz
        exact ⟨_, rfl, hrow⟩
      · rw [set_ne e] at hz
        have := hone id z hz
        subst this
        exact ⟨_, rfl, trivial⟩
    · have key : ∀ i z (o : AO), setρ ρ 1 y i = some z → [AO.dead, AO.row IntKind.i64 E l][i]? = some o → o.live = true → i = 1 := fun i z o hz ho hl => by
        by_cases e : i = 1
        · exact e
        · rw [set_ne e] at hz
          have := hone i z hz
          subst this
          simp at ho
          subst ho
          cases hl
      exact absurd ((key i z oi hz hoi hl1).trans (key j z' oj hz' hoj hl2).symm) hij
    · have : j = 0 := by simpa using hj
      subst this
      rw [set_ne (by omega)]; exact hx
  rcases hr with ⟨rfl, rfl⟩ | ⟨b, cap', cur, rfl, hob, hg, hlc, hm, hcs, ht⟩
  · refine Calls.mono (hs none 0 0 w (Nat.le_refl _)) ?_
    rintro e w' ⟨rfl, rfl⟩
    exact fin _ ⟨_, _, _, rfl⟩ (.inl ⟨rfl, rfl⟩)
  · refine Calls.mono (hs _ l.length cap' w hlc) ?_
    rintro e w' ⟨rfl, rfl⟩
    exact fin _ ⟨_, _, _, rfl⟩ (.inr ⟨b, l.length, cur, rfl, hob, hg, Nat.le_refl _, by omega, by omega, ht⟩)
def tClone (E : TypeId) : Tab
  | [.sl .i64 l] => some (l.length ≤ 17592186044416, .own 0, [.row .i64 E l])
  | _ => none
theorem clone_fits {P : Program} {f : FuncId} {E : TypeId} (hc : Callable P f)
    (hs : ∀ (b off n c : Nat) (zs : List Int) (w : World), n ≤ zs.length → n * 8 ≤ 140737488355328 → (∀ j, j < zs.length → w.cell? ⟨b, off + j, none⟩ = some (.int .i64 (zs.getD j 0))) →
      Calls P f #[.slice (some ⟨b, off, none⟩) n c] w fun e w' => ∃ v', e = .returned v' ∧ w'.ownsRow w.heap.size E 1 v' n ((zs.take n).map (Value.int .i64)) ∧ v' ≠ .slice none 0 0 ∧ Below w.heap.size w w')
    (h0 : ∀ (n c : Nat) (w : World), Calls P f #[.slice none n c] w fun e w' => e = .returned (.slice none 0 0) ∧ w' = w) : Fits P f (tClone E) := by
  refine ⟨hc, fun args p out Ho h hp => ?_⟩
  unfold tClone at h
  split at h <;> cases h
  rename_i l
  refine ⟨?_, rfl, rfl⟩
  intro w vs hvs
  simp only [RVs, RV] at hvs
  obtain ⟨x, ys, rfl, hsl, rfl⟩ := hvs
  have fin : ∀ (y : Value) (w' : World), (∃ a n cap, y = .slice a n cap) → RowR (cx0 P w) w' .i64 E l y → Keep (cx0 P w) w' →
      ∃ v ρ', Ending.returned y = .returned v ∧ RV (cx0 P w) ρ' (.own 0) v ∧ HR (cx0 P w) w' ρ' [.row .i64 E l] ∧ Keep (cx0 P w) w' := fun y w' hy hrow hk => by
    have hn : ∀ id z, setρ (fun _ => none) 0 y id = some z → id = 0 := fun id z hz => by
      by_cases e : id = 0
      · exact e
      · rw [set_ne e] at hz; cases hz
    refine ⟨y, setρ (fun _ => none) 0 y, rfl, by simp only [RV]; exact ⟨set_at .., hy⟩, ⟨fun id z hz => ?_, fun i j z z' oi oj hij hz hz' => absurd ((hn i z hz).trans (hn j z' hz').symm) hij⟩, hk⟩
    have := hn id z hz
    subst this
    rw [set_at] at hz; cases hz
    exact ⟨_, rfl, hrow⟩
  rcases hsl with ⟨rfl, rfl⟩ | ⟨b, o, cap, rfl, h1, h2, hcell⟩
  · refine Calls.mono (h0 0 0 w) ?_
    rintro e w' ⟨rfl, rfl⟩
    exact fin _ _ ⟨_, _, _, rfl⟩ (.inl ⟨rfl, rfl⟩) (Keep.refl ..)
  · refine Calls.mono (hs b o l.length cap l w (Nat.le_refl _) (by omega) (fun j hj => (hcell j hj).2)) ?_
    rintro e w' ⟨v', rfl, ⟨hxl, hown⟩, hne, hbel⟩
    rcases hown with ⟨rfl, _⟩ | ⟨g, cap', cur, rfl, hgb, hgg, hnc, hm, hcs, ht⟩
    · exact absurd rfl hne
    · refine fin _ _ ⟨_, _, _, rfl⟩ (.inr ⟨g, cap', cur, rfl, .inl hgb, hgg, hnc, hm, by omega, ?_⟩) (Keep.of_below hbel)
      rw [Nat.mul_one, List.take_length] at ht
      exact ht
end Go.Ab
