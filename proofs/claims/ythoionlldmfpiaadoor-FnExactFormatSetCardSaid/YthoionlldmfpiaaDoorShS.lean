/-
  Contracts of the kit's shelf on strings, turned into contracts of the abstract machine: Itoa, TrimPrefix, Split, Join.
-/
import Derived.Test.YthoionlldmfpiaaDoorAbI
import Derived.Sort.Grow
import Derived.Deep.Draws
import Derived.Lib.Split
import Derived.Lib.SplitLaws
import Derived.Lib.Join
import Derived.Lib.Strings
import Derived.Lib.ItoaNum
set_option linter.unusedSimpArgs false
set_option linter.unusedVariables false
namespace Go.Ab
open Go Go.RowKit

/-! ### Rows of strings, by their bytes -/
def sr (xs : List (List UInt8)) : List (List Value) := xs.map fun x => [Value.string ⟨List.toArray x⟩]
def strs (rs : List (List Value)) : List (List UInt8) := rs.map fun r => match r with | [.string s] => s.data.toList | _ => []
theorem strs_sr (xs : List (List UInt8)) : strs (sr xs) = xs := by
  unfold strs sr
  rw [List.map_map]
  exact (List.map_congr_left fun x _ => rfl).trans (List.map_id xs)
theorem sr_len (xs : List (List UInt8)) : (sr xs).length = xs.length := by simp [sr]
theorem sr_nil : sr [] = [] := rfl
theorem sr_app (xs : List (List UInt8)) (x : List UInt8) : sr xs ++ [[Value.string ⟨List.toArray x⟩]] = sr (xs ++ [x]) := by simp [sr]
theorem sr_at {xs : List (List UInt8)} {j : Nat} (h : j < xs.length) : (sr xs).getD j [] = [.string ⟨List.toArray (xs.getD j [])⟩] := by
  rw [sr, List.getD_eq_getElem?_getD, List.getElem?_map, List.getElem?_eq_getElem h, List.getD_eq_getElem?_getD, List.getElem?_eq_getElem h]; rfl
theorem sr_load {xs : List (List UInt8)} {j : Nat} (h : j < xs.length) : constAV (((sr xs).getD j []).getD 0 undef) = .v (.string ⟨List.toArray (xs.getD j [])⟩) := by
  rw [sr_at h]; rfl
theorem sr_flat (xs : List (List UInt8)) : (sr xs).flatten = xs.map fun x => Value.string ⟨List.toArray x⟩ := by
  induction xs with
  | nil => rfl
  | cons x xs ih => simp [sr] at ih ⊢; exact ih
theorem sr_ok (xs : List (List UInt8)) : RsOk 1 (sr xs) := by
  refine ⟨by decide, fun r hr => ?_⟩
  obtain ⟨x, _, rfl⟩ := List.mem_map.1 hr
  exact ⟨rfl, fun u hu => by rw [List.mem_singleton.1 hu]; rfl⟩

theorem hr_nil (c : Cx) (w : World) : HR c w nor [] := ⟨fun id x h => (by cases h), fun i j x y oi oj _ h => (by cases h)⟩
theorem below_grow (w : World) (k : Nat) (os : Array Obj) : Below w.heap.size w (Go.Sort.grow (w.drewN k) os) :=
  ⟨rfl, rfl, rfl, by rw [Go.Sort.size_grow]; exact Nat.le_add_right _ _, fun j hj => Go.Sort.heap_grow_old (w.drewN k) os hj⟩
theorem mk_toL (s : ByteArray) : (⟨List.toArray s.data.toList⟩ : ByteArray) = s := by
  apply ByteArray.ext; simp

theorem after_rcS {p : Prop} {out : AV} {E : TypeId} {wd : Nat} {rs : List (List Value)} {H : List AO} {K : AV → List AO → Prop} {L : Prop} : after (some (p, out, [.rc E wd rs])) H K L = (p ∧ K (out.shift H.length) (H ++ [.rc E wd rs])) := rfl

/-! ### Itoa -/
def tItoa : Tab
  | [.i n] => some (-9223372036854775808 ≤ n ∧ n ≤ 9223372036854775807, .v (.string ⟨List.toArray (Lib.itoa n)⟩), [])
  | _ => none
theorem itoa_fits {P : Program} {f : Nat} {name : String} (hc : Callable P f) (hg : P.globalNamed name = some 3)
    (hs : ∀ (n : Int), -9223372036854775808 ≤ n → n ≤ 9223372036854775807 → ∀ w : World, Lib.TabIs P w name .u64 Lib.pow10Tab →
      Calls P f #[.int .i64 n] w fun e w' => e = .returned (.string ⟨(Lib.itoa n).toArray⟩) ∧ ∃ k os, w' = Go.Sort.grow (w.drewN k) os) : Fits P f tItoa := by
  refine ⟨hc, ?_⟩
  intro args p out Ho h hp
  unfold tItoa at h
  split at h <;> cases h
  rename_i n
  refine ⟨?_, rfl, rfl⟩
  intro w vs hgw hvs
  simp only [RVs, RV] at hvs
  obtain ⟨x, ys, rfl, rfl, rfl⟩ := hvs
  refine Calls.mono (hs n hp.1 hp.2 w (hgw.tab hg)) ?_
  rintro e w' ⟨rfl, k, os, rfl⟩
  exact ⟨_, nor, rfl, by simp only [RV], hr_nil _ _, Keep.of_below hgw (below_grow w k os)⟩

/-! ### TrimPrefix -/
def tTrim : Tab
  | [.v (.string s), .v (.string p)] => some (True, .v (.string ⟨List.toArray (Lib.trimPrefix s.data.toList p.data.toList)⟩), [])
  | _ => none
theorem trim_fits {P : Program} {f : Nat} (hc : Callable P f)
    (hs : ∀ (s p : ByteArray) (w : World), Calls P f #[.string s, .string p] w fun e w' => e = .returned (.string ⟨(Lib.trimPrefix s.data.toList p.data.toList).toArray⟩) ∧ w' = w) : Fits P f tTrim := by
  refine ⟨hc, ?_⟩
  intro args p out Ho h hp
  unfold tTrim at h
  split at h <;> cases h
  rename_i s q
  refine ⟨?_, rfl, rfl⟩
  intro w vs hgw hvs
  simp only [RVs, RV] at hvs
  obtain ⟨x, ys, rfl, rfl, z, zs, rfl, rfl, rfl⟩ := hvs
  refine Calls.mono (hs s q w) ?_
  rintro e w' ⟨rfl, rfl⟩
  exact ⟨_, nor, rfl, by simp only [RV], hr_nil _ _, Keep.of_below hgw (Below.refl _ _)⟩

/-! ### Split at one byte -/
def splitC (c : UInt8) : List UInt8 → List (List UInt8)
  | [] => [[]]
  | b :: s => if b = c then [] :: splitC c s else match splitC c s with
    | [] => [[b]]
    | p :: ps => (b :: p) :: ps
theorem splitC_eq (c : UInt8) : ∀ s : List UInt8, Lib.splitK [c] 0 (Lib.count s [c]) s = splitC c s
  | [] => by
    have : Lib.count [] [c] = 0 := by rw [Lib.count_one]; rfl
    rw [this]; rfl
  | b :: s => by
    have ih := splitC_eq c s
    by_cases h : b = c
    · subst h
      rw [Lib.count_cons_eq, Nat.add_comm, splitC, if_pos rfl, ← ih]
      have hi : Lib.index (b :: s) [b] = 0 := by simp [Lib.index, List.isPrefixOf]
      rw [Lib.splitK, hi, if_neg (by decide)]
      rfl
    · rw [Lib.count_cons_ne _ _ _ h, splitC, if_neg h, ← ih]
      have hp : ([c] : List UInt8).isPrefixOf (b :: s) = false := by
        simp [List.isPrefixOf, Ne.symm h]
      cases hk : Lib.count s [c] with
      | zero => rfl
      | succ k =>
        have hi : Lib.index (b :: s) [c] = if Lib.index s [c] == -1 then -1 else Lib.index s [c] + 1 := by
          rw [Lib.index, hp]; rfl
        have hge := Lib.index_ge s [c]
        by_cases hn : Lib.index s [c] = -1
        · rw [hn] at hi
          rw [Lib.splitK, hi, Lib.splitK, hn]
          rfl
        · have hb : ¬ (Lib.index s [c] == -1) = true := by simpa using hn
          rw [if_neg hb] at hi
          have hb2 : ¬ (Lib.index s [c] + 1 == -1) = true := by simp; omega
          rw [Lib.splitK, hi, if_neg hb2, Lib.splitK, if_neg hb]
          have e : (Lib.index s [c] + 1).toNat = (Lib.index s [c]).toNat + 1 := by omega
          rw [e]
          simp [List.take_succ_cons, List.drop_succ_cons]
theorem splitC_len (c : UInt8) : ∀ s : List UInt8, (splitC c s).length ≤ s.length + 1 ∧ 0 < (splitC c s).length
  | [] => by simp [splitC]
  | b :: s => by
    have ih := splitC_len c s
    rw [splitC]
    split
    · simp; omega
    · cases h : splitC c s with
      | nil => simp
      | cons p ps => rw [h] at ih; simp at ih ⊢; omega
theorem splitC_mem (c : UInt8) : ∀ s : List UInt8, ∀ x ∈ splitC c s, x.length ≤ s.length
  | [] => by simp [splitC]
  | b :: s => by
    have ih := splitC_mem c s
    intro x hx
    rw [splitC] at hx
    split at hx
    · rcases List.mem_cons.1 hx with rfl | hx
      · simp
      · have := ih x hx; simp; omega
    · cases h : splitC c s with
      | nil => rw [h] at hx; simp at hx; subst hx; simp
      | cons p ps =>
        rw [h] at hx ih
        rcases List.mem_cons.1 hx with rfl | hx
        · have := ih p (by simp); simp; omega
        · have := ih x (by simp [hx]); simp; omega

def tSpl (E : TypeId) : Tab
  | [.v (.string s), .v (.string p)] => some (s.size < 4294967281 ∧ p.size = 1, .own 0, [.rc E 1 (sr (splitC (p.data.toList.getD 0 0) s.data.toList))])
  | _ => none
theorem split_fits {P : Program} {f E : Nat} (hc : Callable P f)
    (hs : ∀ (s sep : ByteArray) (m : Int) (w : World), s.size < 4294967281 → w.cell? ⟨0, 0, none⟩ = some (.int .i64 m) → 1 ≤ sep.size →
      Calls P f #[.string s, .string sep] w fun e w' => e = .returned (.slice (some ⟨w.heap.size, 0, none⟩) (Lib.countB s sep + 1) (Lib.countB s sep + 1)) ∧
        w' = w.alloc (.cells ((Lib.splitB sep 0 (Lib.countB s sep) s).map Value.string).toArray E)) : Fits P f (tSpl E) := by
  refine ⟨hc, ?_⟩
  intro args p out Ho h hp
  unfold tSpl at h
  split at h <;> cases h
  rename_i s q
  refine ⟨?_, rfl, rfl⟩
  intro w vs hgw hvs
  simp only [RVs, RV] at hvs
  obtain ⟨x, ys, rfl, rfl, z, zs, rfl, rfl, rfl⟩ := hvs
  obtain ⟨hlt, h1⟩ := hp
  obtain ⟨m, hm⟩ := hgw.ml
  obtain ⟨c, rfl⟩ := Lib.one_byte q h1
  have hN := (Lib.splitB_all ⟨#[c]⟩ (Nat.le_refl 1) 0 _ s rfl)
  have hd := Lib.splitB_data ⟨#[c]⟩ 0 (Lib.countB s ⟨#[c]⟩) s
  have hsp : (Lib.splitB ⟨#[c]⟩ 0 (Lib.countB s ⟨#[c]⟩) s).map (·.data.toList) = splitC c s.data.toList := hd.trans (splitC_eq c s.data.toList)
  have hlen : (splitC c s.data.toList).length = Lib.countB s ⟨#[c]⟩ + 1 := by rw [← hsp, List.length_map, hN]
  have hle := (splitC_len c s.data.toList).1
  have hsz : s.data.toList.length = s.size := (Lib.size_eq s).symm
  have hcur : ((Lib.splitB ⟨#[c]⟩ 0 (Lib.countB s ⟨#[c]⟩) s).map Value.string) = (sr (splitC c s.data.toList)).flatten := by
    rw [sr_flat, ← hsp, List.map_map]
    refine List.map_congr_left fun x _ => ?_
    simp only [Function.comp_apply, mk_toL]
  refine Calls.mono (hs s ⟨#[c]⟩ m w hlt hm (Nat.le_refl 1)) ?_
  rintro e w' ⟨rfl, rfl⟩
  refine ⟨_, setρ nor 0 (.slice (some ⟨w.heap.size, 0, none⟩) (Lib.countB s ⟨#[c]⟩ + 1) (Lib.countB s ⟨#[c]⟩ + 1)), rfl, ?_, ⟨fun id z hz => ?_, fun i j z z' oi oj hij hz hz' hoi hoj _ _ _ => ?_⟩, Keep.of_below hgw ((Below.refl _ _).alloc (Nat.le_refl _) _)⟩
  · simp only [RV]; exact ⟨setρ_same _ _ _, _, _, _, rfl⟩
  · by_cases e : id = 0
    · subst e
      rw [setρ_same] at hz; cases hz
      refine ⟨_, rfl, .inr ⟨w.heap.size, Lib.countB s ⟨#[c]⟩ + 1, ((Lib.splitB ⟨#[c]⟩ 0 (Lib.countB s ⟨#[c]⟩) s).map Value.string).toArray, ?_, .inl (Nat.le_refl _), heap_alloc_new w _, sr_ok _, ?_, ?_, ?_, ?_⟩⟩
      · rw [sr_len]; show _ = Value.slice _ (splitC c s.data.toList).length _; rw [hlen]
      · rw [sr_len]; show (splitC c s.data.toList).length ≤ _; rw [hlen]; exact Nat.le_refl _
      · unfold maxLen; omega
      · rw [List.size_toArray, List.length_map, hN]; omega
      · rw [sr_len, Nat.mul_one]
        show ((Lib.splitB _ _ _ s).map Value.string).take (splitC c s.data.toList).length = _
        rw [List.take_of_length_le (by rw [List.length_map, hN, hlen]; exact Nat.le_refl _)]
        exact hcur
    · simp [setρ, e, nor] at hz
  · have k1 : i = 0 := by
      by_cases e : i = 0
      · exact e
      · simp [setρ, e, nor] at hz
    have k2 : j = 0 := by
      by_cases e : j = 0
      · exact e
      · simp [setρ, e, nor] at hz'
    exact absurd (k1.trans k2.symm) hij

/-! ### Join -/
def tJn : Tab
  | [.sc wd rs, .v (.string p)] => some (wd = 1 ∧ rs = sr (strs rs) ∧ rs.length ≤ 140737488355328 ∧ (Lib.join (strs rs) p.data.toList).length ≤ 140737488355328, .v (.string ⟨List.toArray (Lib.join (strs rs) p.data.toList)⟩), [])
  | _ => none
theorem join_fits {P : Program} {f : Nat} (hc : Callable P f)
    (h0 : ∀ (a : Option Addr) (c : Nat) (sep : ByteArray) (w : World), Calls P f #[.slice a 0 c, .string sep] w fun e w' => e = .returned (.string ⟨#[]⟩) ∧ w' = w)
    (h1 : ∀ (bk o c : Nat) (xs : List ByteArray) (sep : ByteArray) (w : World), (∀ (j : Nat) x, xs[j]? = some x → w.cell? ⟨bk, o + j, none⟩ = some (.string x)) → bk < w.heap.size → xs.length ≤ 140737488355328 → xs.length ≤ c →
      (Lib.join (xs.map (·.data.toList)) sep.data.toList).length ≤ 140737488355328 →
      Calls P f #[.slice (some ⟨bk, o, none⟩) xs.length c, .string sep] w fun e w' => e = .returned (.string ⟨(Lib.join (xs.map (·.data.toList)) sep.data.toList).toArray⟩) ∧ Below w.heap.size w w') : Fits P f tJn := by
  refine ⟨hc, ?_⟩
  intro args p out Ho h hp
  unfold tJn at h
  split at h <;> cases h
  rename_i wd rs q
  refine ⟨?_, rfl, rfl⟩
  intro w vs hgw hvs
  simp only [RVs, RV] at hvs
  obtain ⟨x, ys, rfl, hx, z, zs, rfl, rfl, rfl⟩ := hvs
  obtain ⟨rfl, hrs, hlen, hj⟩ := hp
  generalize hX : strs rs = xs at *
  subst hrs
  rw [sr_len] at hlen
  have done : ∀ (w' : World) (s : List UInt8), s = Lib.join xs q.data.toList → Below w.heap.size w w' → ∃ v ρ, Ending.returned (.string ⟨List.toArray s⟩) = .returned v ∧ RV (cx0 P w) ρ (.v (.string ⟨List.toArray (Lib.join xs q.data.toList)⟩)) v ∧ HR (cx0 P w) w' ρ [] ∧ Keep (cx0 P w) w' := fun w' s hs hb => by
    subst hs
    exact ⟨_, nor, rfl, by simp only [RV], hr_nil _ _, Keep.of_below hgw hb⟩
  rcases hx with ⟨rfl, he⟩ | ⟨b, o, cap, rfl, _, hc', hm, hcl⟩
  · have : xs = [] := by
      have := congrArg List.length he
      rw [sr_len] at this
      exact List.length_eq_zero_iff.1 this
    subst this
    refine Calls.mono (h0 none 0 q w) ?_
    rintro e w' ⟨rfl, rfl⟩
    exact done w' [] rfl (Below.refl _ _)
  · rw [sr_len] at hc' ⊢
    rw [sr_flat] at hcl
    cases hxs : xs with
    | nil =>
      subst hxs
      refine Calls.mono (h0 _ cap q w) ?_
      rintro e w' ⟨rfl, rfl⟩
      exact done w' [] rfl (Below.refl _ _)
    | cons y r =>
      rw [← hxs]
      have hcell : ∀ (j : Nat) u, (xs.map fun x => Value.string ⟨List.toArray x⟩)[j]? = some u → w.cell? ⟨b, o + j, none⟩ = some u := fun j u hu => (hcl j u hu).2
      have hb : b < w.heap.size := World.block_lt_of_cell? _ _ (hcell 0 _ (by rw [hxs]; rfl))
      have hm' : (xs.map fun x => (⟨List.toArray x⟩ : ByteArray)).map (·.data.toList) = xs := by
        rw [List.map_map]
        exact (List.map_congr_left fun x _ => rfl).trans (List.map_id xs)
      have := h1 b o cap (xs.map fun x => (⟨List.toArray x⟩ : ByteArray)) q w (fun j x hx => hcell j _ (by
        rw [List.getElem?_map] at hx ⊢
        cases hj' : xs[j]? with
        | none => rw [hj'] at hx; cases hx
        | some v => rw [hj'] at hx; cases hx; rfl)) hb (by rw [List.length_map]; exact hlen) (by rw [List.length_map]; exact hc') (by rw [hm']; exact hj)
      rw [List.length_map, hm'] at this
      refine this.mono ?_
      rintro e w' ⟨rfl, hbl⟩
      exact done w' _ rfl hbl

end Go.Ab
