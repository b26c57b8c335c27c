/-
  WHAT COMES IN, read by the abstract machine: integers, rows of integers, pairs of a number and a row.
-/
import Derived.Test.YthoionlldmfpiaaDoorCfg
import Derived.WalkKit
import Derived.ProofKit
import Derived.OpenShut
import Derived.ShutString
import Derived.ChangeOld
import Derived.Below
import Derived.Carry
import Derived.Lib.SmallJoins
set_option linter.unusedSimpArgs false
set_option linter.unusedVariables false
namespace Go.Proofs.YthoionlldmfpiaaDoor
open Go Go.Ab
open Go.ChangeShapes Go.WideShapes Go.ChangeAt Go.RowKit Go.Deep Go.WideElems Go.Maps

/-- The number fits an int. -/
def in64 (n : Int) : Prop := -9223372036854775808 ≤ n ∧ n ≤ 9223372036854775807
theorem in64_of {n : Int} (h : (Lit.int .i64 n).wf = true) : in64 n := by
  simp [Lit.wf, IntKind.min, IntKind.max, IntKind.bits, IntKind.signed] at h
  unfold in64; omega

section
variable {H : Type} {enc : TypeId × Value → H} {P : Program} {W : World} {base : Nat} {t : TypeId} {v : Value} {d : DataW H} {p : List MemPlace} {c : Cx} {ρ : Nat → Option Value}

theorem op_int (ht : P.underlying t = some (.int .i64)) (h : Value.okWide P W .any base t v) (h0 : DataW.Trod enc P W 0 (fun _ => true) true t v d p) :
    ∃ n, RV c ρ (.i n) v ∧ in64 n := by
  obtain ⟨n, rfl, _, _, hw⟩ := open_int ht h h0
  exact ⟨n, rfl, in64_of hw⟩

theorem slot_none {k : IntKind} {a : Addr} {len cap : Nat} {e : TypeId} (ht : P.underlying t = some (.slice e)) (h : Cell.okWide P W .any base t (.slice (some a) len cap)) : a.spot = none := by
  simp only [Cell.okWide, ht, Cell.ok] at h
  exact h.2.2.2.1

/-- A row of integers of kind k. -/
def isRow (k : IntKind) (l : List Int) : Prop := ∀ n ∈ l, (Lit.int k n).wf = true

theorem op_row {k : IntKind} {e : TypeId} {fuel : Nat} {x : DataW H × List MemPlace} (hc : c.w0 = W) (hX : ∀ b, c.In b) (ht : P.underlying t = some (.slice e)) (he : P.underlying e = some (.int k)) (h1 : P.cellsOf e = 1)
    (h : Cell.okWide P W .any base t v) (h0 : DataW.trod enc P W 0 (fun _ => true) true fuel t [v] = some x) : ∃ l, RV c ρ (.sl k l) v ∧ isRow k l := by
  rcases open_ints ht he h1 h0 with ⟨hcs, _⟩ | ⟨a, len, cap, zs, hcs, _, hl, hm, hz, _, hcell, hwz⟩
  · simp only [List.cons.injEq, and_true] at hcs
    subst hcs
    exact ⟨[], .inl ⟨rfl, rfl⟩, fun n hn => by cases hn⟩
  · simp only [List.cons.injEq, and_true] at hcs
    subst hcs
    have hs := slot_none (k := k) ht h
    obtain ⟨b, o, s⟩ := a
    simp only at hs
    subst hs
    simp only [↓reduceIte] at hz
    have hlen : (zs.take len).length = len := by rw [List.length_take]; omega
    refine ⟨zs.take len, .inr ⟨b, o, cap, by rw [hlen], by omega, hm, fun j hj => ⟨hX b, ?_⟩⟩, fun n hn => hwz n (List.mem_of_mem_take hn)⟩
    have := hcell j (by omega)
    rw [hc]
    rw [show ((zs.take len).getD j 0) = zs.getD j 0 by rw [List.getD_eq_getElem?_getD, List.getD_eq_getElem?_getD, List.getElem?_take_of_lt (by omega)]]
    rw [← this]; congr 1; simp only [Addr.add]; split
    · rename_i hj0; have : j = 0 := by simpa using hj0
      subst this; rfl
    · rfl

theorem op_ints {k : IntKind} {e : TypeId} (hc : c.w0 = W) (hX : ∀ b, c.In b) (ht : P.underlying t = some (.slice e)) (he : P.underlying e = some (.int k)) (h1 : P.cellsOf e = 1)
    (h : Value.okWide P W .any base t v) (h0 : DataW.Trod enc P W 0 (fun _ => true) true t v d p) : ∃ l, RV c ρ (.sl k l) v ∧ isRow k l := by
  obtain ⟨a, len, cap, rfl⟩ := okWide_slice ht h
  obtain ⟨fuel, hf⟩ := h0
  simp only [Value.okWide, ht] at h
  exact op_row hc hX ht he h1 h hf

theorem op_pair {k : IntKind} {ti tl e : TypeId} {f0 f1 : Field} (hc : c.w0 = W) (hX : ∀ b, c.In b) (ht : P.underlying t = some (.struct #[f0, f1])) (hone : oneCellFields P #[f0, f1] = true) (hC : P.cellsOf t = 2)
    (e0 : f0.type = ti) (e1 : f1.type = tl) (hts : P.cellTypes P.depth t = some [ti, tl]) (hi : P.underlying ti = some (.int .i64)) (hl : P.underlying tl = some (.slice e)) (he : P.underlying e = some (.int k)) (h1 : P.cellsOf e = 1)
    (h : Value.okWide P W .any base t v) (h0 : DataW.Trod enc P W 0 (fun _ => true) true t v d p) : ∃ n l, RV c ρ (.ag [.i n, .sl k l]) v ∧ in64 n ∧ isRow k l := by
  obtain ⟨v0, v1, y0, y1, m, rfl, _, _, h2, h3⟩ := Go.Joins.open_agg2 ht hone hC h h0
  simp only [Value.okWide, ht] at h
  obtain ⟨cs, hcs, _, ts, hts', _, hall⟩ := h
  rw [hts] at hts'
  cases hts'
  cases hcs
  obtain ⟨u, hu, hok⟩ := hall 1 v1 rfl
  simp at hu
  subst hu
  rw [e0] at h2
  rw [e1] at h3
  obtain ⟨n, hv0, hx, hw⟩ := DataW.trod_int hi h2
  simp only [List.cons.injEq, and_true] at hv0
  subst hv0
  obtain ⟨l, h4, h5⟩ := op_row (ρ := ρ) hc hX hl he h1 hok h3
  exact ⟨n, l, ⟨[.int .i64 n, v1], rfl, ⟨_, _, rfl, rfl, _, _, rfl, h4, rfl⟩⟩, in64_of hw, h5⟩

theorem trod_low (h0 : DataW.Trod enc P W 0 (fun _ => true) true t v d p) : ∀ x ∈ p, x.block < W.heap.size := by
  obtain ⟨m, hm⟩ := h0
  exact DataW.trod_lt m _ _ _ hm
end

theorem rvs_nil {c : Cx} {ρ : Nat → Option Value} : RVs c ρ [] [] := by simp only [RVs]
theorem rvs_cons {c : Cx} {ρ : Nat → Option Value} {x : AV} {v : Value} {xs : List AV} {vs : List Value} (h : RV c ρ x v) (h' : RVs c ρ xs vs) : RVs c ρ (x :: xs) (v :: vs) := by
  simp only [RVs]; exact ⟨v, vs, rfl, h, h'⟩

/-- What a call owes a law: it returns true and turns nothing. -/
theorem law_call {P : Program} {f : Nat} {t : Tab} {args : List AV} {W : World} {vs : List Value} (h : Fits P f t) (ht : ∃ p, t args = some (p, .b true, []) ∧ p) (hg : GW P W) (hv : RVs (cx0 P W) (fun _ => none) args vs) :
    Calls P f vs.toArray W fun e w' => e = .returned (.bool true) ∧ Below W.heap.size W w' := by
  obtain ⟨p, ht, hp⟩ := ht
  refine ((h.call args p (.b true) [] ht hp).1 W vs hg hv).mono fun e w' ⟨v, ρ, he, h1, _, hk⟩ => ?_
  simp only [RV] at h1
  subst h1
  exact ⟨he, hk.below⟩

theorem own : ownKnob Tryd.prog.godebug = none := by kernel_rfl
theorem laidOut : laidOutB Tryd.prog = true := by kernel_rfl

end Go.Proofs.YthoionlldmfpiaaDoor
