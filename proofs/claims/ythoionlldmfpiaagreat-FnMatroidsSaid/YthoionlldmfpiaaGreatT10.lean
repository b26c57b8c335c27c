import Derived.Test.YthoionlldmfpiaaGreatHs
import Derived.Test.YthoionlldmfpiaaGreatT8
set_option linter.unusedSimpArgs false
set_option linter.unusedVariables false
set_option maxHeartbeats 2000000
namespace Go.Proofs.YthoionlldmfpiaaGreat
open Go Go.Ab
attribute [local irreducible] aol
theorem take_succ_getD {l : List Int} {i : Nat} (h : i < l.length) : l.take (i + 1) = l.take i ++ [l.getD i 0] := by
  rw [List.take_add_one, List.getElem?_eq_getElem h, List.getD_eq_getElem?_getD, List.getElem?_eq_getElem h]; rfl
end Go.Proofs.YthoionlldmfpiaaGreat
namespace Go.Proofs.YthoionlldmfpiaaGreat
open Go Go.Ab
attribute [local irreducible] aol
theorem fin_pairb {C : Cfg} {t u : Tmp} {j b : Nat} {T T' : TypeId} {k : IntKind} {E : TypeId} {l : List Int} {n : Int} {x : Bool} {d : TD} {s : ASt} (hT : C.Γ T = some d) (ha : d.agg = true) (hs : d.size = 2) (h : nth s.fr t = .bp b 0)
    (hb : s.hp[b]? = some (.box T' [.i n, .own j])) (hh : s.hp[j]? = some (.row k E l)) (hu : nth s.fr u = .b x) : FinS C [.cell t T, .tmp u] (.tu [.ag [.i n, .own 0], .b x]) [.row k E l] s := by
  exact ⟨s, Wk.refl s, (0 + 2 ≤ 2) ∧ True ∧ True, .tu [.ag [.i n, .own j], .b x], by simp [resV, resVs, resV1, aLoad, hT, ha, hs, h, hb, hu], ⟨by omega, trivial, trivial⟩, [j], by simp, rfl, by simp [hh, AO.ren]⟩
theorem FinS.wk {C : Cfg} {rs : List ResultVar} {out : AV} {Ho : List AO} {s s2 : ASt} (hw : Wk s s2) (h : FinS C rs out Ho s2) : FinS C rs out Ho s := by
  obtain ⟨s3, hw', h'⟩ := h; exact ⟨s3, hw.trans hw', h'⟩
theorem fin_pairb_nl {C : Cfg} {t u : Tmp} {b : Nat} {T T' : TypeId} {k : IntKind} {E : TypeId} {n : Int} {x : Bool} {d : TD} {s : ASt} (hT : C.Γ T = some d) (ha : d.agg = true) (hs : d.size = 2) (h : nth s.fr t = .bp b 0)
    (hb : s.hp[b]? = some (.box T' [.i n, .nl])) (hu : nth s.fr u = .b x) : FinS C [.cell t T, .tmp u] (.tu [.ag [.i n, .own 0], .b x]) [.row k E []] s := by
  have hlt := (List.getElem?_eq_some_iff.1 hb).1
  have hw := wk_cell k E (j := 1) hb rfl (by simp)
  refine FinS.wk hw (fin_pairb (j := s.hp.length) (T' := T') (n := n) (d := d) hT ha hs h ?_ ?_ hu)
  · show ((s.hp.set b (AO.box T' (upd [AV.i n, AV.nl] 1 (AV.own s.hp.length)))) ++ [AO.row k E []])[b]? = _
    rw [List.getElem?_append_left (by simpa using hlt)]; simp [hlt]; rfl
  · show ((s.hp.set b (AO.box T' (upd [AV.i n, AV.nl] 1 (AV.own s.hp.length)))) ++ [AO.row k E []])[s.hp.length]? = _
    rw [List.getElem?_append_right (by simp)]; simp
def pickL (p : Nat → Bool) (l : List Int) (n : Nat) : List Int := ((List.range n).filter p).map fun i => l.getD i 0
theorem pickL_yes {p : Nat → Bool} {l : List Int} {n : Nat} (h : p n = true) : pickL p l (n + 1) = pickL p l n ++ [l.getD n 0] := by
  unfold pickL; rw [List.range_succ, List.filter_append, List.map_append]; simp [h]
theorem pickL_no {p : Nat → Bool} {l : List Int} {n : Nat} (h : p n = false) : pickL p l (n + 1) = pickL p l n := by
  unfold pickL; rw [List.range_succ, List.filter_append, List.map_append]; simp [h]
theorem pickL_len (p : Nat → Bool) (l : List Int) (n : Nat) : (pickL p l n).length ≤ n := by
  unfold pickL; rw [List.length_map]; exact Nat.le_trans (List.length_filter_le ..) (by simp)
def orE (b : Bool) (l : List Int) : List Int := if b then l else []
def or0 (b : Bool) (g : Int) : Int := if b then g else 0
theorem anyFirst {p : Int → Bool} : ∀ {l : List Int}, (l.findIdx? p).isSome = l.any p
  | [] => rfl
  | x :: l => by
    rw [List.findIdx?_cons, List.any_cons, ← anyFirst (l := l)]
    cases p x <;> simp
def idxV (p : Int → Bool) (l : List Int) : Int := match l.findIdx? p with | some i => (i : Int) | none => -1
theorem idxV_nonneg {p : Int → Bool} {l : List Int} : decide (0 ≤ idxV p l) = l.any p := by
  rw [← anyFirst]; unfold idxV
  cases l.findIdx? p with
  | some i => simp
  | none => simp
theorem idxV_at {p : Int → Bool} {l : List Int} {k : Nat} (hk : k < l.length) (h : ∀ m, m < k → p (l.getD m 0) = false) (hp : p (l.getD k 0) = true) : idxV p l = k := by
  unfold idxV
  have : l.findIdx? p = some k := by
    rw [List.findIdx?_eq_some_iff_getElem]
    refine ⟨hk, ?_, fun j hj => ?_⟩
    · rw [List.getD_eq_getElem?_getD, List.getElem?_eq_getElem hk] at hp; simpa using hp
    · have := h j hj
      rw [List.getD_eq_getElem?_getD, List.getElem?_eq_getElem (by omega)] at this
      simpa using this
  rw [this]
theorem idxV_none {p : Int → Bool} {l : List Int} {k : Nat} (hk : l.length ≤ k) (h : ∀ m, m < k → p (l.getD m 0) = false) : idxV p l = -1 := by
  unfold idxV
  have : l.findIdx? p = none := by
    rw [List.findIdx?_eq_none_iff]
    intro x hx
    obtain ⟨m, hm, e⟩ := List.getElem_of_mem hx
    have := h m (by omega)
    rw [List.getD_eq_getElem?_getD, List.getElem?_eq_getElem hm] at this
    rw [← e]; simpa using this
  rw [this]
theorem inc_inj {l : List Int} (h : incB l = true) {i j : Nat} (hi : i < l.length) (hj : j < l.length) (e : l.getD i 0 = l.getD j 0) : i = j := by
  rcases Nat.lt_trichotomy i j with h1 | h1 | h1
  · have := inc_lt h h1 hj; omega
  · exact h1
  · have := inc_lt h h1 hi; omega
theorem pickL_congr {p q : Nat → Bool} {l : List Int} {n : Nat} (h : ∀ i, i < n → p i = q i) : pickL p l n = pickL q l n := by
  unfold pickL
  congr 1
  exact List.filter_congr fun i hi => h i (List.mem_range.1 hi)
end Go.Proofs.YthoionlldmfpiaaGreat
