import Derived.Test.YtjlpjkiadohkiaaHs
import Derived.Test.YtjlpjkiadohkiaaT8
set_option linter.unusedSimpArgs false
set_option linter.unusedVariables false
set_option maxHeartbeats 2000000
namespace Go.Proofs.Ytjlpjkiadohkiaa
open Go Go.Ab
attribute [local irreducible] aol


theorem take_succ_getD {l : List Int} {i : Nat} (h : i < l.length) : l.take (i + 1) = l.take i ++ [l.getD i 0] := by
  rw [List.take_add_one, List.getElem?_eq_getElem h, List.getD_eq_getElem?_getD, List.getElem?_eq_getElem h]; rfl
end Go.Proofs.Ytjlpjkiadohkiaa
namespace Go.Proofs.Ytjlpjkiadohkiaa
open Go Go.Ab
attribute [local irreducible] aol


theorem fin_pairb {C : Cfg} {t u : Tmp} {j b : Nat} {T T' : TypeId} {k : IntKind} {E : TypeId} {l : List Int} {n : Int} {x : Bool} {d : TD} {s : ASt} (hT : C.Γ T = some d) (ha : d.agg = true) (hs : d.size = 2) (h : nth s.fr t = .bp b 0)
    (hb : s.hp[b]? = some (.box T' [.i n, .own j])) (hh : s.hp[j]? = some (.row k E l)) (hu : nth s.fr u = .b x) : FinS C [.cell t T, .tmp u] (.tu [.ag [.i n, .own 0], .b x]) [.row k E l] s := by
  exact ⟨s, Wk.refl s, (0 + 2 ≤ 2) ∧ True ∧ True, .tu [.ag [.i n, .own j], .b x], by simp [resV, resVs, resV1, aLoad, hT, ha, hs, h, hb, hu], ⟨by omega, trivial, trivial⟩, [j], by simp, rfl, by simp [hh, AO.ren]⟩
theorem FinS.wk {C : Cfg} {rs : List ResultVar} {out : AV} {Ho : List AO} {s s2 : ASt} (hw : Wk s s2) (h : FinS C rs out Ho s2) : FinS C rs out Ho s := by
  obtain ⟨s3, hw', h'⟩ := h; exact ⟨s3, hw.trans hw', h'⟩
theorem fin_pairb_nl {C : Cfg} {t u : Tmp} {b : Nat} {T T' : TypeId} {k : IntKind} {E : TypeId} {n : Int} {x : Bool} {d : TD} {s : ASt} (hT : C.Γ T = some d) (ha : d.agg = true) (hs : d.size = 2) (h : nth s.fr t = .bp b 0)
    (hb : s.hp[b]? = some (.box T' [.i n, .nl])) (hu : nth s.fr u = .b x) : FinS C [.cell t T, .tmp u] (.tu [.ag [.i n, .own 0], .b x]) [.row k E []] s := by
  have hlt := (List.getElem?_eq_some_iff.1 hb).1
  have hw := wk_cell k E (j := 1) hb rfl (by simp)
  refine FinS.wk hw (fin_pairb (j := s.hp.length) (T' := T') (n := n) (d := d) hT ha hs h ?_ ?_ hu)
  · show ((s.hp.set b (AO.box T' (upd [AV.i n, AV.nl] 1 (AV.own s.hp.length)))) ++ [AO.row k E []])[b]? = _
    rw [List.getElem?_append_left (by simpa using hlt)]; simp [hlt]; rfl
  · show ((s.hp.set b (AO.box T' (upd [AV.i n, AV.nl] 1 (AV.own s.hp.length)))) ++ [AO.row k E []])[s.hp.length]? = _
    rw [List.getElem?_append_right (by simp)]; simp

def orE (b : Bool) (l : List Int) : List Int := if b then l else []
def or0 (b : Bool) (g : Int) : Int := if b then g else 0
end Go.Proofs.Ytjlpjkiadohkiaa
namespace Go.Proofs.Ytjlpjkiadohkiaa
open Go Go.Ab
attribute [local irreducible] aol


def rangeL (p : Int → Bool) (n : Nat) : List Int := ((List.range n).filter fun (i : Nat) => p (i : Int)).map fun (i : Nat) => (i : Int)
theorem rangeL_yes {p : Int → Bool} {n : Nat} (h : p (n : Int) = true) : rangeL p (n + 1) = rangeL p n ++ [(n : Int)] := by
  unfold rangeL; rw [List.range_succ, List.filter_append, List.map_append]; simp [h]
theorem rangeL_no {p : Int → Bool} {n : Nat} (h : p (n : Int) = false) : rangeL p (n + 1) = rangeL p n := by
  unfold rangeL; rw [List.range_succ, List.filter_append, List.map_append]; simp [h]
theorem rangeL_len (p : Int → Bool) (n : Nat) : (rangeL p n).length ≤ n := by
  unfold rangeL; rw [List.length_map]; exact Nat.le_trans (List.length_filter_le ..) (by simp)
theorem mem_rangeL {p : Int → Bool} {n : Nat} {x : Int} : x ∈ rangeL p n ↔ (0 ≤ x ∧ x < n) ∧ p x = true := by
  unfold rangeL
  simp only [List.mem_map, List.mem_filter, List.mem_range]
  constructor
  · rintro ⟨i, ⟨h1, h2⟩, rfl⟩; exact ⟨by omega, h2⟩
  · rintro ⟨h1, h2⟩
    obtain ⟨i, rfl⟩ := Int.eq_ofNat_of_zero_le h1.1
    exact ⟨i, ⟨by omega, h2⟩, rfl⟩
theorem rangeL_asc (p : Int → Bool) (n : Nat) : (rangeL p n).Pairwise (· < ·) := by
  unfold rangeL
  rw [List.pairwise_map]
  exact (List.Pairwise.filter _ List.pairwise_lt_range).imp (fun h => by omega)
theorem inc_of_asc {l : List Int} (h : l.Pairwise (· < ·)) : incB l = true := inc_true fun j hj => by
  have := List.pairwise_iff_getElem.1 h j (j + 1) (by omega) hj (by omega)
  rw [List.getD_eq_getElem?_getD, List.getD_eq_getElem?_getD, List.getElem?_eq_getElem (by omega), List.getElem?_eq_getElem hj]
  exact this
end Go.Proofs.Ytjlpjkiadohkiaa
