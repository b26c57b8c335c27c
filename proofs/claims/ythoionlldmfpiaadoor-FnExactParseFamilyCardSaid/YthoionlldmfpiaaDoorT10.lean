import Derived.Test.YthoionlldmfpiaaDoorHs
import Derived.Test.YthoionlldmfpiaaDoorT9
set_option linter.unusedSimpArgs false
set_option linter.unusedVariables false
set_option maxHeartbeats 2000000
namespace Go.Proofs.YthoionlldmfpiaaDoor
open Go Go.Ab
attribute [local irreducible] aol
theorem fin_pairb {C : Cfg} {t u : Tmp} {j b : Nat} {T T' : TypeId} {k : IntKind} {E : TypeId} {l : List Int} {n : Int} {x : Bool} {d : TD} {s : ASt} (hT : C.Γ T = some d) (ha : d.agg = true) (hs : d.size = 2) (h : nth s.fr t = .bp b 0)
    (hb : s.hp[b]? = some (.box T' [.i n, .own j])) (hh : s.hp[j]? = some (.row k E l)) (hu : nth s.fr u = .b x) : FinS C [.cell t T, .tmp u] (.tu [.ag [.i n, .own 0], .b x]) [.row k E l] s := by
  exact ⟨s, Wk.refl s, (0 + 2 ≤ 2) ∧ True ∧ True, .tu [.ag [.i n, .own j], .b x], by simp [resV, resVs, resV1, aLoad, hT, ha, hs, h, hb, hu], ⟨by omega, trivial, trivial⟩, [j], by simp, rfl, by simp [hh, AO.ren]⟩
theorem FinS.wk {C : Cfg} {rs : List ResultVar} {out : AV} {Ho : List AO} {s s2 : ASt} (hw : Wk s s2) (h : FinS C rs out Ho s2) : FinS C rs out Ho s := by
  obtain ⟨s3, hw', h'⟩ := h; exact ⟨s3, hw.trans hw', h'⟩
theorem fin_pairb_nl {C : Cfg} {t u : Tmp} {b : Nat} {T T' : TypeId} {k : IntKind} {E : TypeId} {n : Int} {x : Bool} {d : TD} {s : ASt} (hT : C.Γ T = some d) (ha : d.agg = true) (hs : d.size = 2) (h : nth s.fr t = .bp b 0)
    (hb : s.hp[b]? = some (.box T' [.i n, .nl])) (hu : nth s.fr u = .b x) : FinS C [.cell t T, .tmp u] (.tu [.ag [.i n, .own 0], .b x]) [.row k E []] s := by
  have hlt := (List.getElem?_eq_some_iff.1 hb).1
  have hw := wk_cell k E (j := 1) hb rfl (by simp)
  refine FinS.wk hw (fin_pairb (j := s.hp.length) (T' := T') (n := n) (d := d) hT ha hs h ?_ ?_ hu)
  · show ((s.hp.set b (AO.box T' (upd [AV.i n, AV.nl] 1 (AV.own s.hp.length)))) ++ [AO.row k E []])[b]? = _
    rw [List.getElem?_append_left (by simpa using hlt)]; simp [hlt]; rfl
  · show ((s.hp.set b (AO.box T' (upd [AV.i n, AV.nl] 1 (AV.own s.hp.length)))) ++ [AO.row k E []])[s.hp.length]? = _
    rw [List.getElem?_append_right (by simp)]; simp
end Go.Proofs.YthoionlldmfpiaaDoor
