/-
  WHAT COMES IN AT A ROW THAT LISTS VARIABLES: the library's variables as the abstract machine wants them; strings; the frame of the proof.
-/
import Derived.Test.YthoionlldmfpiaaDoorTop
import Derived.Test.YthoionlldmfpiaaDoorRows
import Derived.Test.YthoionlldmfpiaaDoorCards
import Derived.Test.YthoionlldmfpiaaDoorTie
import Derived.Lay
import Derived.LaidMore
import Derived.SevenTiedAt
import Derived.Stop.Joined
import Derived.Stop.LaidErr
import Derived.Shelf.Vars
import Derived.ChangeMaps5
set_option linter.unusedSimpArgs false
set_option linter.unusedVariables false
namespace Go.Proofs.YthoionlldmfpiaaDoor
open Go Go.Ab
open Go.ChangeShapes Go.WideShapes Go.ChangeAt Go.RowKit

section
variable {H : Type} {enc : TypeId × Value → H} {P : Program} {W : World} {base : Nat} {t : TypeId} {v : Value} {d : DataW H} {p : List MemPlace} {c : Cx} {ρ : Nat → Option Value}
theorem op_str (ht : P.underlying t = some .string) (h : Value.okWide P W .any base t v) (h0 : DataW.Trod enc P W 0 (fun _ => true) true t v d p) :
    ∃ s : ByteArray, RV c ρ (.v (.string s)) v ∧ s.size ≤ maxLen := by
  obtain ⟨s, rfl, _, _, hs⟩ := Go.ChangeMaps.open_string ht h h0
  exact ⟨s, by simp only [RV], hs⟩
end

theorem gw_of {W : World} {x y : String × DataW Unit} {name : String} {rest : List (String × DataW Unit)} (hn : Tryd.prog.globalNamed name = some 3) (hsh : W.ShapedOpen Tryd.prog)
    (hp : ((x :: y :: (name, Rows.laid_internal_strconv_uint64pow10) :: rest).all fun x => x.2.handleName?.isNone) = true)
    (hL : laidMetH Tryd.prog (x :: y :: (name, Rows.laid_internal_strconv_uint64pow10) :: rest) W) : GW Tryd.prog W := by
  rw [MakeChecks.laidMetH_plain _ _ _ hp] at hL
  have h1 := hL.tail.tail
  rw [show (Rows.laid_internal_strconv_uint64pow10 : DataW Unit) = Lib.tabData .u64 Lib.pow10Tab by kernel_rfl] at h1
  have hT := Lib.tabIs_of_head hn (t := 92) (e := 79) (n := 20) (by kernel_rfl) Tryd.underlying92 Tryd.underlying79 (by kernel_rfl) (by kernel_rfl) h1
  have p10 : ∃ T fz, W.heap[3]? = some (.cells (Lib.pow10Tab.map fun z => Value.int .u64 z).toArray T fz) := by
    unfold Lib.TabIs World.var? at hT
    rw [hn, Option.bind_some] at hT
    split at hT
    · rename_i cs T fz hg
      cases hT
      exact ⟨T, fz, hg⟩
    · cases hT
  have ml : ∃ m, W.cell? ⟨0, 0, none⟩ = some (.int .i64 m) :=
    Go.Proofs.cell_of_shapedOpen_int (zero := #[.int .i64 0]) (t := 3) hsh (of_decide_eq_true (by kernel_rfl)) (by kernel_rfl) rfl (by kernel_rfl) (by kernel_rfl) Tryd.underlying3
  refine ⟨?_, ml, p10⟩
  rintro k (rfl | rfl)
  · obtain ⟨m, hm⟩ := ml
    exact World.block_lt_of_cell? _ _ hm
  · obtain ⟨T, fz, hg⟩ := p10
    exact (Array.getElem?_eq_some_iff.1 hg).1
end Go.Proofs.YthoionlldmfpiaaDoor
