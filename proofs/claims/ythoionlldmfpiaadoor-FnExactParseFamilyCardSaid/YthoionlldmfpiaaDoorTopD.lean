/-
  WHAT COMES IN AT A ROW THAT LISTS VARIABLES: the library's variables as the abstract machine wants them; strings; the frame of the proof.
-/
import Derived.Test.YthoionlldmfpiaaDoorTop
import Derived.Test.YthoionlldmfpiaaDoorRows
import Derived.Test.YthoionlldmfpiaaDoorCards
import Derived.Test.YthoionlldmfpiaaDoorTie
import Derived.Lay
import Derived.LaidMore
import Derived.SevenTiedAt
import Derived.Stop.Joined
import Derived.Stop.LaidErr
import Derived.Shelf.Vars
import Derived.ChangeMaps5
set_option linter.unusedSimpArgs false
set_option linter.unusedVariables false
namespace Go.Proofs.YthoionlldmfpiaaDoor
open Go Go.Ab
open Go.ChangeShapes Go.WideShapes Go.ChangeAt Go.RowKit

section
variable {H : Type} {enc : TypeId × Value → H} {P : Program} {W : World} {base : Nat} {t : TypeId} {v : Value} {d : DataW H} {p : List MemPlace} {c : Cx} {ρ : Nat → Option Value}
theorem op_str (ht : P.underlying t = some .string) (h : Value.okWide P W .any base t v) (h0 : DataW.Trod enc P W 0 (fun _ => true) true t v d p) :
    ∃ s : ByteArray, RV c ρ (.v (.string s)) v ∧ s.size ≤ maxLen := by
  obtain ⟨s, rfl, _, _, hs⟩ := Go.ChangeMaps.open_string ht h h0
  exact ⟨s, by simp only [RV], hs⟩

/-- A contract that is told the listed variables and the world's shape. -/
theorem door {a : Assume} {C : Checked} {os : Os} {f : FuncId} {fn : Func} {s : ChangeSpec} {conds : List PathCond} {apart fresh handsOn again : Bool} {laid : List (String × DataW Unit)}
    (own : ownKnob C.prog.godebug = none) (started : os.Started) (noInit : C.prog.inits.idxOf? f = none) (hfn : C.prog.funcs[f]? = some fn)
    (witness : ∃ (w : World) (tape : Tape) (i : Input), w.os = os ∧ (w.forCall tape i).Shaped C.prog ∧ i.vars = [] ∧ Input.okWide C.prog (w.forCall tape i) .any w.heap.size f i ∧
      ((s.pre enc C.prog fn conds apart (w.forCall tape i).memory i.args ∧ laidMetH C.prog laid (w.forCall tape i).memory) ∧ sizedMet enc C.prog fn (OpenSpec.ofChange s) apart (w.forCall tape i).memory i.args) ∧
        a.holds C.prog (lone (Frame.enter C.prog f i.args .normal) [] (w.forCall tape i)))
    (contract : ∀ (W : World) (base : Nat) (args : Array Value) (ds gs : List (DataW H)) (before : List MemPlace),
      (∀ (j : Nat) t v, fn.params[j]? = some t → args[j]? = some v → Value.okWide C.prog W .any base t v) →
      DataW.Whole enc C.prog fn.params.toList s.vars apart W args.toList ds gs before → laidMetH C.prog laid W → W.ShapedOpen C.prog →
      Calls C.prog f args W fun e W' => ∃ v, e = .returned v ∧ s.post enc C.prog fn apart fresh handsOn again W args v W') :
    ReturnsInHanded a C os f .any (fun w args => (s.pre enc C.prog fn conds apart w args ∧ laidMetH C.prog laid w) ∧ sizedMet enc C.prog fn (OpenSpec.ofChange s) apart w args) (s.post enc C.prog fn apart fresh handsOn again) := by
  refine returnsInHanded_of_calls own started noInit witness ?_
  rintro w tape i _ hsh _ ⟨_, _, _, fn', hfn', _, _, _, _, hval⟩ ⟨⟨⟨ds, gs, before, hw, _⟩, hx⟩, _⟩ _
  cases hfn'.symm.trans hfn
  refine Calls.mono (contract (w.forCall tape i) w.heap.size i.args ds gs before hval (DataW.Whole.of_heap (w' := w.forCall tape i) (by rfl) hw) (hx.of_heap (by rfl)) hsh) ?_
  rintro _ W' ⟨v, rfl, hp⟩
  exact ChangeSpec.post_blind hp
end

theorem gw_of {W : World} {x y : String × DataW Unit} {name : String} {rest : List (String × DataW Unit)} (hn : Tryd.prog.globalNamed name = some 3) (hsh : W.ShapedOpen Tryd.prog)
    (hp : ((x :: y :: (name, Rows.laid_internal_strconv_uint64pow10) :: rest).all fun x => x.2.handleName?.isNone) = true)
    (hL : laidMetH Tryd.prog (x :: y :: (name, Rows.laid_internal_strconv_uint64pow10) :: rest) W) : GW Tryd.prog W := by
  rw [MakeChecks.laidMetH_plain _ _ _ hp] at hL
  have h1 := hL.tail.tail
  rw [show (Rows.laid_internal_strconv_uint64pow10 : DataW Unit) = Lib.tabData .u64 Lib.pow10Tab by kernel_rfl] at h1
  have hT := Lib.tabIs_of_head hn (t := 92) (e := 79) (n := 20) (by kernel_rfl) Tryd.underlying92 Tryd.underlying79 (by kernel_rfl) (by kernel_rfl) h1
  have p10 : ∃ T fz, W.heap[3]? = some (.cells (Lib.pow10Tab.map fun z => Value.int .u64 z).toArray T fz) := by
    unfold Lib.TabIs World.var? at hT
    rw [hn, Option.bind_some] at hT
    split at hT
    · rename_i cs T fz hg
      cases hT
      exact ⟨T, fz, hg⟩
    · cases hT
  have ml : ∃ m, W.cell? ⟨0, 0, none⟩ = some (.int .i64 m) :=
    Go.Proofs.cell_of_shapedOpen_int (zero := #[.int .i64 0]) (t := 3) hsh (of_decide_eq_true (by kernel_rfl)) (by kernel_rfl) rfl (by kernel_rfl) (by kernel_rfl) Tryd.underlying3
  refine ⟨?_, ml, p10⟩
  rintro k (rfl | rfl)
  · obtain ⟨m, hm⟩ := ml
    exact World.block_lt_of_cell? _ _ hm
  · obtain ⟨T, fz, hg⟩ := p10
    exact (Array.getElem?_eq_some_iff.1 hg).1
end Go.Proofs.YthoionlldmfpiaaDoor
