/-
  THE TYPES OF THIS TRANSLATION, as the abstract machine wants them.
-/
import Derived.Test.YtjlpjkiadohkiaaAbI
import Derived.Test.YtjlpjkiadohkiaaProg
import Derived.KernelRfl
set_option linter.unusedSimpArgs false
set_option linter.unusedVariables false
set_option maxRecDepth 10000
namespace Go.Proofs.Ytjlpjkiadohkiaa
open Go Go.Ab

def tInt : TD := ⟨.int .i64, 1, 8, [.i 0]⟩
def tBool : TD := ⟨.bool, 1, 1, [.b false]⟩
def tInts : TD := ⟨.slice 3, 1, 24, [.nl]⟩
def tUint : TD := ⟨.int .u64, 1, 8, [.v (.int .u64 0)]⟩
def tU32 : TD := ⟨.int .u32, 1, 4, [.v (.int .u32 0)]⟩
def tByte : TD := ⟨.int .u8, 1, 1, [.v (.int .u8 0)]⟩
def tPair : TD := ⟨.struct [(0, 3), (1, 24)], 2, 32, [.i 0, .nl]⟩

def tBytes : TD := ⟨.slice 5, 1, 24, [.nl]⟩
def tCur : TD := ⟨.struct [(0, 22), (1, 3), (2, 3)], 3, 40, [.nl, .i 0, .i 0]⟩
def tEdge : TD := ⟨.struct [(0, 3), (1, 3), (2, 3)], 3, 24, [.i 0, .i 0, .i 0]⟩
def tBlock : TD := ⟨.struct [(0, 3), (1, 3)], 2, 16, [.i 0, .i 0]⟩
def tEdges : TD := ⟨.slice 120, 1, 24, [.nl]⟩
def tBlocks : TD := ⟨.slice 122, 1, 24, [.nl]⟩
def tFunBB : TD := ⟨.oth, 1, 8, [.v .nilFunc]⟩

def Γ (t : TypeId) : Option TD :=
  match t with
  | 3 => some tInt
  | 4 => some tBool
  | 24 => some tInts
  | 45 => some tPair
  | 26 => some tPair
  | 93 => some tUint
  | 5 => some tByte
  | 148 => some tUint
  | 146 => some tU32
  | 22 => some tBytes
  | 135 => some tCur
  | 120 => some tEdge
  | 122 => some tBlock
  | 64 => some tEdges
  | 68 => some tBlocks
  | 117 => some tFunBB
  | _ => none

theorem i_int : (Try.prog.info? 3).map (fun i => (i.size, i.bytes, i.zero)) = some (1, 8, some (.int .i64 0)) := by kernel_rfl
theorem i_bool : (Try.prog.info? 4).map (fun i => (i.size, i.bytes, i.zero)) = some (1, 1, some (.bool false)) := by kernel_rfl
theorem i_ints : (Try.prog.info? 24).map (fun i => (i.size, i.bytes, i.zero)) = some (1, 24, some (.slice none 0 0)) := by kernel_rfl
theorem is_some {t : TypeId} {x : Nat × Nat × Option Value} (h : (Try.prog.info? t).map (fun i => (i.size, i.bytes, i.zero)) = some x) : ∃ i, Try.prog.info? t = some i := by
  cases hi : Try.prog.info? t with
  | none => rw [hi] at h; cases h
  | some i => exact ⟨i, rfl⟩
theorem ok_int : TdOk Try.prog 3 tInt := tdOk_mk Try.underlying3 rfl i_int rfl rfl (fun _ h => by cases h) (fun _ h => by cases h; rfl)
theorem ok_bool : TdOk Try.prog 4 tBool := tdOk_mk Try.underlying4 trivial i_bool rfl rfl (fun _ h => by cases h) (fun _ h => by cases h)
theorem ok_ints : TdOk Try.prog 24 tInts := tdOk_mk Try.underlying24 rfl i_ints rfl rfl (fun _ h => by cases h) (fun _ h => by cases h)
theorem pair_fs : ∀ fs, tPair.kd = .struct fs → ∀ x ∈ fs, ∃ i, Try.prog.info? x.2 = some i := by
  intro fs h x hx
  cases h
  rcases List.mem_cons.1 hx with rfl | hx
  · exact is_some i_int
  · rcases List.mem_cons.1 hx with rfl | hx
    · exact is_some i_ints
    · cases hx
theorem i_fam : (Try.prog.info? 45).map (fun i => (i.size, i.bytes, i.zero)) = some (2, 32, some (.agg #[.int .i64 0, .slice none 0 0])) := by kernel_rfl
theorem ok_fam : TdOk Try.prog 45 tPair := tdOk_mk Try.underlying45 rfl i_fam rfl rfl pair_fs (fun _ h => by cases h)
theorem i_fun : (Try.prog.info? 26).map (fun i => (i.size, i.bytes, i.zero)) = some (2, 32, some (.agg #[.int .i64 0, .slice none 0 0])) := by kernel_rfl
theorem ok_fun : TdOk Try.prog 26 tPair := tdOk_mk Try.underlying26 rfl i_fun rfl rfl pair_fs (fun _ h => by cases h)
theorem i_uint : (Try.prog.info? 93).map (fun i => (i.size, i.bytes, i.zero)) = some (1, 8, some (.int .u64 0)) := by kernel_rfl
theorem ok_uint : TdOk Try.prog 93 tUint := tdOk_mk Try.underlying93 rfl i_uint rfl rfl (fun _ h => by cases h) (fun _ h => by cases h; rfl)
theorem i_byte : (Try.prog.info? 5).map (fun i => (i.size, i.bytes, i.zero)) = some (1, 1, some (.int .u8 0)) := by kernel_rfl
theorem ok_byte : TdOk Try.prog 5 tByte := tdOk_mk Try.underlying5 rfl i_byte rfl rfl (fun _ h => by cases h) (fun _ h => by cases h; rfl)
theorem i_u64 : (Try.prog.info? 148).map (fun i => (i.size, i.bytes, i.zero)) = some (1, 8, some (.int .u64 0)) := by kernel_rfl
theorem ok_u64 : TdOk Try.prog 148 tUint := tdOk_mk Try.underlying148 rfl i_u64 rfl rfl (fun _ h => by cases h) (fun _ h => by cases h; rfl)
theorem i_u32 : (Try.prog.info? 146).map (fun i => (i.size, i.bytes, i.zero)) = some (1, 4, some (.int .u32 0)) := by kernel_rfl
theorem ok_u32 : TdOk Try.prog 146 tU32 := tdOk_mk Try.underlying146 rfl i_u32 rfl rfl (fun _ h => by cases h) (fun _ h => by cases h; rfl)
theorem i_bytes : (Try.prog.info? 22).map (fun i => (i.size, i.bytes, i.zero)) = some (1, 24, some (.slice none 0 0)) := by kernel_rfl
theorem ok_bytes : TdOk Try.prog 22 tBytes := tdOk_mk Try.underlying22 rfl i_bytes rfl rfl (fun _ h => by cases h) (fun _ h => by cases h)
theorem i_cur : (Try.prog.info? 135).map (fun i => (i.size, i.bytes, i.zero)) = some (3, 40, some (.agg #[.slice none 0 0, .int .i64 0, .int .i64 0])) := by kernel_rfl
theorem cur_fs : ∀ fs, tCur.kd = .struct fs → ∀ x ∈ fs, ∃ i, Try.prog.info? x.2 = some i := by
  intro fs h x hx
  cases h
  simp only [List.mem_cons, List.not_mem_nil, or_false] at hx
  rcases hx with rfl | rfl | rfl <;> first | exact is_some i_int | exact is_some i_bytes
theorem ok_cur : TdOk Try.prog 135 tCur := tdOk_mk Try.underlying135 rfl i_cur rfl rfl cur_fs (fun _ h => by cases h)
theorem i_edge : (Try.prog.info? 120).map (fun i => (i.size, i.bytes, i.zero)) = some (3, 24, some (.agg #[.int .i64 0, .int .i64 0, .int .i64 0])) := by kernel_rfl
theorem edge_fs : ∀ fs, tEdge.kd = .struct fs → ∀ x ∈ fs, ∃ i, Try.prog.info? x.2 = some i := by
  intro fs h x hx
  cases h
  simp only [List.mem_cons, List.not_mem_nil, or_false] at hx
  rcases hx with rfl | rfl | rfl <;> exact is_some i_int
theorem ok_edge : TdOk Try.prog 120 tEdge := tdOk_mk Try.underlying120 rfl i_edge rfl rfl edge_fs (fun _ h => by cases h)
theorem i_block : (Try.prog.info? 122).map (fun i => (i.size, i.bytes, i.zero)) = some (2, 16, some (.agg #[.int .i64 0, .int .i64 0])) := by kernel_rfl
theorem block_fs : ∀ fs, tBlock.kd = .struct fs → ∀ x ∈ fs, ∃ i, Try.prog.info? x.2 = some i := by
  intro fs h x hx
  cases h
  simp only [List.mem_cons, List.not_mem_nil, or_false] at hx
  rcases hx with rfl | rfl <;> exact is_some i_int
theorem ok_block : TdOk Try.prog 122 tBlock := tdOk_mk Try.underlying122 rfl i_block rfl rfl block_fs (fun _ h => by cases h)
theorem i_edges : (Try.prog.info? 64).map (fun i => (i.size, i.bytes, i.zero)) = some (1, 24, some (.slice none 0 0)) := by kernel_rfl
theorem ok_edges : TdOk Try.prog 64 tEdges := tdOk_mk Try.underlying64 rfl i_edges rfl rfl (fun _ h => by cases h) (fun _ h => by cases h)
theorem i_blocks : (Try.prog.info? 68).map (fun i => (i.size, i.bytes, i.zero)) = some (1, 24, some (.slice none 0 0)) := by kernel_rfl
theorem ok_blocks : TdOk Try.prog 68 tBlocks := tdOk_mk Try.underlying68 rfl i_blocks rfl rfl (fun _ h => by cases h) (fun _ h => by cases h)
theorem i_fbb : (Try.prog.info? 117).map (fun i => (i.size, i.bytes, i.zero)) = some (1, 8, some .nilFunc) := by kernel_rfl
theorem ok_fbb : TdOk Try.prog 117 tFunBB := tdOk_mk Try.underlying117 trivial i_fbb rfl rfl (fun _ h => by cases h) (fun _ h => by cases h)

theorem Γ_ok : ∀ t d, Γ t = some d → TdOk Try.prog t d := by
  intro t d h
  unfold Γ at h
  split at h
  all_goals first
    | (cases h; exact ok_int) | (cases h; exact ok_bool) | (cases h; exact ok_ints)
    | (cases h; exact ok_fam)
    | (cases h; exact ok_fun)
    | (cases h; exact ok_uint)
    | (cases h; exact ok_byte)
    | (cases h; exact ok_u64)
    | (cases h; exact ok_u32)
    | (cases h; exact ok_bytes)
    | (cases h; exact ok_cur)
    | (cases h; exact ok_edge)
    | (cases h; exact ok_block)
    | (cases h; exact ok_edges)
    | (cases h; exact ok_blocks)
    | (cases h; exact ok_fbb)
    | cases h

theorem follows : Try.prog.follows .mixedOrders = true := by kernel_rfl

theorem env_ok {env : List (Nat × Tab)} (h : ∀ e ∈ env, Fits Try.prog e.1 e.2) : CfgOk Try.prog (mk Γ env) := cfg_ok Γ_ok follows h

theorem env_ok2 {env : List (Nat × Tab)} {envM : List (Nat × MTab)} (h : ∀ e ∈ env, Fits Try.prog e.1 e.2) (h' : ∀ e ∈ envM, FitsM Try.prog e.1 e.2) : CfgOk Try.prog (mk2 Γ env envM) := cfg_ok2 (env_ok h) h'
end Go.Proofs.Ytjlpjkiadohkiaa
