/-
  THE TYPES OF THIS TRANSLATION, as the abstract machine wants them.
-/
import Derived.Test.YthoionlldmfpiaaGreatAbI
import Derived.Test.YthoionlldmfpiaaGreatProg
import Derived.KernelRfl
set_option linter.unusedSimpArgs false
set_option linter.unusedVariables false
set_option maxRecDepth 10000
namespace Go.Proofs.YthoionlldmfpiaaGreat
open Go Go.Ab

def tInt : TD := ⟨.int .i64, 1, 8, [.i 0]⟩
def tBool : TD := ⟨.bool, 1, 1, [.b false]⟩
def tInts : TD := ⟨.slice 3, 1, 24, [.nl]⟩
def tUint : TD := ⟨.int .u64, 1, 8, [.v (.int .u64 0)]⟩
def tU32 : TD := ⟨.int .u32, 1, 4, [.v (.int .u32 0)]⟩
def tByte : TD := ⟨.int .u8, 1, 1, [.v (.int .u8 0)]⟩
def tPair : TD := ⟨.struct [(0, 3), (1, 24)], 2, 32, [.i 0, .nl]⟩

def tBytes : TD := ⟨.slice 5, 1, 24, [.nl]⟩
def tCur : TD := ⟨.struct [(0, 22), (1, 3), (2, 3)], 3, 40, [.nl, .i 0, .i 0]⟩
def tBlock : TD := ⟨.struct [(0, 3), (1, 3)], 2, 16, [.i 0, .i 0]⟩
def tBlocks : TD := ⟨.slice 79, 1, 24, [.nl]⟩

def Γ (t : TypeId) : Option TD :=
  match t with
  | 3 => some tInt
  | 4 => some tBool
  | 24 => some tInts
  | 29 => some tPair
  | 26 => some tPair
  | 59 => some tUint
  | 5 => some tByte
  | 103 => some tUint
  | 101 => some tU32
  | 22 => some tBytes
  | 83 => some tCur
  | 79 => some tBlock
  | 77 => some tBlocks
  | _ => none

theorem i_int : (Tryz.prog.info? 3).map (fun i => (i.size, i.bytes, i.zero)) = some (1, 8, some (.int .i64 0)) := by kernel_rfl
theorem i_bool : (Tryz.prog.info? 4).map (fun i => (i.size, i.bytes, i.zero)) = some (1, 1, some (.bool false)) := by kernel_rfl
theorem i_ints : (Tryz.prog.info? 24).map (fun i => (i.size, i.bytes, i.zero)) = some (1, 24, some (.slice none 0 0)) := by kernel_rfl
theorem is_some {t : TypeId} {x : Nat × Nat × Option Value} (h : (Tryz.prog.info? t).map (fun i => (i.size, i.bytes, i.zero)) = some x) : ∃ i, Tryz.prog.info? t = some i := by
  cases hi : Tryz.prog.info? t with
  | none => rw [hi] at h; cases h
  | some i => exact ⟨i, rfl⟩
theorem ok_int : TdOk Tryz.prog 3 tInt := tdOk_mk Tryz.underlying3 rfl i_int rfl rfl (fun _ h => by cases h) (fun _ h => by cases h; rfl)
theorem ok_bool : TdOk Tryz.prog 4 tBool := tdOk_mk Tryz.underlying4 trivial i_bool rfl rfl (fun _ h => by cases h) (fun _ h => by cases h)
theorem ok_ints : TdOk Tryz.prog 24 tInts := tdOk_mk Tryz.underlying24 rfl i_ints rfl rfl (fun _ h => by cases h) (fun _ h => by cases h)
theorem pair_fs : ∀ fs, tPair.kd = .struct fs → ∀ x ∈ fs, ∃ i, Tryz.prog.info? x.2 = some i := by
  intro fs h x hx
  cases h
  rcases List.mem_cons.1 hx with rfl | hx
  · exact is_some i_int
  · rcases List.mem_cons.1 hx with rfl | hx
    · exact is_some i_ints
    · cases hx
theorem i_fam : (Tryz.prog.info? 29).map (fun i => (i.size, i.bytes, i.zero)) = some (2, 32, some (.agg #[.int .i64 0, .slice none 0 0])) := by kernel_rfl
theorem ok_fam : TdOk Tryz.prog 29 tPair := tdOk_mk Tryz.underlying29 rfl i_fam rfl rfl pair_fs (fun _ h => by cases h)
theorem i_fun : (Tryz.prog.info? 26).map (fun i => (i.size, i.bytes, i.zero)) = some (2, 32, some (.agg #[.int .i64 0, .slice none 0 0])) := by kernel_rfl
theorem ok_fun : TdOk Tryz.prog 26 tPair := tdOk_mk Tryz.underlying26 rfl i_fun rfl rfl pair_fs (fun _ h => by cases h)
theorem i_uint : (Tryz.prog.info? 59).map (fun i => (i.size, i.bytes, i.zero)) = some (1, 8, some (.int .u64 0)) := by kernel_rfl
theorem ok_uint : TdOk Tryz.prog 59 tUint := tdOk_mk Tryz.underlying59 rfl i_uint rfl rfl (fun _ h => by cases h) (fun _ h => by cases h; rfl)
theorem i_byte : (Tryz.prog.info? 5).map (fun i => (i.size, i.bytes, i.zero)) = some (1, 1, some (.int .u8 0)) := by kernel_rfl
theorem ok_byte : TdOk Tryz.prog 5 tByte := tdOk_mk Tryz.underlying5 rfl i_byte rfl rfl (fun _ h => by cases h) (fun _ h => by cases h; rfl)
theorem i_u64 : (Tryz.prog.info? 103).map (fun i => (i.size, i.bytes, i.zero)) = some (1, 8, some (.int .u64 0)) := by kernel_rfl
theorem ok_u64 : TdOk Tryz.prog 103 tUint := tdOk_mk Tryz.underlying103 rfl i_u64 rfl rfl (fun _ h => by cases h) (fun _ h => by cases h; rfl)
theorem i_u32 : (Tryz.prog.info? 101).map (fun i => (i.size, i.bytes, i.zero)) = some (1, 4, some (.int .u32 0)) := by kernel_rfl
theorem ok_u32 : TdOk Tryz.prog 101 tU32 := tdOk_mk Tryz.underlying101 rfl i_u32 rfl rfl (fun _ h => by cases h) (fun _ h => by cases h; rfl)
theorem i_bytes : (Tryz.prog.info? 22).map (fun i => (i.size, i.bytes, i.zero)) = some (1, 24, some (.slice none 0 0)) := by kernel_rfl
theorem ok_bytes : TdOk Tryz.prog 22 tBytes := tdOk_mk Tryz.underlying22 rfl i_bytes rfl rfl (fun _ h => by cases h) (fun _ h => by cases h)
theorem i_cur : (Tryz.prog.info? 83).map (fun i => (i.size, i.bytes, i.zero)) = some (3, 40, some (.agg #[.slice none 0 0, .int .i64 0, .int .i64 0])) := by kernel_rfl
theorem cur_fs : ∀ fs, tCur.kd = .struct fs → ∀ x ∈ fs, ∃ i, Tryz.prog.info? x.2 = some i := by
  intro fs h x hx
  cases h
  simp only [List.mem_cons, List.not_mem_nil, or_false] at hx
  rcases hx with rfl | rfl | rfl <;> first | exact is_some i_int | exact is_some i_bytes
theorem ok_cur : TdOk Tryz.prog 83 tCur := tdOk_mk Tryz.underlying83 rfl i_cur rfl rfl cur_fs (fun _ h => by cases h)
theorem i_block : (Tryz.prog.info? 79).map (fun i => (i.size, i.bytes, i.zero)) = some (2, 16, some (.agg #[.int .i64 0, .int .i64 0])) := by kernel_rfl
theorem block_fs : ∀ fs, tBlock.kd = .struct fs → ∀ x ∈ fs, ∃ i, Tryz.prog.info? x.2 = some i := by
  intro fs h x hx
  cases h
  simp only [List.mem_cons, List.not_mem_nil, or_false] at hx
  rcases hx with rfl | rfl <;> exact is_some i_int
theorem ok_block : TdOk Tryz.prog 79 tBlock := tdOk_mk Tryz.underlying79 rfl i_block rfl rfl block_fs (fun _ h => by cases h)
theorem i_blocks : (Tryz.prog.info? 77).map (fun i => (i.size, i.bytes, i.zero)) = some (1, 24, some (.slice none 0 0)) := by kernel_rfl
theorem ok_blocks : TdOk Tryz.prog 77 tBlocks := tdOk_mk Tryz.underlying77 rfl i_blocks rfl rfl (fun _ h => by cases h) (fun _ h => by cases h)

theorem Γ_ok : ∀ t d, Γ t = some d → TdOk Tryz.prog t d := by
  intro t d h
  unfold Γ at h
  split at h
  all_goals first
    | (cases h; exact ok_int) | (cases h; exact ok_bool) | (cases h; exact ok_ints)
    | (cases h; exact ok_fam)
    | (cases h; exact ok_fun)
    | (cases h; exact ok_uint)
    | (cases h; exact ok_byte)
    | (cases h; exact ok_u64)
    | (cases h; exact ok_u32)
    | (cases h; exact ok_bytes)
    | (cases h; exact ok_cur)
    | (cases h; exact ok_block)
    | (cases h; exact ok_blocks)
    | cases h

theorem follows : Tryz.prog.follows .mixedOrders = true := by kernel_rfl

theorem env_ok {env : List (Nat × Tab)} (h : ∀ e ∈ env, Fits Tryz.prog e.1 e.2) : CfgOk Tryz.prog (mk Γ env) := cfg_ok Γ_ok follows h

theorem env_ok2 {env : List (Nat × Tab)} {envM : List (Nat × MTab)} (h : ∀ e ∈ env, Fits Tryz.prog e.1 e.2) (h' : ∀ e ∈ envM, FitsM Tryz.prog e.1 e.2) : CfgOk Tryz.prog (mk2 Γ env envM) := cfg_ok2 (env_ok h) h'
end Go.Proofs.YthoionlldmfpiaaGreat
