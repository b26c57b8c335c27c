/-
  THE TYPES OF THIS TRANSLATION, as the abstract machine wants them.
-/
import Derived.Test.YthoionlldmfpiaaDoorAbI
import Derived.Test.YthoionlldmfpiaaDoorProg
import Derived.KernelRfl
set_option linter.unusedSimpArgs false
set_option linter.unusedVariables false
set_option maxRecDepth 10000
namespace Go.Proofs.YthoionlldmfpiaaDoor
open Go Go.Ab

def tInt : TD := ⟨.int .i64, 1, 8, [.i 0]⟩
def tBool : TD := ⟨.bool, 1, 1, [.b false]⟩
def tInts : TD := ⟨.slice 3, 1, 24, [.nl]⟩
def tUint : TD := ⟨.int .u64, 1, 8, [.v (.int .u64 0)]⟩
def tU32 : TD := ⟨.int .u32, 1, 4, [.v (.int .u32 0)]⟩
def tByte : TD := ⟨.int .u8, 1, 1, [.v (.int .u8 0)]⟩
def tPair : TD := ⟨.struct [(0, 3), (1, 24)], 2, 32, [.i 0, .nl]⟩

def tBytes : TD := ⟨.slice 5, 1, 24, [.nl]⟩
def tStr : TD := ⟨.str, 1, 16, [.v (.string ⟨#[]⟩)]⟩
def tStrs : TD := ⟨.slice 9, 1, 24, [.nl]⟩

def Γ (t : TypeId) : Option TD :=
  match t with
  | 3 => some tInt
  | 4 => some tBool
  | 24 => some tInts
  | 26 => some tPair
  | 29 => some tPair
  | 52 => some tUint
  | 5 => some tByte
  | 79 => some tUint
  | 88 => some tU32
  | 53 => some tBytes
  | 9 => some tStr
  | 47 => some tStrs
  | _ => none

theorem i_int : (Tryd.prog.info? 3).map (fun i => (i.size, i.bytes, i.zero)) = some (1, 8, some (.int .i64 0)) := by kernel_rfl
theorem i_bool : (Tryd.prog.info? 4).map (fun i => (i.size, i.bytes, i.zero)) = some (1, 1, some (.bool false)) := by kernel_rfl
theorem i_ints : (Tryd.prog.info? 24).map (fun i => (i.size, i.bytes, i.zero)) = some (1, 24, some (.slice none 0 0)) := by kernel_rfl
theorem is_some {t : TypeId} {x : Nat × Nat × Option Value} (h : (Tryd.prog.info? t).map (fun i => (i.size, i.bytes, i.zero)) = some x) : ∃ i, Tryd.prog.info? t = some i := by
  cases hi : Tryd.prog.info? t with
  | none => rw [hi] at h; cases h
  | some i => exact ⟨i, rfl⟩
theorem ok_int : TdOk Tryd.prog 3 tInt := tdOk_mk Tryd.underlying3 rfl i_int rfl rfl (fun _ h => by cases h) (fun _ h => by cases h; rfl)
theorem ok_bool : TdOk Tryd.prog 4 tBool := tdOk_mk Tryd.underlying4 trivial i_bool rfl rfl (fun _ h => by cases h) (fun _ h => by cases h)
theorem ok_ints : TdOk Tryd.prog 24 tInts := tdOk_mk Tryd.underlying24 rfl i_ints rfl rfl (fun _ h => by cases h) (fun _ h => by cases h)
theorem pair_fs : ∀ fs, tPair.kd = .struct fs → ∀ x ∈ fs, ∃ i, Tryd.prog.info? x.2 = some i := by
  intro fs h x hx
  cases h
  rcases List.mem_cons.1 hx with rfl | hx
  · exact is_some i_int
  · rcases List.mem_cons.1 hx with rfl | hx
    · exact is_some i_ints
    · cases hx
theorem i_lfam : (Tryd.prog.info? 26).map (fun i => (i.size, i.bytes, i.zero)) = some (2, 32, some (.agg #[.int .i64 0, .slice none 0 0])) := by kernel_rfl
theorem ok_lfam : TdOk Tryd.prog 26 tPair := tdOk_mk Tryd.underlying26 rfl i_lfam rfl rfl pair_fs (fun _ h => by cases h)
theorem i_fam : (Tryd.prog.info? 29).map (fun i => (i.size, i.bytes, i.zero)) = some (2, 32, some (.agg #[.int .i64 0, .slice none 0 0])) := by kernel_rfl
theorem ok_fam : TdOk Tryd.prog 29 tPair := tdOk_mk Tryd.underlying29 rfl i_fam rfl rfl pair_fs (fun _ h => by cases h)
theorem i_uint : (Tryd.prog.info? 52).map (fun i => (i.size, i.bytes, i.zero)) = some (1, 8, some (.int .u64 0)) := by kernel_rfl
theorem ok_uint : TdOk Tryd.prog 52 tUint := tdOk_mk Tryd.underlying52 rfl i_uint rfl rfl (fun _ h => by cases h) (fun _ h => by cases h; rfl)
theorem i_byte : (Tryd.prog.info? 5).map (fun i => (i.size, i.bytes, i.zero)) = some (1, 1, some (.int .u8 0)) := by kernel_rfl
theorem ok_byte : TdOk Tryd.prog 5 tByte := tdOk_mk Tryd.underlying5 rfl i_byte rfl rfl (fun _ h => by cases h) (fun _ h => by cases h; rfl)
theorem i_u64 : (Tryd.prog.info? 79).map (fun i => (i.size, i.bytes, i.zero)) = some (1, 8, some (.int .u64 0)) := by kernel_rfl
theorem ok_u64 : TdOk Tryd.prog 79 tUint := tdOk_mk Tryd.underlying79 rfl i_u64 rfl rfl (fun _ h => by cases h) (fun _ h => by cases h; rfl)
theorem i_u32 : (Tryd.prog.info? 88).map (fun i => (i.size, i.bytes, i.zero)) = some (1, 4, some (.int .u32 0)) := by kernel_rfl
theorem ok_u32 : TdOk Tryd.prog 88 tU32 := tdOk_mk Tryd.underlying88 rfl i_u32 rfl rfl (fun _ h => by cases h) (fun _ h => by cases h; rfl)
theorem i_bytes : (Tryd.prog.info? 53).map (fun i => (i.size, i.bytes, i.zero)) = some (1, 24, some (.slice none 0 0)) := by kernel_rfl
theorem ok_bytes : TdOk Tryd.prog 53 tBytes := tdOk_mk Tryd.underlying53 rfl i_bytes rfl rfl (fun _ h => by cases h) (fun _ h => by cases h)
theorem i_str : (Tryd.prog.info? 9).map (fun i => (i.size, i.bytes, i.zero)) = some (1, 16, some (.string ⟨#[]⟩)) := by kernel_rfl
theorem ok_str : TdOk Tryd.prog 9 tStr := tdOk_mk Tryd.underlying9 trivial i_str rfl rfl (fun _ h => by cases h) (fun _ h => by cases h)
theorem i_strs : (Tryd.prog.info? 47).map (fun i => (i.size, i.bytes, i.zero)) = some (1, 24, some (.slice none 0 0)) := by kernel_rfl
theorem ok_strs : TdOk Tryd.prog 47 tStrs := tdOk_mk Tryd.underlying47 rfl i_strs rfl rfl (fun _ h => by cases h) (fun _ h => by cases h)

theorem Γ_ok : ∀ t d, Γ t = some d → TdOk Tryd.prog t d := by
  intro t d h
  unfold Γ at h
  split at h
  all_goals first
    | (cases h; exact ok_int) | (cases h; exact ok_bool) | (cases h; exact ok_ints)
    | (cases h; exact ok_lfam)
    | (cases h; exact ok_fam)
    | (cases h; exact ok_uint)
    | (cases h; exact ok_byte)
    | (cases h; exact ok_u64)
    | (cases h; exact ok_u32)
    | (cases h; exact ok_bytes)
    | (cases h; exact ok_str)
    | (cases h; exact ok_strs)
    | cases h

theorem follows : Tryd.prog.follows .mixedOrders = true := by kernel_rfl

theorem env_ok {env : List (Nat × Tab)} (h : ∀ e ∈ env, Fits Tryd.prog e.1 e.2) : CfgOk Tryd.prog (mk Γ env) := cfg_ok Γ_ok follows h

theorem env_ok2 {env : List (Nat × Tab)} {envM : List (Nat × MTab)} (h : ∀ e ∈ env, Fits Tryd.prog e.1 e.2) (h' : ∀ e ∈ envM, FitsM Tryd.prog e.1 e.2) : CfgOk Tryd.prog (mk2 Γ env envM) := cfg_ok2 (env_ok h) h'
end Go.Proofs.YthoionlldmfpiaaDoor
