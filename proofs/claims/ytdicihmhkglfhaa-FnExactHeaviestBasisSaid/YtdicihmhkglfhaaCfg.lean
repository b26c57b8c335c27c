/-
  THE TYPES OF THIS TRANSLATION, as the abstract machine wants them.
-/
import Derived.Test.YtdicihmhkglfhaaAbI
import Derived.Test.YtdicihmhkglfhaaProg
import Derived.KernelRfl
set_option linter.unusedSimpArgs false
set_option linter.unusedVariables false
namespace Go.Proofs.Ytdicihmhkglfhaa
open Go Go.Ab

def tInt : TD := ⟨.int .i64, 1, 8, [.i 0]⟩
def tBool : TD := ⟨.bool, 1, 1, [.b false]⟩
def tInts : TD := ⟨.slice 3, 1, 24, [.nl]⟩
def tUint : TD := ⟨.int .u64, 1, 8, [.v (.int .u64 0)]⟩
def tU32 : TD := ⟨.int .u32, 1, 4, [.v (.int .u32 0)]⟩
def tByte : TD := ⟨.int .u8, 1, 1, [.v (.int .u8 0)]⟩
def tPair : TD := ⟨.struct [(0, 3), (1, 22)], 2, 32, [.i 0, .nl]⟩

def Γ (t : TypeId) : Option TD :=
  match t with
  | 3 => some tInt
  | 4 => some tBool
  | 22 => some tInts
  | 45 => some tPair
  | 27 => some tPair
  | 24 => some tPair
  | 30 => some tPair
  | 63 => some tUint
  | 5 => some tByte
  | 88 => some tUint
  | 86 => some tU32
  | _ => none

theorem i_int : (Try.prog.info? 3).map (fun i => (i.size, i.bytes, i.zero)) = some (1, 8, some (.int .i64 0)) := by kernel_rfl
theorem i_bool : (Try.prog.info? 4).map (fun i => (i.size, i.bytes, i.zero)) = some (1, 1, some (.bool false)) := by kernel_rfl
theorem i_ints : (Try.prog.info? 22).map (fun i => (i.size, i.bytes, i.zero)) = some (1, 24, some (.slice none 0 0)) := by kernel_rfl
theorem is_some {t : TypeId} {x : Nat × Nat × Option Value} (h : (Try.prog.info? t).map (fun i => (i.size, i.bytes, i.zero)) = some x) : ∃ i, Try.prog.info? t = some i := by
  cases hi : Try.prog.info? t with
  | none => rw [hi] at h; cases h
  | some i => exact ⟨i, rfl⟩
theorem ok_int : TdOk Try.prog 3 tInt := tdOk_mk Try.underlying3 rfl i_int rfl rfl (fun _ h => by cases h) (fun _ h => by cases h; rfl)
theorem ok_bool : TdOk Try.prog 4 tBool := tdOk_mk Try.underlying4 trivial i_bool rfl rfl (fun _ h => by cases h) (fun _ h => by cases h)
theorem ok_ints : TdOk Try.prog 22 tInts := tdOk_mk Try.underlying22 rfl i_ints rfl rfl (fun _ h => by cases h) (fun _ h => by cases h)
theorem pair_fs : ∀ fs, tPair.kd = .struct fs → ∀ x ∈ fs, ∃ i, Try.prog.info? x.2 = some i := by
  intro fs h x hx
  cases h
  rcases List.mem_cons.1 hx with rfl | hx
  · exact is_some i_int
  · rcases List.mem_cons.1 hx with rfl | hx
    · exact is_some i_ints
    · cases hx
theorem i_lfam : (Try.prog.info? 45).map (fun i => (i.size, i.bytes, i.zero)) = some (2, 32, some (.agg #[.int .i64 0, .slice none 0 0])) := by kernel_rfl
theorem ok_lfam : TdOk Try.prog 45 tPair := tdOk_mk Try.underlying45 rfl i_lfam rfl rfl pair_fs (fun _ h => by cases h)
theorem i_fam : (Try.prog.info? 27).map (fun i => (i.size, i.bytes, i.zero)) = some (2, 32, some (.agg #[.int .i64 0, .slice none 0 0])) := by kernel_rfl
theorem ok_fam : TdOk Try.prog 27 tPair := tdOk_mk Try.underlying27 rfl i_fam rfl rfl pair_fs (fun _ h => by cases h)
theorem i_lfun : (Try.prog.info? 24).map (fun i => (i.size, i.bytes, i.zero)) = some (2, 32, some (.agg #[.int .i64 0, .slice none 0 0])) := by kernel_rfl
theorem ok_lfun : TdOk Try.prog 24 tPair := tdOk_mk Try.underlying24 rfl i_lfun rfl rfl pair_fs (fun _ h => by cases h)
theorem i_fun : (Try.prog.info? 30).map (fun i => (i.size, i.bytes, i.zero)) = some (2, 32, some (.agg #[.int .i64 0, .slice none 0 0])) := by kernel_rfl
theorem ok_fun : TdOk Try.prog 30 tPair := tdOk_mk Try.underlying30 rfl i_fun rfl rfl pair_fs (fun _ h => by cases h)
theorem i_uint : (Try.prog.info? 63).map (fun i => (i.size, i.bytes, i.zero)) = some (1, 8, some (.int .u64 0)) := by kernel_rfl
theorem ok_uint : TdOk Try.prog 63 tUint := tdOk_mk Try.underlying63 rfl i_uint rfl rfl (fun _ h => by cases h) (fun _ h => by cases h; rfl)
theorem i_byte : (Try.prog.info? 5).map (fun i => (i.size, i.bytes, i.zero)) = some (1, 1, some (.int .u8 0)) := by kernel_rfl
theorem ok_byte : TdOk Try.prog 5 tByte := tdOk_mk Try.underlying5 rfl i_byte rfl rfl (fun _ h => by cases h) (fun _ h => by cases h; rfl)
theorem i_u64 : (Try.prog.info? 88).map (fun i => (i.size, i.bytes, i.zero)) = some (1, 8, some (.int .u64 0)) := by kernel_rfl
theorem ok_u64 : TdOk Try.prog 88 tUint := tdOk_mk Try.underlying88 rfl i_u64 rfl rfl (fun _ h => by cases h) (fun _ h => by cases h; rfl)
theorem i_u32 : (Try.prog.info? 86).map (fun i => (i.size, i.bytes, i.zero)) = some (1, 4, some (.int .u32 0)) := by kernel_rfl
theorem ok_u32 : TdOk Try.prog 86 tU32 := tdOk_mk Try.underlying86 rfl i_u32 rfl rfl (fun _ h => by cases h) (fun _ h => by cases h; rfl)

theorem Γ_ok : ∀ t d, Γ t = some d → TdOk Try.prog t d := by
  intro t d h
  unfold Γ at h
  split at h
  all_goals first
    | (cases h; exact ok_int) | (cases h; exact ok_bool) | (cases h; exact ok_ints)
    | (cases h; exact ok_lfam)
    | (cases h; exact ok_fam)
    | (cases h; exact ok_lfun)
    | (cases h; exact ok_fun)
    | (cases h; exact ok_uint)
    | (cases h; exact ok_byte)
    | (cases h; exact ok_u64)
    | (cases h; exact ok_u32)
    | cases h

theorem follows : Try.prog.follows .mixedOrders = true := by kernel_rfl

theorem env_ok {env : List (Nat × Tab)} (h : ∀ e ∈ env, Fits Try.prog e.1 e.2) : CfgOk Try.prog (mk Γ env) := cfg_ok Γ_ok follows h

theorem env_ok2 {env : List (Nat × Tab)} {envM : List (Nat × MTab)} (h : ∀ e ∈ env, Fits Try.prog e.1 e.2) (h' : ∀ e ∈ envM, FitsM Try.prog e.1 e.2) : CfgOk Try.prog (mk2 Γ env envM) := cfg_ok2 (env_ok h) h'
end Go.Proofs.Ytdicihmhkglfhaa
