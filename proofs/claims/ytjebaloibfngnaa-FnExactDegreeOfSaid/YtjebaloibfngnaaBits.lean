/-
  BITS: what the operations on bits come to at numbers that aren't negative.
-/
import Derived.Test.YtjebaloibfngnaaAbI
set_option linter.unusedSimpArgs false
set_option linter.unusedVariables false
namespace Go.Ab
open Go Go.RowKit

/-- The bits of a that b lacks. -/
def nandn (a b : Nat) : Nat := a ^^^ (a &&& b)
theorem testBit_nandn (a b i : Nat) : (nandn a b).testBit i = (a.testBit i && !b.testBit i) := by
  unfold nandn
  rw [Nat.testBit_xor, Nat.testBit_and]
  cases a.testBit i <;> cases b.testBit i <;> rfl
theorem nandn_le (a b : Nat) : nandn a b ≤ a := by
  apply Nat.le_of_testBit
  intro i h
  rw [testBit_nandn, Bool.and_eq_true] at h
  exact h.1
theorem nandn_zero {a b : Nat} : nandn a b = 0 ↔ a &&& b = a := by
  constructor
  · intro h
    apply Nat.eq_of_testBit_eq
    intro i
    have := testBit_nandn a b i
    rw [h, Nat.zero_testBit] at this
    rw [Nat.testBit_and]
    cases h1 : a.testBit i <;> cases h2 : b.testBit i <;> simp_all
  · intro h
    apply Nat.eq_of_testBit_eq
    intro i
    rw [testBit_nandn, Nat.zero_testBit]
    have := congrArg (fun x => x.testBit i) h
    simp only [Nat.testBit_and] at this
    cases h1 : a.testBit i <;> cases h2 : b.testBit i <;> simp_all

theorem ofInt_nat (a : Nat) : BitVec.ofInt 64 (a : Int) = BitVec.ofNat 64 a := by
  apply BitVec.eq_of_toNat_eq
  rw [BitVec.toNat_ofInt, BitVec.toNat_ofNat]
  omega
theorem wrap_nat {a : Nat} (h : a < 9223372036854775808) : IntKind.i64.wrap (a : Int) = a := by
  rw [IntKind.wrap_i64]
  have := wrap64_id (n := (a : Int)) (by omega) (by omega)
  unfold wrap64 at this
  exact this
theorem toNat64 {a : Nat} (h : a < 9223372036854775808) : (BitVec.ofNat 64 a).toNat = a := by
  rw [BitVec.toNat_ofNat]; exact Nat.mod_eq_of_lt (by omega)

section
variable {a b : Nat} (ha : a < 9223372036854775808) (hb : b < 9223372036854775808)
include ha hb
theorem iand_nat : iand (a : Int) (b : Int) = ((a &&& b : Nat) : Int) := by
  show IntKind.i64.wrap (((BitVec.ofInt 64 (a : Int) &&& BitVec.ofInt 64 (b : Int)).toNat : Nat) : Int) = _
  rw [ofInt_nat, ofInt_nat, BitVec.toNat_and, toNat64 ha, toNat64 hb]
  exact wrap_nat (Nat.lt_of_le_of_lt Nat.and_le_left ha)
theorem ior_lt : a ||| b < 9223372036854775808 := Nat.or_lt_two_pow (n := 63) ha hb
theorem ior_nat : ior (a : Int) (b : Int) = ((a ||| b : Nat) : Int) := by
  show IntKind.i64.wrap (((BitVec.ofInt 64 (a : Int) ||| BitVec.ofInt 64 (b : Int)).toNat : Nat) : Int) = _
  rw [ofInt_nat, ofInt_nat, BitVec.toNat_or, toNat64 ha, toNat64 hb]
  exact wrap_nat (ior_lt ha hb)
theorem ixor_nat : ixor (a : Int) (b : Int) = ((a ^^^ b : Nat) : Int) := by
  show IntKind.i64.wrap (((BitVec.ofInt 64 (a : Int) ^^^ BitVec.ofInt 64 (b : Int)).toNat : Nat) : Int) = _
  rw [ofInt_nat, ofInt_nat, BitVec.toNat_xor, toNat64 ha, toNat64 hb]
  exact wrap_nat (Nat.xor_lt_two_pow (n := 63) ha hb)
theorem iandn_nat : iandn (a : Int) (b : Int) = ((nandn a b : Nat) : Int) := by
  show IntKind.i64.wrap (((BitVec.ofInt 64 (a : Int) &&& ~~~BitVec.ofInt 64 (b : Int)).toNat : Nat) : Int) = _
  rw [ofInt_nat, ofInt_nat]
  have e : (BitVec.ofNat 64 a &&& ~~~BitVec.ofNat 64 b).toNat = nandn a b := by
    apply Nat.eq_of_testBit_eq
    intro i
    rw [BitVec.testBit_toNat, BitVec.getLsbD_and, BitVec.getLsbD_not, testBit_nandn, ← BitVec.testBit_toNat, ← BitVec.testBit_toNat, toNat64 ha, toNat64 hb]
    by_cases hi : i < 64
    · simp [hi]
    · have : a.testBit i = false := Nat.testBit_lt_two_pow (Nat.lt_of_lt_of_le ha (Nat.le_trans (by decide : 9223372036854775808 ≤ 2 ^ 64) (Nat.pow_le_pow_right (by omega) (by omega))))
      simp [this]
  rw [e]
  exact wrap_nat (Nat.lt_of_le_of_lt (nandn_le a b) ha)
end

/-- A set of n elements, as a natural number. -/
theorem isSet_nat {n s : Int} (hn : n ≤ 62) (h : isSet n s = true) : ∃ a : Nat, s = a ∧ a < 2 ^ n.toNat ∧ a < 4611686018427387904 := by
  rw [isSet_iff] at h
  have hp := pow_le62 (n := n.toNat) (by omega)
  obtain ⟨a, rfl⟩ := Int.eq_ofNat_of_zero_le h.1
  refine ⟨a, rfl, ?_, by omega⟩
  have : ((a : Nat) : Int) < ((2 ^ n.toNat : Nat) : Int) := by simpa using h.2
  omega

/-- b lacks none of a's elements: two ways of saying so. -/
theorem iandn_zero {n a b : Int} (hn : n ≤ 62) (ha : isSet n a = true) (hb : isSet n b = true) : iandn a b = 0 ↔ iand a b = a := by
  obtain ⟨x, rfl, _, hx⟩ := isSet_nat hn ha
  obtain ⟨y, rfl, _, hy⟩ := isSet_nat hn hb
  rw [iandn_nat (by omega) (by omega), iand_nat (by omega) (by omega)]
  have := nandn_zero (a := x) (b := y)
  omega
theorem iand_comm (a b : Int) : iand a b = iand b a := by
  show IntKind.i64.wrap (((BitVec.ofInt 64 a &&& BitVec.ofInt 64 b).toNat : Nat) : Int) = IntKind.i64.wrap (((BitVec.ofInt 64 b &&& BitVec.ofInt 64 a).toNat : Nat) : Int)
  rw [BitVec.and_comm]
theorem inR_isSet {n s : Int} : inR s 0 (2 ^ n.toNat - 1) = isSet n s := by
  rw [Bool.eq_iff_iff, inR_iff, isSet_iff]; omega
theorem full_lt {n : Int} (h0 : 0 ≤ n) (hn : n ≤ 62) : 0 ≤ (2 : Int) ^ n.toNat - 1 ∧ (2 : Int) ^ n.toNat - 1 ≤ 4611686018427387903 := by
  have := pow_le62 (n := n.toNat) (by omega)
  have := pow_pos' n.toNat
  omega

theorem wrap_full {n : Int} (h0 : 0 ≤ n) (hn : n ≤ 62) : RowKit.wrap64 (2 ^ n.toNat - 1) = 2 ^ n.toNat - 1 := by
  have := full_lt h0 hn
  exact wrap64_id (by omega) (by omega)

section
variable {a b : Nat} {z : List AV} {p q : Bool} {H : List AO} {K : AV → List AO → Prop}
theorem b_eqlB : (aBin .eql (some ⟨.bool, a, b, z⟩) (.b p) (.b q) H).run K = K (.b (p == q)) H := by simp [aBin, AV.int?, Res.run]
theorem b_neqB : (aBin .neq (some ⟨.bool, a, b, z⟩) (.b p) (.b q) H).run K = K (.b (!(p == q))) H := by simp [aBin, AV.int?, Res.run]
end

theorem after_row {p : Prop} {out : AV} {k : IntKind} {E : TypeId} {l : List Int} {H : List AO} {K : AV → List AO → Prop} : after (some (p, out, [.row k E l])) H K = (p ∧ K (out.shift H.length) (H ++ [.row k E l])) := by simp [after, AO.shift]

/-! What of a walk is worked out first: the result of an operation; not what comes after. -/
@[congr] theorem run_congr {r r' : Res} {K : AV → List AO → Prop} (h : r = r') : r.run K = r'.run K := by rw [h]
@[congr] theorem after_congr {r r' : Option (Prop × AV × List AO)} {H H' : List AO} {K : AV → List AO → Prop} (h : r = r') (h2 : H = H') : after r H K = after r' H' K := by rw [h, h2]

section
variable {C : Cfg} {ds : List (Option Tmp)} {rest : List Oper} {fr : List AV} {H : List AO} {K : ASt → Prop} {d g : Tmp} {ty : TypeId} {pos : String} {aft : Array Edge} {op : Op} {j : Nat} {want : Bool}
/-! The same steps as equations that are told, not reckoned: the kernel need not unfold the walk. -/
theorem aol_nil' (s : ASt) : aol C ds [] s K = K s := by rw [aol_nil]
theorem aol_some' : aol C ds (⟨some d, op, ty, pos, aft, none⟩ :: rest) ⟨fr, H⟩ K = (aop C op (ASt.ev ⟨fr, H⟩) H).run fun v H' => aol C ds rest ⟨upd fr d v, H'⟩ K := by rw [aol_some]
theorem aol_none' : aol C ds (⟨none, op, ty, pos, aft, none⟩ :: rest) ⟨fr, H⟩ K = (aop C op (ASt.ev ⟨fr, H⟩) H).run fun _ H' => aol C ds rest ⟨fr, H'⟩ K := by rw [aol_none]
/-- A guarded operation: both ways. -/
theorem aol_guard_b {x : Bool} (hg : (ds[j]?).bind id = some g) (e : nth fr g = .b x)
    (h1 : x = want → (aop C op (ASt.ev ⟨upd fr g (.b want), H⟩) H).run fun v H' => aol C ds rest ⟨upd (upd fr g (.b want)) d v, H'⟩ K)
    (h2 : x = !want → aol C ds rest ⟨upd (upd fr g (.b (!want))) d .un, H⟩ K) : aol C ds (⟨some d, op, ty, pos, aft, some (j, want)⟩ :: rest) ⟨fr, H⟩ K := by
  rw [aol_guard, hg]
  simp only [e, grd_b]
  exact ⟨h1, h2⟩
theorem upd_idem : ∀ {fr : List AV} {g : Nat} {v : AV}, nth fr g = v → v ≠ .any → v ≠ .un → upd fr g v = fr
  | [], _, _, _, _, _ => rfl
  | x :: xs, 0, v, h, _, _ => by rw [nth_zero] at h; rw [upd_zero, h]
  | x :: xs, g + 1, v, h, h1, h2 => by rw [nth_succ] at h; rw [upd_succ, upd_idem h h1 h2]
/-- The guard is known to hold. -/
theorem aol_guard_t (hg : (ds[j]?).bind id = some g) (e : nth fr g = .b want) (h : aol C ds (⟨some d, op, ty, pos, aft, none⟩ :: rest) ⟨fr, H⟩ K) : aol C ds (⟨some d, op, ty, pos, aft, some (j, want)⟩ :: rest) ⟨fr, H⟩ K := by
  rw [aol_some] at h
  refine aol_guard_b hg e (fun _ => ?_) (fun hx => ?_)
  · rw [upd_idem e (by simp) (by simp)]; exact h
  · cases want <;> cases hx
/-- The guard is known not to hold. -/
theorem aol_guard_f (hg : (ds[j]?).bind id = some g) (e : nth fr g = .b (!want)) (h : aol C ds rest ⟨upd fr d .un, H⟩ K) : aol C ds (⟨some d, op, ty, pos, aft, some (j, want)⟩ :: rest) ⟨fr, H⟩ K := by
  refine aol_guard_b hg e (fun hx => ?_) (fun _ => ?_)
  · cases want <;> cases hx
  · rw [upd_idem e (by simp) (by simp)]; exact h
theorem aol_guard_un (hg : (ds[j]?).bind id = some g) (e : nth fr g = .un) (h : aol C ds rest ⟨upd fr d .un, H⟩ K) : aol C ds (⟨some d, op, ty, pos, aft, some (j, want)⟩ :: rest) ⟨fr, H⟩ K := by
  rw [aol_guard, hg]
  simp only [e, grd_un]
  exact h
end

/-! Regions: what comes after is a plain variable. -/
theorem awp_regK {c : Cx} {C : Cfg} {Q : Exit → ASt → Prop} {s : ASt} {id : Nat} {l : List Oper} {ds : List (Option Tmp)} (hd : Dsts l ds) (h : ∀ K : ASt → Prop, (∀ s, Q .normal s → K s) → aol C ds l s K) : Awp c C (.region id l.toArray false) Q s :=
  awp_reg hd (h _ fun _ h => h)
theorem awp_drwK {c : Cx} {C : Cfg} {Q : Exit → ASt → Prop} {s : ASt} {id : Nat} {l : List Oper} {ds : List (Option Tmp)} (hB : drawA l.toArray = true) (hd : Dsts l ds) (h : ∀ K : ASt → Prop, (∀ s, Q .normal s → K s) → aol C ds l s K) : Awp c C (.region id l.toArray true) Q s :=
  awp_drw hB hd (h _ fun _ h => h)

/-! Longer steps over a frame. -/
theorem upd_8 (x0 x1 x2 x3 x4 x5 x6 x7 : AV) (xs : List AV) (n : Nat) (v : AV) : upd (x0 :: x1 :: x2 :: x3 :: x4 :: x5 :: x6 :: x7 :: xs) (n + 8) v = x0 :: x1 :: x2 :: x3 :: x4 :: x5 :: x6 :: x7 :: upd xs n v := rfl
theorem nth_8 (x0 x1 x2 x3 x4 x5 x6 x7 : AV) (xs : List AV) (n : Nat) : nth (x0 :: x1 :: x2 :: x3 :: x4 :: x5 :: x6 :: x7 :: xs) (n + 8) = nth xs n := rfl
theorem upd_k0 (x0 : AV) (xs : List AV) (v : AV) : upd (x0 :: xs) 0 v = v :: xs := rfl
theorem nth_k0 (x0 : AV) (xs : List AV) : nth (x0 :: xs) 0 = x0 := rfl
theorem upd_k1 (x0 x1 : AV) (xs : List AV) (v : AV) : upd (x0 :: x1 :: xs) 1 v = x0 :: v :: xs := rfl
theorem nth_k1 (x0 x1 : AV) (xs : List AV) : nth (x0 :: x1 :: xs) 1 = x1 := rfl
theorem upd_k2 (x0 x1 x2 : AV) (xs : List AV) (v : AV) : upd (x0 :: x1 :: x2 :: xs) 2 v = x0 :: x1 :: v :: xs := rfl
theorem nth_k2 (x0 x1 x2 : AV) (xs : List AV) : nth (x0 :: x1 :: x2 :: xs) 2 = x2 := rfl
theorem upd_k3 (x0 x1 x2 x3 : AV) (xs : List AV) (v : AV) : upd (x0 :: x1 :: x2 :: x3 :: xs) 3 v = x0 :: x1 :: x2 :: v :: xs := rfl
theorem nth_k3 (x0 x1 x2 x3 : AV) (xs : List AV) : nth (x0 :: x1 :: x2 :: x3 :: xs) 3 = x3 := rfl
theorem upd_k4 (x0 x1 x2 x3 x4 : AV) (xs : List AV) (v : AV) : upd (x0 :: x1 :: x2 :: x3 :: x4 :: xs) 4 v = x0 :: x1 :: x2 :: x3 :: v :: xs := rfl
theorem nth_k4 (x0 x1 x2 x3 x4 : AV) (xs : List AV) : nth (x0 :: x1 :: x2 :: x3 :: x4 :: xs) 4 = x4 := rfl
theorem upd_k5 (x0 x1 x2 x3 x4 x5 : AV) (xs : List AV) (v : AV) : upd (x0 :: x1 :: x2 :: x3 :: x4 :: x5 :: xs) 5 v = x0 :: x1 :: x2 :: x3 :: x4 :: v :: xs := rfl
theorem nth_k5 (x0 x1 x2 x3 x4 x5 : AV) (xs : List AV) : nth (x0 :: x1 :: x2 :: x3 :: x4 :: x5 :: xs) 5 = x5 := rfl
theorem upd_k6 (x0 x1 x2 x3 x4 x5 x6 : AV) (xs : List AV) (v : AV) : upd (x0 :: x1 :: x2 :: x3 :: x4 :: x5 :: x6 :: xs) 6 v = x0 :: x1 :: x2 :: x3 :: x4 :: x5 :: v :: xs := rfl
theorem nth_k6 (x0 x1 x2 x3 x4 x5 x6 : AV) (xs : List AV) : nth (x0 :: x1 :: x2 :: x3 :: x4 :: x5 :: x6 :: xs) 6 = x6 := rfl
theorem upd_k7 (x0 x1 x2 x3 x4 x5 x6 x7 : AV) (xs : List AV) (v : AV) : upd (x0 :: x1 :: x2 :: x3 :: x4 :: x5 :: x6 :: x7 :: xs) 7 v = x0 :: x1 :: x2 :: x3 :: x4 :: x5 :: x6 :: v :: xs := rfl
theorem nth_k7 (x0 x1 x2 x3 x4 x5 x6 x7 : AV) (xs : List AV) : nth (x0 :: x1 :: x2 :: x3 :: x4 :: x5 :: x6 :: x7 :: xs) 7 = x7 := rfl
end Go.Ab
