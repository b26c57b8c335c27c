/-
  BITS: what the operations on bits come to at numbers that aren't negative.
-/
import Derived.Test.YthoionlldmfpiaaDoorAbI
set_option linter.unusedSimpArgs false
set_option linter.unusedVariables false
namespace Go.Ab
open Go Go.RowKit

/-- The bits of a that b lacks. -/
def nandn (a b : Nat) : Nat := a ^^^ (a &&& b)
theorem testBit_nandn (a b i : Nat) : (nandn a b).testBit i = (a.testBit i && !b.testBit i) := by
  unfold nandn
  rw [Nat.testBit_xor, Nat.testBit_and]
  cases a.testBit i <;> cases b.testBit i <;> rfl
theorem nandn_le (a b : Nat) : nandn a b ≤ a := by
  apply Nat.le_of_testBit
  intro i h
  rw [testBit_nandn, Bool.and_eq_true] at h
  exact h.1
theorem nandn_zero {a b : Nat} : nandn a b = 0 ↔ a &&& b = a := by
  constructor
  · intro h
    apply Nat.eq_of_testBit_eq
    intro i
    have := testBit_nandn a b i
    rw [h, Nat.zero_testBit] at this
    rw [Nat.testBit_and]
    cases h1 : a.testBit i <;> cases h2 : b.testBit i <;> simp_all
  · intro h
    apply Nat.eq_of_testBit_eq
    intro i
    rw [testBit_nandn, Nat.zero_testBit]
    have := congrArg (fun x => x.testBit i) h
    simp only [Nat.testBit_and] at this
    cases h1 : a.testBit i <;> cases h2 : b.testBit i <;> simp_all

theorem ofInt_nat (a : Nat) : BitVec.ofInt 64 (a : Int) = BitVec.ofNat 64 a := by
  apply BitVec.eq_of_toNat_eq
  rw [BitVec.toNat_ofInt, BitVec.toNat_ofNat]
  omega
theorem wrap_nat {a : Nat} (h : a < 9223372036854775808) : IntKind.i64.wrap (a : Int) = a := by
  rw [IntKind.wrap_i64]
  have := wrap64_id (n := (a : Int)) (by omega) (by omega)
  unfold wrap64 at this
  exact this
theorem toNat64 {a : Nat} (h : a < 9223372036854775808) : (BitVec.ofNat 64 a).toNat = a := by
  rw [BitVec.toNat_ofNat]; exact Nat.mod_eq_of_lt (by omega)

section
variable {a b : Nat} (ha : a < 9223372036854775808) (hb : b < 9223372036854775808)
include ha hb
theorem iand_nat : iand (a : Int) (b : Int) = ((a &&& b : Nat) : Int) := by
  show IntKind.i64.wrap (((BitVec.ofInt 64 (a : Int) &&& BitVec.ofInt 64 (b : Int)).toNat : Nat) : Int) = _
  rw [ofInt_nat, ofInt_nat, BitVec.toNat_and, toNat64 ha, toNat64 hb]
  exact wrap_nat (Nat.lt_of_le_of_lt Nat.and_le_left ha)
theorem ior_lt : a ||| b < 9223372036854775808 := Nat.or_lt_two_pow (n := 63) ha hb
theorem ior_nat : ior (a : Int) (b : Int) = ((a ||| b : Nat) : Int) := by
  show IntKind.i64.wrap (((BitVec.ofInt 64 (a : Int) ||| BitVec.ofInt 64 (b : Int)).toNat : Nat) : Int) = _
  rw [ofInt_nat, ofInt_nat, BitVec.toNat_or, toNat64 ha, toNat64 hb]
  exact wrap_nat (ior_lt ha hb)
theorem ixor_nat : ixor (a : Int) (b : Int) = ((a ^^^ b : Nat) : Int) := by
  show IntKind.i64.wrap (((BitVec.ofInt 64 (a : Int) ^^^ BitVec.ofInt 64 (b : Int)).toNat : Nat) : Int) = _
  rw [ofInt_nat, ofInt_nat, BitVec.toNat_xor, toNat64 ha, toNat64 hb]
  exact wrap_nat (Nat.xor_lt_two_pow (n := 63) ha hb)
theorem iandn_nat : iandn (a : Int) (b : Int) = ((nandn a b : Nat) : Int) := by
  show IntKind.i64.wrap (((BitVec.ofInt 64 (a : Int) &&& ~~~BitVec.ofInt 64 (b : Int)).toNat : Nat) : Int) = _
  rw [ofInt_nat, ofInt_nat]
  have e : (BitVec.ofNat 64 a &&& ~~~BitVec.ofNat 64 b).toNat = nandn a b := by
    apply Nat.eq_of_testBit_eq
    intro i
    rw [BitVec.testBit_toNat, BitVec.getLsbD_and, BitVec.getLsbD_not, testBit_nandn, ← BitVec.testBit_toNat, ← BitVec.testBit_toNat, toNat64 ha, toNat64 hb]
    by_cases hi : i < 64
    · simp [hi]
    · have : a.testBit i = false := Nat.testBit_lt_two_pow (Nat.lt_of_lt_of_le ha (Nat.le_trans (by decide : 9223372036854775808 ≤ 2 ^ 64) (Nat.pow_le_pow_right (by omega) (by omega))))
      simp [this]
  rw [e]
  exact wrap_nat (Nat.lt_of_le_of_lt (nandn_le a b) ha)
end

/-- A set of n elements, as a natural number. -/
theorem isSet_nat {n s : Int} (hn : n ≤ 62) (h : isSet n s = true) : ∃ a : Nat, s = a ∧ a < 2 ^ n.toNat ∧ a < 4611686018427387904 := by
  rw [isSet_iff] at h
  have hp := pow_le62 (n := n.toNat) (by omega)
  obtain ⟨a, rfl⟩ := Int.eq_ofNat_of_zero_le h.1
  refine ⟨a, rfl, ?_, by omega⟩
  have : ((a : Nat) : Int) < ((2 ^ n.toNat : Nat) : Int) := by simpa using h.2
  omega

/-- b lacks none of a's elements: two ways of saying so. -/
theorem iandn_zero {n a b : Int} (hn : n ≤ 62) (ha : isSet n a = true) (hb : isSet n b = true) : iandn a b = 0 ↔ iand a b = a := by
  obtain ⟨x, rfl, _, hx⟩ := isSet_nat hn ha
  obtain ⟨y, rfl, _, hy⟩ := isSet_nat hn hb
  rw [iandn_nat (by omega) (by omega), iand_nat (by omega) (by omega)]
  have := nandn_zero (a := x) (b := y)
  omega
theorem iand_comm (a b : Int) : iand a b = iand b a := by
  show IntKind.i64.wrap (((BitVec.ofInt 64 a &&& BitVec.ofInt 64 b).toNat : Nat) : Int) = IntKind.i64.wrap (((BitVec.ofInt 64 b &&& BitVec.ofInt 64 a).toNat : Nat) : Int)
  rw [BitVec.and_comm]
theorem inR_isSet {n s : Int} : inR s 0 (2 ^ n.toNat - 1) = isSet n s := by
  rw [Bool.eq_iff_iff, inR_iff, isSet_iff]; omega
theorem full_lt {n : Int} (h0 : 0 ≤ n) (hn : n ≤ 62) : 0 ≤ (2 : Int) ^ n.toNat - 1 ∧ (2 : Int) ^ n.toNat - 1 ≤ 4611686018427387903 := by
  have := pow_le62 (n := n.toNat) (by omega)
  have := pow_pos' n.toNat
  omega

theorem wrap_full {n : Int} (h0 : 0 ≤ n) (hn : n ≤ 62) : RowKit.wrap64 (2 ^ n.toNat - 1) = 2 ^ n.toNat - 1 := by
  have := full_lt h0 hn
  exact wrap64_id (by omega) (by omega)

section
variable {a b : Nat} {z : List AV} {p q : Bool} {H : List AO} {K : AV → List AO → Prop}
theorem b_eqlB : (aBin .eql (some ⟨.bool, a, b, z⟩) (.b p) (.b q) H).run K = K (.b (p == q)) H := by simp [aBin, AV.int?, Res.run]
theorem b_neqB : (aBin .neq (some ⟨.bool, a, b, z⟩) (.b p) (.b q) H).run K = K (.b (!(p == q))) H := by simp [aBin, AV.int?, Res.run]
end

theorem after_row {p : Prop} {out : AV} {k : IntKind} {E : TypeId} {l : List Int} {H : List AO} {K : AV → List AO → Prop} {L : Prop} : after (some (p, out, [.row k E l])) H K L = (p ∧ K (out.shift H.length) (H ++ [.row k E l])) := by simp [after, AO.shift]

/-! Strings, by their bytes. -/
theorem u8_id {n : Int} (h0 : 0 ≤ n) (h1 : n ≤ 255) : IntKind.u8.wrap n = n := by
  simp [IntKind.wrap, IntKind.bits, IntKind.signed]; omega
section
variable {T : Option TD} {a b : List UInt8} {j : Int} {H : List AO} {K : AV → List AO → Prop} {x y : Nat} {z : List AV}
theorem size_bs : (ByteArray.mk (List.toArray a)).size = a.length := by simp [ByteArray.size]
theorem bs_app : ByteArray.mk (List.toArray a) ++ ByteArray.mk (List.toArray b) = ByteArray.mk (List.toArray (a ++ b)) := by
  apply ByteArray.ext; simp
theorem b_sadd : (aBin .add T (.v (.string ⟨List.toArray a⟩)) (.v (.string ⟨List.toArray b⟩)) H).run K = (a.length + b.length ≤ 9223372036854775807 ∧ K (.v (.string ⟨List.toArray (a ++ b)⟩)) H) := by
  simp only [aBin, AV.int?, Res.run, size_bs, bs_app]
theorem lbeq (a b : List UInt8) : (a == b) = decide (a = b) := by by_cases h : a = b <;> simp [h]
theorem b_seql : (aBin .eql T (.v (.string ⟨List.toArray a⟩)) (.v (.string ⟨List.toArray b⟩)) H).run K = K (.b (decide (a = b))) H := by
  simp only [aBin, AV.int?, Res.run, ByteArray.toList_mk, true_and, lbeq]
theorem b_sneq : (aBin .neq T (.v (.string ⟨List.toArray a⟩)) (.v (.string ⟨List.toArray b⟩)) H).run K = K (.b (!decide (a = b))) H := by
  simp only [aBin, AV.int?, Res.run, ByteArray.toList_mk, true_and, lbeq]
theorem ix_s : (aIndex (some ⟨.str, x, y, z⟩) (.v (.string ⟨List.toArray a⟩)) (.i j) H).run K = ((0 ≤ j ∧ j < a.length) ∧ K (.v (.int .u8 ((a.getD j.toNat 0).toNat : Nat))) H) := by
  simp only [aIndex, Res.run, size_bs]
theorem str_one (x : ByteArray) : ((AV.v (.string x)).one = true) = True := by simp [AV.one, Value.oneCell']
theorem int_own (id : Nat) : (AV.own id).int? = none := rfl
theorem ofB_l (l : List Int) : ofB l = ⟨List.toArray (l.map fun n => UInt8.ofNat n.toNat)⟩ := rfl
end

/-! What of a walk is worked out first: the result of an operation; not what comes after. -/
@[congr] theorem run_congr {r r' : Res} {K : AV → List AO → Prop} (h : r = r') : r.run K = r'.run K := by rw [h]
@[congr] theorem after_congr {r r' : Option (Prop × AV × List AO)} {H H' : List AO} {K : AV → List AO → Prop} {L : Prop} (h : r = r') (h2 : H = H') : after r H K L = after r' H' K L := by rw [h, h2]
@[congr] theorem lend_congr {C : Cfg} {f : Nat} {xs xs' : List AV} {H H' : List AO} {K : AV → List AO → Prop} {js js' : List Nat} (h : xs = xs') (h1 : H = H') (h2 : js = js') : lendRun C f xs H K js = lendRun C f xs' H' K js' := by rw [h, h1, h2]
@[congr] theorem afterM_congr {r r' : Option (Prop × AV × List AO)} {H : List AO} {K : AV → List AO → Prop} {js : List Nat} (h : r = r') : afterM r H K js = afterM r' H K js := by rw [h]

section
variable {C : Cfg} {ds : List (Option Tmp)} {rest : List Oper} {fr : List AV} {H : List AO} {K : ASt → Prop} {d g : Tmp} {ty : TypeId} {pos : String} {aft : Array Edge} {op : Op} {j : Nat} {want : Bool}
/-! The same steps as equations that are told, not reckoned: the kernel need not unfold the walk. -/
theorem aol_nil' (s : ASt) : aol C ds [] s K = K s := by rw [aol_nil]
theorem aol_some' : aol C ds (⟨some d, op, ty, pos, aft, none⟩ :: rest) ⟨fr, H⟩ K = (aop C op (ASt.ev ⟨fr, H⟩) H).run fun v H' => aol C ds rest ⟨upd fr d v, H'⟩ K := by rw [aol_some]
theorem aol_none' : aol C ds (⟨none, op, ty, pos, aft, none⟩ :: rest) ⟨fr, H⟩ K = (aop C op (ASt.ev ⟨fr, H⟩) H).run fun _ H' => aol C ds rest ⟨fr, H'⟩ K := by rw [aol_none]
/-- A guarded operation: both ways. -/
theorem aol_guard_b {x : Bool} (hg : (ds[j]?).bind id = some g) (e : nth fr g = .b x)
    (h1 : x = want → (aop C op (ASt.ev ⟨upd fr g (.b want), H⟩) H).run fun v H' => aol C ds rest ⟨upd (upd fr g (.b want)) d v, H'⟩ K)
    (h2 : x = !want → aol C ds rest ⟨upd (upd fr g (.b (!want))) d .un, H⟩ K) : aol C ds (⟨some d, op, ty, pos, aft, some (j, want)⟩ :: rest) ⟨fr, H⟩ K := by
  rw [aol_guard, hg]
  simp only [e, grd_b]
  exact ⟨h1, h2⟩
theorem upd_idem : ∀ {fr : List AV} {g : Nat} {v : AV}, nth fr g = v → v ≠ .any → v ≠ .un → upd fr g v = fr
  | [], _, _, _, _, _ => rfl
  | x :: xs, 0, v, h, _, _ => by rw [nth_zero] at h; rw [upd_zero, h]
  | x :: xs, g + 1, v, h, h1, h2 => by rw [nth_succ] at h; rw [upd_succ, upd_idem h h1 h2]
/-- The guard is known to hold. -/
theorem aol_guard_t (hg : (ds[j]?).bind id = some g) (e : nth fr g = .b want) (h : aol C ds (⟨some d, op, ty, pos, aft, none⟩ :: rest) ⟨fr, H⟩ K) : aol C ds (⟨some d, op, ty, pos, aft, some (j, want)⟩ :: rest) ⟨fr, H⟩ K := by
  rw [aol_some] at h
  refine aol_guard_b hg e (fun _ => ?_) (fun hx => ?_)
  · rw [upd_idem e (by simp) (by simp)]; exact h
  · cases want <;> cases hx
/-- The guard is known not to hold. -/
theorem aol_guard_f (hg : (ds[j]?).bind id = some g) (e : nth fr g = .b (!want)) (h : aol C ds rest ⟨upd fr d .un, H⟩ K) : aol C ds (⟨some d, op, ty, pos, aft, some (j, want)⟩ :: rest) ⟨fr, H⟩ K := by
  refine aol_guard_b hg e (fun hx => ?_) (fun _ => ?_)
  · cases want <;> cases hx
  · rw [upd_idem e (by simp) (by simp)]; exact h
theorem aol_guard_un (hg : (ds[j]?).bind id = some g) (e : nth fr g = .un) (h : aol C ds rest ⟨upd fr d .un, H⟩ K) : aol C ds (⟨some d, op, ty, pos, aft, some (j, want)⟩ :: rest) ⟨fr, H⟩ K := by
  rw [aol_guard, hg]
  simp only [e, grd_un]
  exact h
end

/-! Regions: what comes after is a plain variable. -/
theorem awp_regK {c : Cx} {C : Cfg} {Q : Exit → ASt → Prop} {s : ASt} {id : Nat} {l : List Oper} {ds : List (Option Tmp)} (hd : Dsts l ds) (h : ∀ K : ASt → Prop, (∀ s, Q .normal s → K s) → aol C ds l s K) : Awp c C (.region id l.toArray false) Q s :=
  awp_reg hd (h _ fun _ h => h)
theorem awp_drwK {c : Cx} {C : Cfg} {Q : Exit → ASt → Prop} {s : ASt} {id : Nat} {l : List Oper} {ds : List (Option Tmp)} (hB : drawA l.toArray = true) (hd : Dsts l ds) (h : ∀ K : ASt → Prop, (∀ s, Q .normal s → K s) → aol C.noM ds l s K) : Awp c C (.region id l.toArray true) Q s :=
  awp_drw hB hd (h _ fun _ h => h)

/-! Longer steps over a frame. -/
theorem upd_8 (x0 x1 x2 x3 x4 x5 x6 x7 : AV) (xs : List AV) (n : Nat) (v : AV) : upd (x0 :: x1 :: x2 :: x3 :: x4 :: x5 :: x6 :: x7 :: xs) (n + 8) v = x0 :: x1 :: x2 :: x3 :: x4 :: x5 :: x6 :: x7 :: upd xs n v := rfl
theorem nth_8 (x0 x1 x2 x3 x4 x5 x6 x7 : AV) (xs : List AV) (n : Nat) : nth (x0 :: x1 :: x2 :: x3 :: x4 :: x5 :: x6 :: x7 :: xs) (n + 8) = nth xs n := rfl
theorem upd_k0 (x0 : AV) (xs : List AV) (v : AV) : upd (x0 :: xs) 0 v = v :: xs := rfl
theorem nth_k0 (x0 : AV) (xs : List AV) : nth (x0 :: xs) 0 = x0 := rfl
theorem upd_k1 (x0 x1 : AV) (xs : List AV) (v : AV) : upd (x0 :: x1 :: xs) 1 v = x0 :: v :: xs := rfl
theorem nth_k1 (x0 x1 : AV) (xs : List AV) : nth (x0 :: x1 :: xs) 1 = x1 := rfl
theorem upd_k2 (x0 x1 x2 : AV) (xs : List AV) (v : AV) : upd (x0 :: x1 :: x2 :: xs) 2 v = x0 :: x1 :: v :: xs := rfl
theorem nth_k2 (x0 x1 x2 : AV) (xs : List AV) : nth (x0 :: x1 :: x2 :: xs) 2 = x2 := rfl
theorem upd_k3 (x0 x1 x2 x3 : AV) (xs : List AV) (v : AV) : upd (x0 :: x1 :: x2 :: x3 :: xs) 3 v = x0 :: x1 :: x2 :: v :: xs := rfl
theorem nth_k3 (x0 x1 x2 x3 : AV) (xs : List AV) : nth (x0 :: x1 :: x2 :: x3 :: xs) 3 = x3 := rfl
theorem upd_k4 (x0 x1 x2 x3 x4 : AV) (xs : List AV) (v : AV) : upd (x0 :: x1 :: x2 :: x3 :: x4 :: xs) 4 v = x0 :: x1 :: x2 :: x3 :: v :: xs := rfl
theorem nth_k4 (x0 x1 x2 x3 x4 : AV) (xs : List AV) : nth (x0 :: x1 :: x2 :: x3 :: x4 :: xs) 4 = x4 := rfl
theorem upd_k5 (x0 x1 x2 x3 x4 x5 : AV) (xs : List AV) (v : AV) : upd (x0 :: x1 :: x2 :: x3 :: x4 :: x5 :: xs) 5 v = x0 :: x1 :: x2 :: x3 :: x4 :: v :: xs := rfl
theorem nth_k5 (x0 x1 x2 x3 x4 x5 : AV) (xs : List AV) : nth (x0 :: x1 :: x2 :: x3 :: x4 :: x5 :: xs) 5 = x5 := rfl
theorem upd_k6 (x0 x1 x2 x3 x4 x5 x6 : AV) (xs : List AV) (v : AV) : upd (x0 :: x1 :: x2 :: x3 :: x4 :: x5 :: x6 :: xs) 6 v = x0 :: x1 :: x2 :: x3 :: x4 :: x5 :: v :: xs := rfl
theorem nth_k6 (x0 x1 x2 x3 x4 x5 x6 : AV) (xs : List AV) : nth (x0 :: x1 :: x2 :: x3 :: x4 :: x5 :: x6 :: xs) 6 = x6 := rfl
theorem upd_k7 (x0 x1 x2 x3 x4 x5 x6 x7 : AV) (xs : List AV) (v : AV) : upd (x0 :: x1 :: x2 :: x3 :: x4 :: x5 :: x6 :: x7 :: xs) 7 v = x0 :: x1 :: x2 :: x3 :: x4 :: x5 :: x6 :: v :: xs := rfl
theorem nth_k7 (x0 x1 x2 x3 x4 x5 x6 x7 : AV) (xs : List AV) : nth (x0 :: x1 :: x2 :: x3 :: x4 :: x5 :: x6 :: x7 :: xs) 7 = x7 := rfl
theorem sh0_i (n : Int) (m : Nat) : (AV.i n).shift0 m = .i n := rfl
theorem sh0_b (x : Bool) (m : Nat) : (AV.b x).shift0 m = .b x := rfl
theorem sh0_v (x : Value) (m : Nat) : (AV.v x).shift0 m = .v x := rfl
theorem sh0_nl (m : Nat) : AV.nl.shift0 m = .nl := rfl
theorem sh0_own (j m : Nat) : (AV.own j).shift0 m = .own (j + m) := rfl
theorem sh1_i (n : Int) (m : Nat) : (AV.i n).shift1 m = .i n := rfl
theorem sh1_b (x : Bool) (m : Nat) : (AV.b x).shift1 m = .b x := rfl
theorem sh1_v (x : Value) (m : Nat) : (AV.v x).shift1 m = .v x := rfl
theorem sh1_nl (m : Nat) : AV.nl.shift1 m = .nl := rfl
theorem sh1_own (j m : Nat) : (AV.own j).shift1 m = .own (j + m) := rfl
theorem sh1_ag (cs : List AV) (m : Nat) : (AV.ag cs).shift1 m = .ag (cs.map (AV.shift0 m)) := rfl
theorem shift_nl (m : Nat) : AV.nl.shift m = .nl := rfl
/-! The other kinds of integers. -/
section
variable {T : Option TD} {a b : Int} {H : List AO} {K : AV → List AO → Prop} {fr : List AV}
theorem ev_u64 {n : Int} : ASt.ev ⟨fr, H⟩ (.const (.int .u64 n)) = .v (.int .u64 n) := by rfl
theorem b_add_u64 : (aBin .add T (.v (.int .u64 a)) (.v (.int .u64 b)) H).run K = K (.v (.int .u64 (IntKind.u64.wrap (a + b)))) H := by simp [aBin, AV.int?, Res.run, wrapV]
theorem b_sub_u64 : (aBin .sub T (.v (.int .u64 a)) (.v (.int .u64 b)) H).run K = K (.v (.int .u64 (IntKind.u64.wrap (a - b)))) H := by simp [aBin, AV.int?, Res.run, wrapV]
theorem b_mul_u64 : (aBin .mul T (.v (.int .u64 a)) (.v (.int .u64 b)) H).run K = K (.v (.int .u64 (IntKind.u64.wrap (a * b)))) H := by simp [aBin, AV.int?, Res.run, wrapV]
theorem b_and_u64 : (aBin .and T (.v (.int .u64 a)) (.v (.int .u64 b)) H).run K = K (.v (.int .u64 (bitsK .and .u64 a b))) H := by simp [aBin, AV.int?, Res.run, bitsV]
theorem b_or_u64 : (aBin .or T (.v (.int .u64 a)) (.v (.int .u64 b)) H).run K = K (.v (.int .u64 (bitsK .or .u64 a b))) H := by simp [aBin, AV.int?, Res.run, bitsV]
theorem b_xor_u64 : (aBin .xor T (.v (.int .u64 a)) (.v (.int .u64 b)) H).run K = K (.v (.int .u64 (bitsK .xor .u64 a b))) H := by simp [aBin, AV.int?, Res.run, bitsV]
theorem b_andNot_u64 : (aBin .andNot T (.v (.int .u64 a)) (.v (.int .u64 b)) H).run K = K (.v (.int .u64 (bitsK .andNot .u64 a b))) H := by simp [aBin, AV.int?, Res.run, bitsV]
theorem b_eql_u64 : (aBin .eql T (.v (.int .u64 a)) (.v (.int .u64 b)) H).run K = K (.b (decide (a = b))) H := by simp [aBin, AV.int?, Res.run]
theorem b_neq_u64 : (aBin .neq T (.v (.int .u64 a)) (.v (.int .u64 b)) H).run K = K (.b (!decide (a = b))) H := by simp [aBin, AV.int?, Res.run]
theorem b_lss_u64 : (aBin .lss T (.v (.int .u64 a)) (.v (.int .u64 b)) H).run K = K (.b (decide (a < b))) H := by simp [aBin, AV.int?, Res.run]
theorem b_leq_u64 : (aBin .leq T (.v (.int .u64 a)) (.v (.int .u64 b)) H).run K = K (.b (decide (a ≤ b))) H := by simp [aBin, AV.int?, Res.run]
theorem b_gtr_u64 : (aBin .gtr T (.v (.int .u64 a)) (.v (.int .u64 b)) H).run K = K (.b (decide (b < a))) H := by simp [aBin, AV.int?, Res.run]
theorem b_geq_u64 : (aBin .geq T (.v (.int .u64 a)) (.v (.int .u64 b)) H).run K = K (.b (decide (b ≤ a))) H := by simp [aBin, AV.int?, Res.run]
theorem b_quo_u64 : (aBin .quo T (.v (.int .u64 a)) (.v (.int .u64 b)) H).run K = (b ≠ 0 ∧ K (.v (.int .u64 (IntKind.u64.wrap (a.tdiv b)))) H) := by simp [aBin, AV.int?, Res.run, wrapV]
theorem b_rem_u64 : (aBin .rem T (.v (.int .u64 a)) (.v (.int .u64 b)) H).run K = (b ≠ 0 ∧ K (.v (.int .u64 (a.tmod b))) H) := by simp [aBin, AV.int?, Res.run, iv]
theorem b_shl_u64 {k : IntKind} : (aBin .shl T (.v (.int .u64 a)) (.v (.int k b)) H).run K = (0 ≤ b ∧ K (.v (.int .u64 (shlK .u64 a b))) H) := by simp [aBin, AV.int?, Res.run, shlV]
theorem b_shli_u64 : (aBin .shl T (.v (.int .u64 a)) (.i b) H).run K = (0 ≤ b ∧ K (.v (.int .u64 (shlK .u64 a b))) H) := by simp [aBin, AV.int?, Res.run, shlV]
theorem b_shr_u64 {k : IntKind} : (aBin .shr T (.v (.int .u64 a)) (.v (.int k b)) H).run K = (0 ≤ b ∧ K (.v (.int .u64 (shrK .u64 a b))) H) := by simp [aBin, AV.int?, Res.run, shrV]
theorem b_shri_u64 : (aBin .shr T (.v (.int .u64 a)) (.i b) H).run K = (0 ≤ b ∧ K (.v (.int .u64 (shrK .u64 a b))) H) := by simp [aBin, AV.int?, Res.run, shrV]
theorem ev_u32 {n : Int} : ASt.ev ⟨fr, H⟩ (.const (.int .u32 n)) = .v (.int .u32 n) := by rfl
theorem b_add_u32 : (aBin .add T (.v (.int .u32 a)) (.v (.int .u32 b)) H).run K = K (.v (.int .u32 (IntKind.u32.wrap (a + b)))) H := by simp [aBin, AV.int?, Res.run, wrapV]
theorem b_sub_u32 : (aBin .sub T (.v (.int .u32 a)) (.v (.int .u32 b)) H).run K = K (.v (.int .u32 (IntKind.u32.wrap (a - b)))) H := by simp [aBin, AV.int?, Res.run, wrapV]
theorem b_mul_u32 : (aBin .mul T (.v (.int .u32 a)) (.v (.int .u32 b)) H).run K = K (.v (.int .u32 (IntKind.u32.wrap (a * b)))) H := by simp [aBin, AV.int?, Res.run, wrapV]
theorem b_and_u32 : (aBin .and T (.v (.int .u32 a)) (.v (.int .u32 b)) H).run K = K (.v (.int .u32 (bitsK .and .u32 a b))) H := by simp [aBin, AV.int?, Res.run, bitsV]
theorem b_or_u32 : (aBin .or T (.v (.int .u32 a)) (.v (.int .u32 b)) H).run K = K (.v (.int .u32 (bitsK .or .u32 a b))) H := by simp [aBin, AV.int?, Res.run, bitsV]
theorem b_xor_u32 : (aBin .xor T (.v (.int .u32 a)) (.v (.int .u32 b)) H).run K = K (.v (.int .u32 (bitsK .xor .u32 a b))) H := by simp [aBin, AV.int?, Res.run, bitsV]
theorem b_andNot_u32 : (aBin .andNot T (.v (.int .u32 a)) (.v (.int .u32 b)) H).run K = K (.v (.int .u32 (bitsK .andNot .u32 a b))) H := by simp [aBin, AV.int?, Res.run, bitsV]
theorem b_eql_u32 : (aBin .eql T (.v (.int .u32 a)) (.v (.int .u32 b)) H).run K = K (.b (decide (a = b))) H := by simp [aBin, AV.int?, Res.run]
theorem b_neq_u32 : (aBin .neq T (.v (.int .u32 a)) (.v (.int .u32 b)) H).run K = K (.b (!decide (a = b))) H := by simp [aBin, AV.int?, Res.run]
theorem b_lss_u32 : (aBin .lss T (.v (.int .u32 a)) (.v (.int .u32 b)) H).run K = K (.b (decide (a < b))) H := by simp [aBin, AV.int?, Res.run]
theorem b_leq_u32 : (aBin .leq T (.v (.int .u32 a)) (.v (.int .u32 b)) H).run K = K (.b (decide (a ≤ b))) H := by simp [aBin, AV.int?, Res.run]
theorem b_gtr_u32 : (aBin .gtr T (.v (.int .u32 a)) (.v (.int .u32 b)) H).run K = K (.b (decide (b < a))) H := by simp [aBin, AV.int?, Res.run]
theorem b_geq_u32 : (aBin .geq T (.v (.int .u32 a)) (.v (.int .u32 b)) H).run K = K (.b (decide (b ≤ a))) H := by simp [aBin, AV.int?, Res.run]
theorem b_quo_u32 : (aBin .quo T (.v (.int .u32 a)) (.v (.int .u32 b)) H).run K = (b ≠ 0 ∧ K (.v (.int .u32 (IntKind.u32.wrap (a.tdiv b)))) H) := by simp [aBin, AV.int?, Res.run, wrapV]
theorem b_rem_u32 : (aBin .rem T (.v (.int .u32 a)) (.v (.int .u32 b)) H).run K = (b ≠ 0 ∧ K (.v (.int .u32 (a.tmod b))) H) := by simp [aBin, AV.int?, Res.run, iv]
theorem b_shl_u32 {k : IntKind} : (aBin .shl T (.v (.int .u32 a)) (.v (.int k b)) H).run K = (0 ≤ b ∧ K (.v (.int .u32 (shlK .u32 a b))) H) := by simp [aBin, AV.int?, Res.run, shlV]
theorem b_shli_u32 : (aBin .shl T (.v (.int .u32 a)) (.i b) H).run K = (0 ≤ b ∧ K (.v (.int .u32 (shlK .u32 a b))) H) := by simp [aBin, AV.int?, Res.run, shlV]
theorem b_shr_u32 {k : IntKind} : (aBin .shr T (.v (.int .u32 a)) (.v (.int k b)) H).run K = (0 ≤ b ∧ K (.v (.int .u32 (shrK .u32 a b))) H) := by simp [aBin, AV.int?, Res.run, shrV]
theorem b_shri_u32 : (aBin .shr T (.v (.int .u32 a)) (.i b) H).run K = (0 ≤ b ∧ K (.v (.int .u32 (shrK .u32 a b))) H) := by simp [aBin, AV.int?, Res.run, shrV]
theorem ev_u8 {n : Int} : ASt.ev ⟨fr, H⟩ (.const (.int .u8 n)) = .v (.int .u8 n) := by rfl
theorem b_add_u8 : (aBin .add T (.v (.int .u8 a)) (.v (.int .u8 b)) H).run K = K (.v (.int .u8 (IntKind.u8.wrap (a + b)))) H := by simp [aBin, AV.int?, Res.run, wrapV]
theorem b_sub_u8 : (aBin .sub T (.v (.int .u8 a)) (.v (.int .u8 b)) H).run K = K (.v (.int .u8 (IntKind.u8.wrap (a - b)))) H := by simp [aBin, AV.int?, Res.run, wrapV]
theorem b_mul_u8 : (aBin .mul T (.v (.int .u8 a)) (.v (.int .u8 b)) H).run K = K (.v (.int .u8 (IntKind.u8.wrap (a * b)))) H := by simp [aBin, AV.int?, Res.run, wrapV]
theorem b_and_u8 : (aBin .and T (.v (.int .u8 a)) (.v (.int .u8 b)) H).run K = K (.v (.int .u8 (bitsK .and .u8 a b))) H := by simp [aBin, AV.int?, Res.run, bitsV]
theorem b_or_u8 : (aBin .or T (.v (.int .u8 a)) (.v (.int .u8 b)) H).run K = K (.v (.int .u8 (bitsK .or .u8 a b))) H := by simp [aBin, AV.int?, Res.run, bitsV]
theorem b_xor_u8 : (aBin .xor T (.v (.int .u8 a)) (.v (.int .u8 b)) H).run K = K (.v (.int .u8 (bitsK .xor .u8 a b))) H := by simp [aBin, AV.int?, Res.run, bitsV]
theorem b_andNot_u8 : (aBin .andNot T (.v (.int .u8 a)) (.v (.int .u8 b)) H).run K = K (.v (.int .u8 (bitsK .andNot .u8 a b))) H := by simp [aBin, AV.int?, Res.run, bitsV]
theorem b_eql_u8 : (aBin .eql T (.v (.int .u8 a)) (.v (.int .u8 b)) H).run K = K (.b (decide (a = b))) H := by simp [aBin, AV.int?, Res.run]
theorem b_neq_u8 : (aBin .neq T (.v (.int .u8 a)) (.v (.int .u8 b)) H).run K = K (.b (!decide (a = b))) H := by simp [aBin, AV.int?, Res.run]
theorem b_lss_u8 : (aBin .lss T (.v (.int .u8 a)) (.v (.int .u8 b)) H).run K = K (.b (decide (a < b))) H := by simp [aBin, AV.int?, Res.run]
theorem b_leq_u8 : (aBin .leq T (.v (.int .u8 a)) (.v (.int .u8 b)) H).run K = K (.b (decide (a ≤ b))) H := by simp [aBin, AV.int?, Res.run]
theorem b_gtr_u8 : (aBin .gtr T (.v (.int .u8 a)) (.v (.int .u8 b)) H).run K = K (.b (decide (b < a))) H := by simp [aBin, AV.int?, Res.run]
theorem b_geq_u8 : (aBin .geq T (.v (.int .u8 a)) (.v (.int .u8 b)) H).run K = K (.b (decide (b ≤ a))) H := by simp [aBin, AV.int?, Res.run]
theorem b_quo_u8 : (aBin .quo T (.v (.int .u8 a)) (.v (.int .u8 b)) H).run K = (b ≠ 0 ∧ K (.v (.int .u8 (IntKind.u8.wrap (a.tdiv b)))) H) := by simp [aBin, AV.int?, Res.run, wrapV]
theorem b_rem_u8 : (aBin .rem T (.v (.int .u8 a)) (.v (.int .u8 b)) H).run K = (b ≠ 0 ∧ K (.v (.int .u8 (a.tmod b))) H) := by simp [aBin, AV.int?, Res.run, iv]
theorem b_shl_u8 {k : IntKind} : (aBin .shl T (.v (.int .u8 a)) (.v (.int k b)) H).run K = (0 ≤ b ∧ K (.v (.int .u8 (shlK .u8 a b))) H) := by simp [aBin, AV.int?, Res.run, shlV]
theorem b_shli_u8 : (aBin .shl T (.v (.int .u8 a)) (.i b) H).run K = (0 ≤ b ∧ K (.v (.int .u8 (shlK .u8 a b))) H) := by simp [aBin, AV.int?, Res.run, shlV]
theorem b_shr_u8 {k : IntKind} : (aBin .shr T (.v (.int .u8 a)) (.v (.int k b)) H).run K = (0 ≤ b ∧ K (.v (.int .u8 (shrK .u8 a b))) H) := by simp [aBin, AV.int?, Res.run, shrV]
theorem b_shri_u8 : (aBin .shr T (.v (.int .u8 a)) (.i b) H).run K = (0 ≤ b ∧ K (.v (.int .u8 (shrK .u8 a b))) H) := by simp [aBin, AV.int?, Res.run, shrV]
theorem ev_i32 {n : Int} : ASt.ev ⟨fr, H⟩ (.const (.int .i32 n)) = .v (.int .i32 n) := by rfl
theorem b_add_i32 : (aBin .add T (.v (.int .i32 a)) (.v (.int .i32 b)) H).run K = K (.v (.int .i32 (IntKind.i32.wrap (a + b)))) H := by simp [aBin, AV.int?, Res.run, wrapV]
theorem b_sub_i32 : (aBin .sub T (.v (.int .i32 a)) (.v (.int .i32 b)) H).run K = K (.v (.int .i32 (IntKind.i32.wrap (a - b)))) H := by simp [aBin, AV.int?, Res.run, wrapV]
theorem b_mul_i32 : (aBin .mul T (.v (.int .i32 a)) (.v (.int .i32 b)) H).run K = K (.v (.int .i32 (IntKind.i32.wrap (a * b)))) H := by simp [aBin, AV.int?, Res.run, wrapV]
theorem b_and_i32 : (aBin .and T (.v (.int .i32 a)) (.v (.int .i32 b)) H).run K = K (.v (.int .i32 (bitsK .and .i32 a b))) H := by simp [aBin, AV.int?, Res.run, bitsV]
theorem b_or_i32 : (aBin .or T (.v (.int .i32 a)) (.v (.int .i32 b)) H).run K = K (.v (.int .i32 (bitsK .or .i32 a b))) H := by simp [aBin, AV.int?, Res.run, bitsV]
theorem b_xor_i32 : (aBin .xor T (.v (.int .i32 a)) (.v (.int .i32 b)) H).run K = K (.v (.int .i32 (bitsK .xor .i32 a b))) H := by simp [aBin, AV.int?, Res.run, bitsV]
theorem b_andNot_i32 : (aBin .andNot T (.v (.int .i32 a)) (.v (.int .i32 b)) H).run K = K (.v (.int .i32 (bitsK .andNot .i32 a b))) H := by simp [aBin, AV.int?, Res.run, bitsV]
theorem b_eql_i32 : (aBin .eql T (.v (.int .i32 a)) (.v (.int .i32 b)) H).run K = K (.b (decide (a = b))) H := by simp [aBin, AV.int?, Res.run]
theorem b_neq_i32 : (aBin .neq T (.v (.int .i32 a)) (.v (.int .i32 b)) H).run K = K (.b (!decide (a = b))) H := by simp [aBin, AV.int?, Res.run]
theorem b_lss_i32 : (aBin .lss T (.v (.int .i32 a)) (.v (.int .i32 b)) H).run K = K (.b (decide (a < b))) H := by simp [aBin, AV.int?, Res.run]
theorem b_leq_i32 : (aBin .leq T (.v (.int .i32 a)) (.v (.int .i32 b)) H).run K = K (.b (decide (a ≤ b))) H := by simp [aBin, AV.int?, Res.run]
theorem b_gtr_i32 : (aBin .gtr T (.v (.int .i32 a)) (.v (.int .i32 b)) H).run K = K (.b (decide (b < a))) H := by simp [aBin, AV.int?, Res.run]
theorem b_geq_i32 : (aBin .geq T (.v (.int .i32 a)) (.v (.int .i32 b)) H).run K = K (.b (decide (b ≤ a))) H := by simp [aBin, AV.int?, Res.run]
theorem b_quo_i32 : (aBin .quo T (.v (.int .i32 a)) (.v (.int .i32 b)) H).run K = (b ≠ 0 ∧ K (.v (.int .i32 (IntKind.i32.wrap (a.tdiv b)))) H) := by simp [aBin, AV.int?, Res.run, wrapV]
theorem b_rem_i32 : (aBin .rem T (.v (.int .i32 a)) (.v (.int .i32 b)) H).run K = (b ≠ 0 ∧ K (.v (.int .i32 (a.tmod b))) H) := by simp [aBin, AV.int?, Res.run, iv]
theorem b_shl_i32 {k : IntKind} : (aBin .shl T (.v (.int .i32 a)) (.v (.int k b)) H).run K = (0 ≤ b ∧ K (.v (.int .i32 (shlK .i32 a b))) H) := by simp [aBin, AV.int?, Res.run, shlV]
theorem b_shli_i32 : (aBin .shl T (.v (.int .i32 a)) (.i b) H).run K = (0 ≤ b ∧ K (.v (.int .i32 (shlK .i32 a b))) H) := by simp [aBin, AV.int?, Res.run, shlV]
theorem b_shr_i32 {k : IntKind} : (aBin .shr T (.v (.int .i32 a)) (.v (.int k b)) H).run K = (0 ≤ b ∧ K (.v (.int .i32 (shrK .i32 a b))) H) := by simp [aBin, AV.int?, Res.run, shrV]
theorem b_shri_i32 : (aBin .shr T (.v (.int .i32 a)) (.i b) H).run K = (0 ≤ b ∧ K (.v (.int .i32 (shrK .i32 a b))) H) := by simp [aBin, AV.int?, Res.run, shrV]
end

/-! Ends of functions to which objects were lent. -/
theorem finm_keep {m : Nat} {C : Cfg} {rs : List ResultVar} {out : AV} {Ho : List AO} {s : ASt} (h : FinSM m C rs out Ho s) : FinSM m C rs out Ho s := h
theorem ren_id1 {m : Nat} {σ : List Nat} (h : σ.getD 0 0 = 0) : (AV.own 0).ren0 σ = .own 0 := by simp only [AV.ren0, h]
/-- One object was lent; the result is plain. -/
theorem finm_1 {C : Cfg} {t : Tmp} {out : AV} {o : AO} {s : ASt} (hr : out.ren [0] = out) (ho : o.ren [0] = o) (h : nth s.fr t = out) (hh : s.hp[0]? = some o) : FinSM 1 C [.tmp t] out [o] s :=
  ⟨s, Wk.refl s, _, _, rfl, ⟨trivial, trivial⟩, [0], by simp, rfl, by rw [hr, ← h], by simp [hh, ho]⟩
theorem lendOk_true {H : List AO} {js : List Nat} (h : lendOk H js = true) : lendOk H js = true := h
end Go.Ab
