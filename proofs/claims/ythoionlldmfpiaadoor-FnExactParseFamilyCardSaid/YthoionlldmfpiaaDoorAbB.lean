/-
  AN ABSTRACT MACHINE, part B: what an operation does to abstract values and heaps.
-/
import Derived.Test.YthoionlldmfpiaaDoorAbA
set_option linter.unusedSimpArgs false
set_option linter.unusedVariables false
namespace Go.Ab
open Go Go.RowKit

inductive TK where
  | int (k : IntKind)
  | bool
  | str
  | slice (e : TypeId)
  | struct (fs : List (Nat × TypeId))
  | oth
structure TD where
  kd : TK
  size : Nat
  bytes : Nat
  zero : List AV

def TD.agg (d : TD) : Bool := match d.kd with | .struct _ => true | _ => false

/-- The static data: types by number; contracts by number (a precondition, the result, the new objects). -/
structure Cfg where
  Γ : TypeId → Option TD
  T : Nat → List AV → Option (Prop × AV × List AO)
  /-- Contracts of functions to which the caller lends objects: by the values and by the objects that are lent. -/
  M : Nat → List AV → List AO → Option (Prop × AV × List AO)
/-- The same, nothing lent. -/
def Cfg.noM (C : Cfg) : Cfg := ⟨C.Γ, C.T, fun _ _ _ => none⟩

inductive Res where
  | bad
  | ok (pre : Prop) (v : AV) (H : List AO)
def Res.run : Res → (AV → List AO → Prop) → Prop
  | .bad, _ => False
  | .ok p v H, K => p ∧ K v H

def AV.cellOk : AV → Bool
  | .i _ | .b _ | .nl | .sl .. | .ref _ | .own _ | .eo .. | .bp .. | .fn .. | .fv _ | .sc .. => true
  | .v x => x.oneCell'
  | _ => false
/-- A value of one cell that names no memory. -/
def AV.val? : AV → Option Value
  | .i n => some (.int .i64 n)
  | .b x => some (.bool x)
  | .nl => some (.slice none 0 0)
  | .v x => if x.oneCell' = true then some x else none
  | _ => none
def cval : AV → Value
  | .i n => .int .i64 n
  | .b x => .bool x
  | .nl => .slice none 0 0
  | .v x => x
  | _ => undef
def AV.one : AV → Bool
  | .i _ | .b _ | .nl => true
  | .v x => x.oneCell'
  | _ => false
def AV.int? : AV → Option (IntKind × Int)
  | .i n => some (.i64, n)
  | .v (.int k n) => some (k, n)
  | _ => none

/-! ### Numbers -/
def bitsK (op : BinOp) (k : IntKind) (x y : Int) : Int :=
  k.wrap (match op with
    | .and => BitVec.ofInt k.bits x &&& BitVec.ofInt k.bits y
    | .or => BitVec.ofInt k.bits x ||| BitVec.ofInt k.bits y
    | .xor => BitVec.ofInt k.bits x ^^^ BitVec.ofInt k.bits y
    | _ => BitVec.ofInt k.bits x &&& ~~~(BitVec.ofInt k.bits y)).toNat
def iand (x y : Int) : Int := bitsK .and .i64 x y
def ior (x y : Int) : Int := bitsK .or .i64 x y
def ixor (x y : Int) : Int := bitsK .xor .i64 x y
def iandn (x y : Int) : Int := bitsK .andNot .i64 x y
def bitsV (op : BinOp) (k : IntKind) (x y : Int) : AV :=
  match k, op with
  | .i64, .and => .i (iand x y)
  | .i64, .or => .i (ior x y)
  | .i64, .xor => .i (ixor x y)
  | .i64, _ => .i (iandn x y)
  | k, op => .v (.int k (bitsK op k x y))
def shlK (k : IntKind) (x y : Int) : Int := k.wrap (x * 2 ^ (min y.toNat k.bits))
def shrK (k : IntKind) (x y : Int) : Int := x.fdiv (2 ^ (min y.toNat k.bits))
def ishl (x y : Int) : Int := shlK .i64 x y
def ishr (x y : Int) : Int := shrK .i64 x y
def shlV (k : IntKind) (x y : Int) : AV := match k with | .i64 => .i (ishl x y) | k => .v (.int k (shlK k x y))
def shrV (k : IntKind) (x y : Int) : AV := match k with | .i64 => .i (ishr x y) | k => .v (.int k (shrK k x y))
def wrapV (k : IntKind) (n : Int) : AV := match k with | .i64 => .i (wrap64 n) | k => .v (.int k (k.wrap n))

def aBin (op : BinOp) (T : Option TD) (x y : AV) (H : List AO) : Res :=
  match x.int?, y.int? with
  | some (k, a), some (k', b) =>
    match op with
    | .shl => .ok (0 ≤ b) (shlV k a b) H
    | .shr => .ok (0 ≤ b) (shrV k a b) H
    | .add => .ok (k = k') (wrapV k (a + b)) H
    | .sub => .ok (k = k') (wrapV k (a - b)) H
    | .mul => .ok (k = k') (wrapV k (a * b)) H
    | .quo => .ok (k = k' ∧ b ≠ 0) (wrapV k (a.tdiv b)) H
    | .rem => .ok (k = k' ∧ b ≠ 0) (iv k (a.tmod b)) H
    | .and => .ok (k = k') (bitsV .and k a b) H
    | .or => .ok (k = k') (bitsV .or k a b) H
    | .xor => .ok (k = k') (bitsV .xor k a b) H
    | .andNot => .ok (k = k') (bitsV .andNot k a b) H
    | .eql => .ok (k = k') (.b (decide (a = b))) H
    | .neq => .ok (k = k') (.b (!decide (a = b))) H
    | .lss => .ok (k = k') (.b (decide (a < b))) H
    | .leq => .ok (k = k') (.b (decide (a ≤ b))) H
    | .gtr => .ok (k = k') (.b (decide (b < a))) H
    | .geq => .ok (k = k') (.b (decide (b ≤ a))) H
  | _, _ =>
    match op, x, y with
    | .eql, .b p, .b q => match T with | some ⟨.bool, _, _, _⟩ => .ok True (.b (p == q)) H | _ => .bad
    | .neq, .b p, .b q => match T with | some ⟨.bool, _, _, _⟩ => .ok True (.b (!(p == q))) H | _ => .bad
    | .eql, .v (.string p), .v (.string q) => .ok True (.b (p.toList == q.toList)) H
    | .neq, .v (.string p), .v (.string q) => .ok True (.b (!(p.toList == q.toList))) H
    | .add, .v (.string p), .v (.string q) => .ok (p.size + q.size ≤ 9223372036854775807) (.v (.string (p ++ q))) H
    | _, _, _ => .bad

def aUn (op : UnOp) (x : AV) (H : List AO) : Res :=
  match op, x with
  | .not, .b p => .ok True (.b (!p)) H
  | .neg, .i n => .ok True (.i (wrap64 (0 - n))) H
  | _, _ => .bad

def aPick (c x y : AV) (H : List AO) : Res :=
  match c with
  | .b true => .ok True x H
  | .b false => .ok True y H
  | _ => .bad

/-! ### Memory -/
def aLoad (T : Option TD) (x : AV) (H : List AO) : Res :=
  match T with
  | none => .bad
  | some d =>
    match d.agg, x with
    | true, .ref cs => .ok (d.size ≤ cs.length) (.ag (cs.take d.size)) H
    | true, .bp id off => match H[id]? with | some (.box _ cs) => .ok (off + d.size ≤ cs.length) (.ag ((cs.drop off).take d.size)) H | _ => .bad
    | false, .ref (y :: _) => .ok True y H
    | false, .eo id k => match H[id]? with | some (.row kd _ l) => .ok (k < l.length) (iv kd (l.getD k 0)) H | _ => .bad
    | false, .bp id off => match H[id]? with | some (.box _ cs) => .ok (off < cs.length) (nth cs off) H | _ => .bad
    | true, .ec id wd j f => match H[id]? with | some (.rc _ wd' rs) => .ok (wd = wd' ∧ j < rs.length ∧ f + d.size ≤ wd) (.ag ((((rs.getD j []).drop f).take d.size).map constAV)) H | _ => .bad
    | false, .ec id wd j f => match H[id]? with | some (.rc _ wd' rs) => .ok (wd = wd' ∧ j < rs.length ∧ f < wd) (constAV ((rs.getD j []).getD f undef)) H | _ => .bad
    | _, _ => .bad

def aStore (T : Option TD) (x y : AV) (H : List AO) : Res :=
  match T with
  | none => .bad
  | some d =>
    match d.agg, x, y with
    | true, .bp id off, .ag vs => match H[id]? with
      | some (.box T' cs) => .ok (d.size = vs.length ∧ off + vs.length ≤ cs.length ∧ vs.all AV.cellOk = true) .un (H.set id (.box T' (cs.take off ++ vs ++ cs.drop (off + vs.length))))
      | _ => .bad
    | false, .eo id k, y => match H[id]?, y.int? with
      | some (.row kd E l), some (kd', n) => .ok (d.size = 1 ∧ kd = kd' ∧ k < l.length) .un (H.set id (.row kd E (l.set k n)))
      | _, _ => .bad
    | false, .bp id off, y => match H[id]? with
      | some (.box T' cs) => .ok (d.size = 1 ∧ off < cs.length ∧ y.cellOk = true) .un (H.set id (.box T' (upd cs off y)))
      | _ => .bad
    | false, .ec id wd j f, y => match H[id]?, y.val? with
      | some (.rc E wd' rs), some u => .ok (d.size = 1 ∧ wd = wd' ∧ j < rs.length ∧ f < wd) .un (H.set id (.rc E wd' (rs.set j ((rs.getD j []).set f u))))
      | _, _ => .bad
    | _, _, _ => .bad

def aNew (o : AO) (v : Nat → AV) (pre : Prop) (H : List AO) : Res := .ok pre (v H.length) (H ++ [o])

def aBox (T : TypeId) (x : AV) (H : List AO) : Res :=
  match x with
  | .ag cs => aNew (.box T cs) (.bp · 0) True H
  | x => aNew (.box T [x]) (.bp · 0) (x.cellOk = true) H

def aAlloc (Γ : TypeId → Option TD) (T : TypeId) (H : List AO) : Res :=
  match Γ T with
  | some d => aNew (.box T d.zero) (.bp · 0) True H
  | none => .bad

/-- Parts of a struct laid over its zero cells: each part's own cells, at its field's place. -/
def aFill (Γ : TypeId → Option TD) (fs : List (Nat × TypeId)) : List (Nat × AV) → List AV → Option (Prop × List AV)
  | [], zs => some (True, zs)
  | (j, x) :: rest, zs =>
    match fs[j]? with
    | none => none
    | some (off, ft) =>
      match Γ ft with
      | none => none
      | some fd =>
        match x with
        | .ag cs => match aFill Γ fs rest (zs.take off ++ cs ++ zs.drop (off + cs.length)) with
          | some (p, r) => some ((fd.size = cs.length ∧ off + cs.length ≤ zs.length) ∧ p, r)
          | none => none
        | x => match aFill Γ fs rest (upd zs off x) with
          | some (p, r) => some ((fd.size = 1 ∧ off < zs.length ∧ x.cellOk = true) ∧ p, r)
          | none => none

def aBuild (Γ : TypeId → Option TD) (T : TypeId) (parts : List (Nat × AV)) (H : List AO) : Res :=
  match Γ T with
  | some ⟨.struct fs, _, _, z⟩ => match aFill Γ fs parts z with | some (p, r) => .ok p (.ag r) H | none => .bad
  | _ => .bad

def aRowFill (k : IntKind) : List (Nat × AV) → List Int → Option (Prop × List Int)
  | [], l => some (True, l)
  | (j, x) :: rest, l =>
    match x.int? with
    | none => none
    | some (k', n) => match aRowFill k rest (l.set j n) with
      | some (p, r) => some ((k = k' ∧ j < l.length) ∧ p, r)
      | none => none

def elemOf (Γ : TypeId → Option TD) (T : TypeId) : Option (TypeId × IntKind × Nat) :=
  match Γ T with
  | some ⟨.slice E, _, _, _⟩ => match Γ E with | some ⟨.int k, 1, b, _⟩ => some (E, k, b) | _ => none
  | _ => none

/-- Rows of structs and of strings: the element's type, its width, its bytes, its zero. -/
def elemC (Γ : TypeId → Option TD) (T : TypeId) : Option (TypeId × Nat × Nat × List Value) :=
  match Γ T with
  | some ⟨.slice E, _, _, _⟩ => match Γ E with
    | some ⟨.struct _, n, b, z⟩ => some (E, n, b, z.map cval)
    | some ⟨.str, 1, b, z⟩ => some (E, 1, b, z.map cval)
    | _ => none
  | _ => none
def aRowFillC (wd : Nat) : List (Nat × AV) → List (List Value) → Option (Prop × List (List Value))
  | [], l => some (True, l)
  | (j, .ag cs) :: rest, l => match aRowFillC wd rest (l.set j (cs.map cval)) with
    | some (p, r) => some ((j < l.length ∧ cs.length = wd ∧ cs.all AV.one = true) ∧ p, r)
    | none => none
  | (j, x) :: rest, l => match aRowFillC wd rest (l.set j [cval x]) with
    | some (p, r) => some ((j < l.length ∧ wd = 1 ∧ x.one = true) ∧ p, r)
    | none => none

def aBuildSlice (Γ : TypeId → Option TD) (T : TypeId) (n : Nat) (parts : List (Nat × AV)) (H : List AO) : Res :=
  match elemOf Γ T with
  | some (E, k, _) => match aRowFill k parts (List.replicate n 0) with
    | some (p, l) => aNew (.row k E l) .own (p ∧ n ≤ 16777216) H
    | none => .bad
  | none => match elemC Γ T with
    | some (E, wd, _, z) => match aRowFillC wd parts (List.replicate n z) with
      | some (p, rs) => aNew (.rc E wd rs) .own (p ∧ 0 < wd ∧ z.length = wd ∧ z.all Value.oneCell' = true ∧ n * wd ≤ 16777216) H
      | none => .bad
    | none => .bad

def aMakeSlice (Γ : TypeId → Option TD) (T : TypeId) (x y : AV) (H : List AO) : Res :=
  match elemOf Γ T, x, y with
  | some (E, k, b), .i n, .i m => aNew (.row k E (List.replicate n.toNat 0)) .own (0 ≤ n ∧ n = m ∧ b ≤ 8 ∧ n ≤ 1099511627776) H
  | none, .i n, .i m => match elemC Γ T with
    | some (E, wd, b, z) => aNew (.rc E wd (List.replicate n.toNat z)) .own (0 ≤ n ∧ n ≤ m ∧ 0 < wd ∧ z.length = wd ∧ z.all Value.oneCell' = true ∧ b ≤ 64 ∧ m ≤ 1099511627776) H
    | none => .bad
  | _, _, _ => .bad

def aFieldAddr (Γ : TypeId → Option TD) (S : TypeId) (x : AV) (f : Nat) (H : List AO) : Res :=
  match Γ S with
  | some ⟨.struct fs, _, _, _⟩ => match fs[f]? with
    | some (off, ft) => match Γ ft with
      | some fd => match x with
        | .ref cs => .ok (fd.size ≠ 0) (.ref (cs.drop off)) H
        | .bp id o => .ok (fd.size ≠ 0) (.bp id (o + off)) H
        | .ec id wd j o => .ok (fd.size ≠ 0) (.ec id wd j (o + off)) H
        | _ => .bad
      | none => .bad
    | none => .bad
  | _ => .bad

def aField (Γ : TypeId → Option TD) (S : TypeId) (x : AV) (f : Nat) (H : List AO) : Res :=
  match Γ S with
  | some ⟨.struct fs, _, _, _⟩ => match fs[f]? with
    | some (off, ft) => match Γ ft with
      | some fd => match x with
        | .ag cs => if fd.agg then .ok (off + fd.size ≤ cs.length) (.ag ((cs.drop off).take fd.size)) H else .ok (off < cs.length) (nth cs off) H
        | _ => .bad
      | none => .bad
    | none => .bad
  | _ => .bad

def aIndexAddr (Γ : TypeId → Option TD) (T : TypeId) (x i : AV) (H : List AO) : Res :=
  match elemOf Γ T, x, i with
  | some _, .sl k l, .i j => .ok (0 ≤ j ∧ j < l.length) (.ref [iv k (l.getD j.toNat 0)]) H
  | some _, .own id, .i j => match H[id]? with
    | some (.row _ _ l) => .ok (0 ≤ j ∧ j < l.length) (.eo id j.toNat) H
    | some (.ro _ _) => .bad
    | _ => .bad
  | some _, .vw id lo hi, .i j => match H[id]? with
    | some (.row _ _ _) => .ok (0 ≤ j ∧ j < ((hi - lo : Nat) : Int)) (.eo id (lo + j.toNat)) H
    | _ => .bad
  | none, .sc wd rs, .i j => match elemC Γ T with
    | some (_, wd', _, _) => .ok (wd = wd' ∧ 0 ≤ j ∧ j < rs.length) (.ref ((rs.getD j.toNat []).map constAV)) H
    | none => .bad
  | none, .own id, .i j => match elemC Γ T, H[id]? with
    | some (_, wd', _, _), some (.rc _ wd rs) => .ok (wd = wd' ∧ 0 ≤ j ∧ j < rs.length) (.ec id wd j.toNat 0) H
    | _, _ => .bad
  | _, _, _ => .bad

def aSlice (Γ : TypeId → Option TD) (T : TypeId) (x : AV) (lo hi mx : Option AV) (H : List AO) : Res :=
  match elemOf Γ T, x, mx with
  | some _, .sl k l, none =>
    match lo, hi with
    | some (.i a), some (.i b) => .ok (0 ≤ a ∧ a ≤ b ∧ b ≤ l.length) (.sl k ((l.take b.toNat).drop a.toNat)) H
    | none, some (.i b) => .ok (0 ≤ b ∧ b ≤ l.length) (.sl k (l.take b.toNat)) H
    | some (.i a), none => .ok (0 ≤ a ∧ a ≤ l.length) (.sl k (l.drop a.toNat)) H
    | _, _ => .bad
  | some _, .own id, none => match H[id]? with
    | some (.row _ _ l) =>
      match lo, hi with
      | some (.i a), some (.i b) => .ok (0 ≤ a ∧ a ≤ b ∧ b ≤ l.length) (.vw id a.toNat b.toNat) H
      | none, some (.i b) => .ok (0 ≤ b ∧ b ≤ l.length) (.vw id 0 b.toNat) H
      | some (.i a), none => .ok (0 ≤ a ∧ a ≤ l.length) (.vw id a.toNat l.length) H
      | _, _ => .bad
    | _ => .bad
  | none, .v (.string s), none => match Γ T with
    | some ⟨.str, _, _, _⟩ =>
      match lo, hi with
      | some (.i a), some (.i b) => .ok (0 ≤ a ∧ a ≤ b ∧ b ≤ s.size) (.v (.string (s.extract a.toNat b.toNat))) H
      | _, _ => .bad
    | _ => .bad
  | _, _, _ => .bad

/-- s[i] of a string. -/
def aIndex (T : Option TD) (x i : AV) (H : List AO) : Res :=
  match T, x, i with
  | some ⟨.str, _, _, _⟩, .v (.string s), .i j => .ok (0 ≤ j ∧ j < s.size) (.v (.int .u8 ((s.data.toList.getD j.toNat 0).toNat : Nat))) H
  | _, _, _ => .bad

def aExtract (x : AV) (j : Nat) (H : List AO) : Res :=
  match x with
  | .tu cs => .ok (j < cs.length) (nth cs j) H
  | _ => .bad

/-- The string of these bytes. -/
def ofB (l : List Int) : ByteArray := ⟨(l.map fun n => UInt8.ofNat n.toNat).toArray⟩
def aConvStr (Γ : TypeId → Option TD) (e : TypeId) (x : AV) (H : List AO) : Res :=
  match Γ e, x with
  | some ⟨.int .u8, _, _, _⟩, .own id => match H[id]? with | some (.row .u8 _ l) => .ok True (.v (.string (ofB l))) H | _ => .bad
  | _, _ => .bad
def aConvert (Γ : TypeId → Option TD) (src dst : TypeId) (x : AV) (H : List AO) : Res :=
  match Γ src, Γ dst, x.int? with
  | some _, some ⟨.int k, _, _, _⟩, some (_, n) => .ok True (wrapV k n) H
  | some ⟨.slice e, _, _, _⟩, some ⟨.str, _, _, _⟩, none => aConvStr Γ e x H
  | _, _, _ => .bad

def aNilCheck (x : AV) (H : List AO) : Res :=
  match x with
  | .bp .. | .ref _ | .eo .. | .fn .. | .fv _ | .ec .. => .ok True x H
  | _ => .bad

/-! ### Calls -/
/-- What a caller's values are to a callee: his objects are memory that came in. -/
def frz0 (H : List AO) : AV → AV
  | .i n => .i n
  | .b x => .b x
  | .v x => .v x
  | .nl => .sl .i64 []
  | .sl k l => .sl k l
  | .ref cs => .ref cs
  | .fv g => .fv g
  | .own id => match H[id]? with | some (.row k _ l) => .sl k l | some (.ro k l) => .sl k l | some (.rc _ wd rs) => .sc wd rs | _ => .any
  | .vw id lo hi => match H[id]? with | some (.row k _ l) => .sl k ((l.take hi).drop lo) | _ => .any
  | .sc wd rs => .sc wd rs
  | .fn f [] => .fn f []
  | _ => .any
def frz1 (H : List AO) : AV → AV
  | .bp id off => match H[id]? with | some (.box _ cs) => .ref ((cs.map (frz0 H)).drop off) | _ => .any
  | .ag cs => .ag (cs.map (frz0 H))
  | x => frz0 H x
def frz (H : List AO) : AV → AV
  | .fn f caps => .fn f (caps.map (frz1 H))
  | x => frz1 H x

/-- What may come back: plain data and new objects. -/
def AV.plain : AV → Bool
  | .i _ | .b _ | .v _ | .nl | .own _ | .un | .any => true
  | _ => false
def AV.outOk : AV → Bool
  | .ag cs => cs.all AV.plain
  | x => x.plain
def AV.outOk2 : AV → Bool
  | .tu cs => cs.all AV.outOk
  | x => x.outOk
/-! Where objects are lent, memory that came in may come back. -/
def AV.plain1 : AV → Bool
  | .sl _ _ => true
  | .bp _ _ => true
  | x => x.plain
def AV.plain2 : AV → Bool
  | .ref cs => cs.all AV.plain1
  | x => x.plain1
def AV.outOkM : AV → Bool
  | .ag cs => cs.all AV.plain2
  | x => x.plain2
def AV.outOk2M : AV → Bool
  | .tu cs => cs.all AV.outOkM
  | x => x.outOkM
def AO.outOkM : AO → Bool
  | .row .. | .ro .. | .dead | .rc .. => true
  | .box _ cs => cs.all AV.plain2
theorem plain_2 {x : AV} (h : x.plain = true) : x.plain2 = true := by cases x <;> simp_all [AV.plain, AV.plain1, AV.plain2]
theorem all_plain_2 {xs : List AV} (h : xs.all AV.plain = true) : xs.all AV.plain2 = true := by
  rw [List.all_eq_true] at h ⊢; exact fun x hx => plain_2 (h x hx)
def AO.outOk : AO → Bool
  | .row .. | .ro .. | .dead | .rc .. => true
  | .box _ cs => cs.all AV.plain
theorem outOk_M {x : AV} (h : x.outOk = true) : x.outOkM = true := by
  cases x
  case ag cs => exact all_plain_2 h
  all_goals simp_all [AV.outOk, AV.outOkM, AV.plain, AV.plain1, AV.plain2]
theorem outOk2_M {x : AV} (h : x.outOk2 = true) : x.outOk2M = true := by
  cases x
  case tu cs =>
    have h' : cs.all AV.outOk = true := h
    show cs.all AV.outOkM = true
    rw [List.all_eq_true] at h' ⊢; exact fun x hx => outOk_M (h' x hx)
  case ag cs => exact all_plain_2 h
  all_goals simp_all [AV.outOk2, AV.outOk2M, AV.outOk, AV.outOkM, AV.plain, AV.plain1, AV.plain2]
theorem AO.outOk_M {o : AO} (h : o.outOk = true) : o.outOkM = true := by
  cases o
  case box T cs => exact all_plain_2 h
  all_goals rfl
theorem all_outOk_M {Ho : List AO} (h : Ho.all AO.outOk = true) : Ho.all AO.outOkM = true := by
  rw [List.all_eq_true] at h ⊢; exact fun x hx => AO.outOk_M (h x hx)
def AV.shift0 (n : Nat) : AV → AV
  | .own id => .own (id + n)
  | x => x
def AV.shift1 (n : Nat) : AV → AV
  | .ag cs => .ag (cs.map (AV.shift0 n))
  | x => x.shift0 n
def AV.shift (n : Nat) : AV → AV
  | .tu cs => .tu (cs.map (AV.shift1 n))
  | x => x.shift1 n
def AO.shift (n : Nat) : AO → AO
  | .box T cs => .box T (cs.map (AV.shift0 n))
  | o => o

/-! Lending: the callee sees the lent objects as its first ones. -/
def AV.ren0 (σ : List Nat) : AV → AV
  | .own j => .own (σ.getD j 0)
  | .bp j off => .bp (σ.getD j 0) off
  | x => x
def AV.ren1 (σ : List Nat) : AV → AV
  | .ag cs => .ag (cs.map (AV.ren0 σ))
  | x => x.ren0 σ
def AV.ren (σ : List Nat) : AV → AV
  | .tu cs => .tu (cs.map (AV.ren1 σ))
  | x => x.ren1 σ
def AO.ren (σ : List Nat) : AO → AO
  | .box T cs => .box T (cs.map (AV.ren0 σ))
  | o => o
def AV.ids0 : AV → List Nat
  | .own j => [j]
  | .bp j _ => [j]
  | _ => []
def AV.ids1 : AV → List Nat
  | .ag cs => cs.flatMap AV.ids0
  | .fn _ cs => cs.flatMap AV.ids0
  | x => x.ids0
def addNew (js : List Nat) : List Nat → List Nat
  | [] => js
  | i :: is => if i ∈ js then addNew js is else addNew (js ++ [i]) is
def boxIds (H : List AO) : List Nat → List Nat
  | [] => []
  | i :: is => match H[i]? with | some (.box _ cs) => cs.flatMap AV.ids0 ++ boxIds H is | _ => boxIds H is
def lendIds (H : List AO) (xs : List AV) : List Nat := addNew (addNew [] (xs.flatMap AV.ids1)) (boxIds H (addNew [] (xs.flatMap AV.ids1)))
def posIn (j : Nat) : List Nat → Option Nat
  | [] => none
  | i :: is => if i = j then some 0 else (posIn j is).map (· + 1)
def AV.pos0 (js : List Nat) : AV → AV
  | .own j => match posIn j js with | some k => .own k | none => .any
  | .bp j off => match posIn j js with | some k => .bp k off | none => .any
  | .i n => .i n
  | .b x => .b x
  | .v x => .v x
  | .nl => .nl
  | .un => .un
  | .sl k l => .sl k l
  | .ref cs => .ref cs
  | .fv g => .fv g
  | .sc wd rs => .sc wd rs
  | _ => .any
def AV.pos1 (js : List Nat) : AV → AV
  | .ag cs => .ag (cs.map (AV.pos0 js))
  | .fn f cs => .fn f (cs.map (AV.pos0 js))
  | x => x.pos0 js
def AO.pos (js : List Nat) : AO → AO
  | .row k E l => .row k E l
  | .box T cs => .box T (cs.map (AV.pos0 js))
  | .rc E wd rs => .rc E wd rs
  | _ => .dead
def lent (H : List AO) (js : List Nat) : List Nat → List AO
  | [] => []
  | i :: is => (match H[i]? with | some o => o.pos js | none => .dead) :: lent H js is
def nodupB : List Nat → Bool
  | [] => true
  | i :: is => !(is.contains i) && nodupB is
def lendOk (H : List AO) (js : List Nat) : Bool := nodupB js && js.all fun i => match H[i]? with | some o => o.mut | none => false
def lendBack (σ : List Nat) : List Nat → List AO → List AO → List AO
  | [], Ho, H => H ++ Ho.map (AO.ren σ)
  | i :: is, o :: Ho, H => lendBack σ is Ho (H.set i (o.ren σ))
  | _ :: _, [], H => H
def lendσ (js : List Nat) (n m : Nat) : List Nat := js ++ List.range' n (m - js.length)
def aLendJ (C : Cfg) (f : Nat) (xs : List AV) (H : List AO) (js : List Nat) : Res :=
  match C.M f (xs.map (AV.pos1 js)) (lent H js js) with
  | some (p, out, Ho) => .ok (lendOk H js = true ∧ p) (out.ren (lendσ js H.length Ho.length)) (lendBack (lendσ js H.length Ho.length) js Ho H)
  | none => .bad
def aLend (C : Cfg) (f : Nat) (xs : List AV) (H : List AO) : Res := aLendJ C f xs H (lendIds H xs)

def aCall (C : Cfg) (f : AV) (args : List AV) (H : List AO) : Res :=
  match f with
  | .fn f caps => match C.T f (args.map (frz H) ++ caps.map (frz1 H)) with
    | some (p, out, Ho) => .ok p (out.shift H.length) (H ++ Ho.map (AO.shift H.length))
    | none => aLend C f (args ++ caps) H
  | .fv g => match args.mapM (fun x => match x with | .i n => some n | _ => none) with
    | some ns => match g ns with
      | some r => .ok True (constAV r) H
      | none => .bad
    | none => .bad
  | _ => .bad

def aLen (T : Option TD) (x : AV) (H : List AO) : Res :=
  match T with
  | some ⟨.slice _, _, _, _⟩ => match x with
    | .nl => .ok True (.i 0) H
    | .sl _ l => .ok True (.i l.length) H
    | .own id => match H[id]? with | some (.row _ _ l) => .ok True (.i l.length) H | some (.ro _ l) => .ok True (.i l.length) H | some (.rc _ _ rs) => .ok True (.i rs.length) H | _ => .bad
    | .vw id lo hi => .ok True (.i ((hi - lo : Nat) : Int)) H
    | .sc _ rs => .ok True (.i rs.length) H
    | _ => .bad
  | some ⟨.str, _, _, _⟩ => match x with
    | .v (.string s) => .ok True (.i s.size) H
    | _ => .bad
  | _ => .bad

/-- The elements that are appended. -/
def aSrc (x : AV) (H : List AO) : Option (Option Nat × IntKind × List Int) :=
  match x with
  | .sl k l => some (none, k, l)
  | .own id => match H[id]? with | some (.row k _ l) => some (some id, k, l) | some (.ro k l) => some (some id, k, l) | _ => none
  | .vw id lo hi => match H[id]? with | some (.row k _ l) => some (some id, k, (l.take hi).drop lo) | _ => none
  | _ => none
def aSrcC (x : AV) (H : List AO) : Option (Option Nat × Nat × List (List Value)) :=
  match x with
  | .sc wd rs => some (none, wd, rs)
  | .own id => match H[id]? with | some (.rc _ wd rs) => some (some id, wd, rs) | _ => none
  | _ => none
def aAppend (Γ : TypeId → Option TD) (T T2 : TypeId) (x y : AV) (H : List AO) : Res :=
  match elemOf Γ T, aSrc y H with
  | some (E, k, b), some (j, k', l') =>
    match x with
    | .nl => .ok (T = T2 ∧ k = k' ∧ b ≤ 8 ∧ l'.length ≤ 1099511627776) (.own H.length) (H ++ [.row k E l'])
    | .own id => match H[id]? with
      | some (.row k'' E' l) => .ok (T = T2 ∧ k = k' ∧ k = k'' ∧ E = E' ∧ j ≠ some id ∧ b ≤ 8 ∧ l.length + l'.length ≤ 1099511627776) (.own H.length) (H.set id .dead ++ [.row k E (l ++ l')])
      | _ => .bad
    | _ => .bad
  | none, _ => match elemC Γ T, aSrcC y H with
    | some (E, wd, b, z), some (j, wd', rs') =>
      match x with
      | .nl => .ok (T = T2 ∧ wd = wd' ∧ 0 < wd ∧ z.length = wd ∧ b ≤ 64 ∧ rs'.length ≤ 1099511627776) (.own H.length) (H ++ [.rc E wd rs'])
      | .own id => match H[id]? with
        | some (.rc E' wd'' rs) => .ok (T = T2 ∧ wd = wd' ∧ wd = wd'' ∧ 0 < wd ∧ z.length = wd ∧ E = E' ∧ j ≠ some id ∧ b ≤ 64 ∧ rs.length + rs'.length ≤ 1099511627776) (.own H.length) (H.set id .dead ++ [.rc E wd (rs ++ rs')])
        | _ => .bad
      | _ => .bad
    | _, _ => .bad
  | _, _ => .bad

def aMin (x y : AV) (H : List AO) : Res :=
  match x, y with
  | .i a, .i b => .ok True (.i (if b < a then b else a)) H
  | _, _ => .bad
def aMax (x y : AV) (H : List AO) : Res :=
  match x, y with
  | .i a, .i b => .ok True (.i (if a < b then b else a)) H
  | _, _ => .bad

def aBuiltin (C : Cfg) (b : Builtin) (Ts : List TypeId) (args : List AV) (H : List AO) : Res :=
  match b, Ts, args with
  | .len, [t], [x] => aLen (C.Γ t) x H
  | .append, [t, t2], [x, y] => aAppend C.Γ t t2 x y H
  | .min, _, [x, y] => aMin x y H
  | .max, _, [x, y] => aMax x y H
  | _, _, _ => .bad

def aop (C : Cfg) (op : Op) (ev : Operand → AV) (H : List AO) : Res :=
  match op with
  | .move x => .ok True (ev x) H
  | .assign x => .ok True (ev x) H
  | .pick c x y => aPick (ev c) (ev x) (ev y) H
  | .alloc T => aAlloc C.Γ T H
  | .box T x => aBox T (ev x) H
  | .build T ps => aBuild C.Γ T (ps.toList.map fun p => (p.1, ev p.2)) H
  | .buildSlice T n ps => aBuildSlice C.Γ T n (ps.toList.map fun p => (p.1, ev p.2)) H
  | .load T x => aLoad (C.Γ T) (ev x) H
  | .store T x y => aStore (C.Γ T) (ev x) (ev y) H
  | .nilCheck x => aNilCheck (ev x) H
  | .binOp op T x y _ => aBin op (C.Γ T) (ev x) (ev y) H
  | .unOp op _ x => aUn op (ev x) H
  | .convert s d x => aConvert C.Γ s d (ev x) H
  | .makeFunc (.func f) first caps => match first.toList with | [] => .ok True (.fn f (caps.toList.map ev)) H | _ => .bad
  | .makeSlice T x y => aMakeSlice C.Γ T (ev x) (ev y) H
  | .slice T x lo hi mx => aSlice C.Γ T (ev x) (lo.map ev) (hi.map ev) (mx.map ev) H
  | .fieldAddr S x f => aFieldAddr C.Γ S (ev x) f H
  | .field S x f => aField C.Γ S (ev x) f H
  | .indexAddr T x i => aIndexAddr C.Γ T (ev x) (ev i) H
  | .index T x i => aIndex (C.Γ T) (ev x) (ev i) H
  | .extract x j => aExtract (ev x) j H
  | .call c => match c.callee with
    | .value f => aCall C (ev f) (c.args.toList.map ev) H
    | .builtin b => aBuiltin C b c.argTypes.toList (c.args.toList.map ev) H
    | _ => .bad
  | _ => .bad

/-- Operations that turn no object that was there. -/
def stableOp : Op → Bool
  | .store .. => false
  | .call c => match c.callee with | .builtin .append => false | _ => true
  | _ => true

end Go.Ab
