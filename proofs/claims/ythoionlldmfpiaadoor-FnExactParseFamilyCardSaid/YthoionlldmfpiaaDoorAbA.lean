/-
  AN ABSTRACT MACHINE OVER THE WALK's LOGIC, part A: abstract values and heaps, and what they say of a world.
-/
import Derived.WalkKit
import Derived.Lib.LaidTab
import Derived.Lib.ItoaNum
set_option linter.unusedSimpArgs false
set_option linter.unusedVariables false
namespace Go.Ab
open Go Go.RowKit

/-- Abstract values. 'any': nothing is known. 'own', 'eo', 'bp' speak of objects of the abstract heap by number. 'sl', 'ref', 'fv': memory and functions that came in. -/
inductive AV where
  | any
  | un
  | i (n : Int)
  | b (x : Bool)
  | v (x : Value)
  | nl
  | sl (k : IntKind) (l : List Int)
  | ref (cs : List AV)
  | own (id : Nat)
  | eo (id k : Nat)
  | bp (id off : Nat)
  | ag (cs : List AV)
  | tu (cs : List AV)
  | fn (f : Nat) (caps : List AV)
  | fv (g : List Int → Option Value)
  /-- A part of an own row of numbers. -/
  | vw (id lo hi : Nat)
  /-- Rows of wider elements that came in: the cells of each element. -/
  | sc (wd : Nat) (rs : List (List Value))
  /-- Where an own row of wider elements has element j, from its cell f on. -/
  | ec (id wd j f : Nat)

/-- Objects of the abstract heap. -/
inductive AO where
  | dead
  | row (k : IntKind) (E : TypeId) (l : List Int)
  | box (T : TypeId) (cs : List AV)
  | ro (k : IntKind) (l : List Int)
  | rc (E : TypeId) (wd : Nat) (rs : List (List Value))

def AO.live : AO → Bool
  | .dead => false
  | _ => true
def AO.mut : AO → Bool
  | .row .. => true
  | .box .. => true
  | .rc .. => true
  | _ => false

structure ASt where
  fr : List AV
  hp : List AO

def nth : List AV → Nat → AV
  | [], _ => .any
  | x :: _, 0 => x
  | _ :: xs, n + 1 => nth xs n
def upd : List AV → Nat → AV → List AV
  | [], _, _ => []
  | _ :: xs, 0, v => v :: xs
  | x :: xs, n + 1, v => x :: upd xs n v
def iv : IntKind → Int → AV
  | .i64, n => .i n
  | k, n => .v (.int k n)
def constAV : Value → AV
  | .int .i64 n => .i n
  | .bool b => .b b
  | .slice none 0 0 => .nl
  | x => .v x
def ASt.ev (s : ASt) : Operand → AV
  | .tmp t => nth s.fr t
  | .const x => constAV x
  | .global _ => .any
  | .func f => .fn f []
def ASt.put (s : ASt) (d : Option Tmp) (x : AV) : ASt :=
  match d with
  | some t => ⟨upd s.fr t x, s.hp⟩
  | none => s
/-- Forget all slots from m on. -/
def cutFr : List AV → Nat → List AV
  | [], _ => []
  | _ :: xs, 0 => .any :: cutFr xs 0
  | x :: xs, m + 1 => x :: cutFr xs m

def blk : Value → Option Nat
  | .slice (some a) _ _ => some a.block
  | .pointer (some a) => some a.block
  | _ => none

/-- The setting: the program, the world at the function's entry, the values of the objects that the caller lent for change, by number. -/
structure Cx where
  P : Program
  w0 : World
  L : Nat → Option Value
  /-- Where memory that came in may lie. -/
  N : Nat → Prop
/-- The blocks that are lent. -/
def Cx.X (c : Cx) (b : Nat) : Prop := ∃ i x, c.L i = some x ∧ blk x = some b
/-- The blocks that came in. -/
def Cx.In (c : Cx) (b : Nat) : Prop := ¬ c.X b ∧ c.N b
/-- Nothing is lent. -/
def cx0 (P : Program) (w : World) : Cx := ⟨P, w, fun _ => none, fun _ => True⟩
theorem noX {P : Program} {w : World} : ∀ b, ¬ (cx0 P w).X b := fun b ⟨i, x, h, _⟩ => by cases h
theorem inX {P : Program} {w : World} : ∀ b, (cx0 P w).In b := fun b => ⟨noX b, trivial⟩

/-- The variables of Go's library that callees read (MaxLen, the powers of ten), by number. -/
def GB (_ : Program) (k : Nat) : Prop := k = 0 ∨ k = 3
/-- What they hold. -/
structure GW (P : Program) (w : World) : Prop where
  lt : ∀ k, GB P k → k < w.heap.size
  ml : ∃ m, w.cell? ⟨0, 0, none⟩ = some (.int .i64 m)
  p10 : ∃ T fz, w.heap[3]? = some (.cells (Lib.pow10Tab.map fun z => Value.int .u64 z).toArray T fz)
theorem GW.stays {P : Program} {w w' : World} (h : GW P w) (hs : w.heap.size ≤ w'.heap.size) (hb : ∀ k, GB P k → w'.heap[k]? = w.heap[k]?) : GW P w' := by
  refine ⟨fun k hk => Nat.lt_of_lt_of_le (h.lt k hk) hs, ?_, ?_⟩
  · obtain ⟨m, hm⟩ := h.ml
    refine ⟨m, ?_⟩
    rw [← hm]; simp only [World.cell?, hb _ (.inl rfl)]
  · obtain ⟨T, fz, h⟩ := h.p10
    exact ⟨T, fz, (hb _ (.inr rfl)).trans h⟩
theorem GW.tab {P : Program} {w : World} (h : GW P w) {name : String} (hg : P.globalNamed name = some 3) : Lib.TabIs P w name .u64 Lib.pow10Tab := by
  obtain ⟨T, fz, h⟩ := h.p10
  unfold Lib.TabIs World.var?
  rw [hg, Option.bind_some, h]

/-- Nothing that was there at the entry has turned, but for what was lent. -/
structure Keep (c : Cx) (w : World) : Prop where
  os : w.os = c.w0.os
  tape : w.tape = c.w0.tape
  output : w.output = c.w0.output
  size : c.w0.heap.size ≤ w.heap.size
  block : ∀ k, k < c.w0.heap.size → ¬ c.X k → w.heap[k]? = c.w0.heap[k]?
  gl : GW c.P c.w0
  gx : ∀ k, GB c.P k → ¬ c.X k

def Callable (P : Program) (f : FuncId) : Prop := ∃ fn, P.funcs[f]? = some fn ∧ (fn.name == "runtime.NumGoroutine") = false ∧ fn.body.isNone = false

def SlR (c : Cx) (k : IntKind) (l : List Int) (v : Value) : Prop :=
  (v = .slice none 0 0 ∧ l = []) ∨
  ∃ b o cap, v = .slice (some ⟨b, o, none⟩) l.length cap ∧ l.length ≤ cap ∧ cap ≤ maxLen ∧
    ∀ j, j < l.length → c.In b ∧ c.w0.cell? ⟨b, o + j, none⟩ = some (.int k (l.getD j 0))

def RsOk (wd : Nat) (rs : List (List Value)) : Prop := 0 < wd ∧ ∀ r ∈ rs, r.length = wd ∧ ∀ u ∈ r, u.oneCell' = true
def ScR (c : Cx) (wd : Nat) (rs : List (List Value)) (v : Value) : Prop :=
  (v = .slice none 0 0 ∧ rs = []) ∨
  ∃ b o cap, v = .slice (some ⟨b, o, none⟩) rs.length cap ∧ RsOk wd rs ∧ rs.length ≤ cap ∧ cap ≤ maxLen ∧
    ∀ j u, rs.flatten[j]? = some u → c.In b ∧ c.w0.cell? ⟨b, o + j, none⟩ = some u

def FvR (c : Cx) (g : List Int → Option Value) (v : Value) : Prop :=
  ∃ f caps, v = .func (.func f) #[] caps ∧ Callable c.P f ∧
    ∀ w, Keep c w → ∀ ns r, g ns = some r → Calls c.P f ((ns.map (Value.int .i64)).toArray ++ caps) w fun e w' => e = .returned r ∧ Below w.heap.size w w'

mutual
/-- An abstract value says this of a value. -/
def RV (c : Cx) (ρ : Nat → Option Value) : AV → Value → Prop
  | .any, _ => True
  | .un, v => v = undef
  | .i n, v => v = .int .i64 n
  | .b x, v => v = .bool x
  | .v x, v => v = x
  | .nl, v => v = .slice none 0 0
  | .sl k l, v => SlR c k l v
  | .ref cs, v => ∃ b o, v = .pointer (some ⟨b, o, none⟩) ∧ RCells c cs b o
  | .own id, v => ρ id = some v ∧ ∃ a n cap, v = .slice a n cap
  | .eo id k, v => ∃ b n cap, ρ id = some (.slice (some ⟨b, 0, none⟩) n cap) ∧ v = .pointer (some ⟨b, k, none⟩)
  | .bp id off, v => ∃ b, ρ id = some (.pointer (some ⟨b, 0, none⟩)) ∧ v = .pointer (some ⟨b, off, none⟩)
  | .ag cs, v => ∃ xs : List Value, v = .agg xs.toArray ∧ RVs c ρ cs xs
  | .tu cs, v => ∃ xs : List Value, v = .tuple xs.toArray ∧ RVs c ρ cs xs
  | .fn f caps, v => ∃ xs : List Value, v = .func (.func f) #[] xs.toArray ∧ RVs c ρ caps xs
  | .fv g, v => FvR c g v
  | .vw id lo hi, v => ∃ a n cap, ρ id = some (.slice a n cap) ∧ lo ≤ hi ∧ hi ≤ n ∧ v = sliced a lo hi cap 1
  | .sc wd rs, v => ScR c wd rs v
  | .ec id wd j f, v => ∃ b n cap, ρ id = some (.slice (some ⟨b, 0, none⟩) n cap) ∧ v = .pointer (some ⟨b, j * wd + f, none⟩)
def RVs (c : Cx) (ρ : Nat → Option Value) : List AV → List Value → Prop
  | [], vs => vs = []
  | x :: xs, vs => ∃ y ys, vs = y :: ys ∧ RV c ρ x y ∧ RVs c ρ xs ys
/-- The cells from block b, place o on hold these; what came in names no object of ours. -/
def RCells (c : Cx) : List AV → Nat → Nat → Prop
  | [], _, _ => True
  | x :: xs, b, o => (c.In b ∧ ∃ y, c.w0.cell? ⟨b, o, none⟩ = some y ∧ RV c (fun _ => none) x y) ∧ RCells c xs b (o + 1)
end

def Ownb (c : Cx) (b : Nat) : Prop := c.w0.heap.size ≤ b ∨ c.X b

def RowR (c : Cx) (w : World) (k : IntKind) (E : TypeId) (l : List Int) (v : Value) : Prop :=
  (v = .slice none 0 0 ∧ l = []) ∨
  ∃ b cap cur, v = .slice (some ⟨b, 0, none⟩) l.length cap ∧ Ownb c b ∧ w.heap[b]? = some (.cells cur E (0, 0)) ∧
    l.length ≤ cap ∧ cap ≤ maxLen ∧ cap ≤ cur.size ∧ cur.toList.take l.length = l.map (Value.int k)

def RoR (c : Cx) (w : World) (k : IntKind) (l : List Int) (v : Value) : Prop :=
  (v = .slice none 0 0 ∧ l = []) ∨
  ∃ b o cap, v = .slice (some ⟨b, o, none⟩) l.length cap ∧ Ownb c b ∧ b < w.heap.size ∧ l.length ≤ cap ∧ cap ≤ maxLen ∧
    ∀ j, j < l.length → w.cell? ⟨b, o + j, none⟩ = some (.int k (l.getD j 0))

def RcR (c : Cx) (w : World) (E : TypeId) (wd : Nat) (rs : List (List Value)) (v : Value) : Prop :=
  (v = .slice none 0 0 ∧ rs = []) ∨
  ∃ b cap cur, v = .slice (some ⟨b, 0, none⟩) rs.length cap ∧ Ownb c b ∧ w.heap[b]? = some (.cells cur E (0, 0)) ∧ RsOk wd rs ∧
    rs.length ≤ cap ∧ cap ≤ maxLen ∧ cap * wd ≤ cur.size ∧ cur.toList.take (rs.length * wd) = rs.flatten

/-- An object of the abstract heap says this of the world. -/
def OR (c : Cx) (w : World) (ρ : Nat → Option Value) : AO → Value → Prop
  | .dead, _ => True
  | .row k E l, v => RowR c w k E l v
  | .box T cs, v => ∃ b xs, v = .pointer (some ⟨b, 0, none⟩) ∧ Ownb c b ∧ w.heap[b]? = some (.cells (List.toArray xs) T (0, 0)) ∧ RVs c ρ cs xs
  | .ro k l, v => RoR c w k l v
  | .rc E wd rs, v => RcR c w E wd rs v

structure HR (c : Cx) (w : World) (ρ : Nat → Option Value) (H : List AO) : Prop where
  obj : ∀ id x, ρ id = some x → ∃ o, H[id]? = some o ∧ OR c w ρ o x
  sep : ∀ i j x y oi oj, i ≠ j → ρ i = some x → ρ j = some y → H[i]? = some oi → H[j]? = some oj → oi.live = true → oj.live = true →
    (oi.mut = true ∨ oj.mut = true) → ∀ b, blk x = some b → blk y ≠ some b

def Ext (ρ ρ' : Nat → Option Value) : Prop := ∀ id x, ρ id = some x → ρ' id = some x

structure Rel (c : Cx) (s : ASt) (a : Act) (w : World) (ρ : Nat → Option Value) : Prop where
  fr : ∀ t, RV c ρ (nth s.fr t) (a.tmps.getD t undef)
  len : s.fr.length = a.tmps.size
  defers : a.defers = []
  hp : HR c w ρ s.hp
  keep : Keep c w
  lent : ∀ j x, c.L j = some x → ρ j = some x

/-! ### Lists -/
theorem nth_upd_same : ∀ (l : List AV) (n : Nat) (x : AV), n < l.length → nth (upd l n x) n = x
  | [], _, _, h => by simp at h
  | _ :: _, 0, _, _ => rfl
  | _ :: xs, n + 1, x, h => nth_upd_same xs n x (by simpa using h)
theorem nth_upd_other : ∀ (l : List AV) (n m : Nat) (x : AV), n ≠ m → nth (upd l n x) m = nth l m
  | [], _, _, _, _ => rfl
  | _ :: _, 0, 0, _, h => absurd rfl h
  | _ :: _, 0, m + 1, _, _ => rfl
  | _ :: _, n + 1, 0, _, _ => rfl
  | _ :: xs, n + 1, m + 1, x, h => nth_upd_other xs n m x (by omega)
@[simp] theorem length_upd : ∀ (l : List AV) (n : Nat) (x : AV), (upd l n x).length = l.length
  | [], _, _ => rfl
  | _ :: _, 0, _ => rfl
  | _ :: xs, n + 1, x => by simp [upd, length_upd xs n x]
theorem nth_ge : ∀ (l : List AV) (n : Nat), l.length ≤ n → nth l n = .any
  | [], _, _ => rfl
  | _ :: _, 0, h => by simp at h
  | _ :: xs, n + 1, h => nth_ge xs n (by simpa using h)
@[simp] theorem length_cutFr : ∀ (l : List AV) (m : Nat), (cutFr l m).length = l.length
  | [], _ => rfl
  | _ :: xs, 0 => by simp [cutFr, length_cutFr xs 0]
  | _ :: xs, m + 1 => by simp [cutFr, length_cutFr xs m]
theorem nth_cutFr : ∀ (l : List AV) (m n : Nat), nth (cutFr l m) n = nth l n ∨ nth (cutFr l m) n = .any
  | [], _, _ => .inl rfl
  | _ :: _, 0, 0 => .inr rfl
  | _ :: xs, 0, n + 1 => nth_cutFr xs 0 n
  | _ :: _, _ + 1, 0 => .inl rfl
  | _ :: xs, m + 1, n + 1 => nth_cutFr xs m n

/-! ### What an abstract value says stays said when more objects are known -/
mutual
theorem RV.ext {c : Cx} {ρ ρ' : Nat → Option Value} (h : Ext ρ ρ') : ∀ (x : AV) (v : Value), RV c ρ x v → RV c ρ' x v
  | .any, _, _ => trivial
  | .un, _, r => r
  | .i _, _, r => r
  | .b _, _, r => r
  | .v _, _, r => r
  | .nl, _, r => r
  | .sl _ _, _, r => r
  | .ref _, _, r => by simp only [RV] at r ⊢; exact r
  | .own id, v, r => by simp only [RV] at r ⊢; exact ⟨h _ _ r.1, r.2⟩
  | .eo _ _, _, r => by simp only [RV] at r ⊢; obtain ⟨b, n, cap, h1, h2⟩ := r; exact ⟨b, n, cap, h _ _ h1, h2⟩
  | .bp _ _, _, r => by simp only [RV] at r ⊢; obtain ⟨b, h1, h2⟩ := r; exact ⟨b, h _ _ h1, h2⟩
  | .ag cs, _, r => by simp only [RV] at r ⊢; obtain ⟨xs, h1, h2⟩ := r; exact ⟨xs, h1, RVs.ext h cs xs h2⟩
  | .tu cs, _, r => by simp only [RV] at r ⊢; obtain ⟨xs, h1, h2⟩ := r; exact ⟨xs, h1, RVs.ext h cs xs h2⟩
  | .fn _ cs, _, r => by simp only [RV] at r ⊢; obtain ⟨xs, h1, h2⟩ := r; exact ⟨xs, h1, RVs.ext h cs xs h2⟩
  | .fv _, _, r => r
  | .vw _ _ _, _, r => by simp only [RV] at r ⊢; obtain ⟨a, n, cap, h1, h2⟩ := r; exact ⟨a, n, cap, h _ _ h1, h2⟩
  | .sc _ _, _, r => r
  | .ec _ _ _ _, _, r => by simp only [RV] at r ⊢; obtain ⟨b, n, cap, h1, h2⟩ := r; exact ⟨b, n, cap, h _ _ h1, h2⟩
theorem RVs.ext {c : Cx} {ρ ρ' : Nat → Option Value} (h : Ext ρ ρ') : ∀ (x : List AV) (v : List Value), RVs c ρ x v → RVs c ρ' x v
  | [], _, r => r
  | x :: xs, _, r => by simp only [RVs] at r ⊢; obtain ⟨y, ys, h1, h2, h3⟩ := r; exact ⟨y, ys, h1, RV.ext h x y h2, RVs.ext h xs ys h3⟩
end

theorem RVs.length {c : Cx} {ρ : Nat → Option Value} : ∀ {xs : List AV} {vs : List Value}, RVs c ρ xs vs → vs.length = xs.length
  | [], _, r => by simp only [RVs] at r; subst r; rfl
  | _ :: xs, _, r => by simp only [RVs] at r; obtain ⟨y, ys, rfl, _, h3⟩ := r; simp [RVs.length h3]
theorem RVs.at {c : Cx} {ρ : Nat → Option Value} : ∀ {xs : List AV} {vs : List Value}, RVs c ρ xs vs → ∀ j, j < xs.length → ∃ y, vs[j]? = some y ∧ RV c ρ (nth xs j) y
  | [], _, _, j, hj => by simp at hj
  | _ :: _, _, r, 0, _ => by simp only [RVs] at r; obtain ⟨y, ys, rfl, h2, _⟩ := r; exact ⟨y, rfl, h2⟩
  | _ :: xs, _, r, j + 1, hj => by
    simp only [RVs] at r; obtain ⟨y, ys, rfl, _, h3⟩ := r
    obtain ⟨z, h4, h5⟩ := RVs.at h3 j (by simpa using hj)
    exact ⟨z, by simpa using h4, h5⟩
theorem RVs.upd {c : Cx} {ρ : Nat → Option Value} {x : AV} {v : Value} (hx : RV c ρ x v) : ∀ {xs : List AV} {vs : List Value}, RVs c ρ xs vs → ∀ j, RVs c ρ (upd xs j x) (vs.set j v)
  | [], _, r, _ => by simp only [RVs] at r; subst r; simp [Ab.upd, RVs]
  | _ :: _, _, r, 0 => by simp only [RVs] at r; obtain ⟨y, ys, rfl, _, h3⟩ := r; simp only [Ab.upd, RVs]; exact ⟨v, ys, rfl, hx, h3⟩
  | _ :: xs, _, r, j + 1 => by simp only [RVs] at r; obtain ⟨y, ys, rfl, h2, h3⟩ := r; simp only [Ab.upd, RVs]; exact ⟨y, ys.set j v, rfl, h2, RVs.upd hx h3 j⟩
theorem RVs.append {c : Cx} {ρ : Nat → Option Value} : ∀ {xs ys : List AV} {us vs : List Value}, RVs c ρ xs us → RVs c ρ ys vs → RVs c ρ (xs ++ ys) (us ++ vs)
  | [], _, _, _, r, r' => by simp only [RVs] at r; subst r; exact r'
  | _ :: xs, _, _, _, r, r' => by simp only [RVs, List.cons_append] at r ⊢; obtain ⟨y, zs, rfl, h2, h3⟩ := r; exact ⟨y, _, rfl, h2, RVs.append h3 r'⟩
theorem RVs.take {c : Cx} {ρ : Nat → Option Value} : ∀ {xs : List AV} {vs : List Value}, RVs c ρ xs vs → ∀ n, RVs c ρ (xs.take n) (vs.take n)
  | _, _, _, 0 => by simp [RVs]
  | [], _, r, n + 1 => by simp only [RVs] at r; subst r; simp [RVs]
  | _ :: xs, _, r, n + 1 => by simp only [RVs, List.take_succ_cons] at r ⊢; obtain ⟨y, ys, rfl, h2, h3⟩ := r; exact ⟨y, ys.take n, rfl, h2, RVs.take h3 n⟩
theorem RVs.drop {c : Cx} {ρ : Nat → Option Value} : ∀ {xs : List AV} {vs : List Value}, RVs c ρ xs vs → ∀ n, RVs c ρ (xs.drop n) (vs.drop n)
  | _, _, r, 0 => r
  | [], _, r, n + 1 => by simp only [RVs] at r; subst r; simp [RVs]
  | _ :: xs, _, r, n + 1 => by simp only [RVs] at r; obtain ⟨y, ys, rfl, _, h3⟩ := r; exact RVs.drop h3 n

/-! ### Worlds -/
theorem Keep.refl (P : Program) (w : World) (X : Nat → Option Value) (N : Nat → Prop) (hg : GW P w) (hx : ∀ k, GB P k → ¬ (Cx.mk P w X N).X k) : Keep ⟨P, w, X, N⟩ w := ⟨rfl, rfl, rfl, Nat.le_refl _, fun _ _ _ => rfl, hg, hx⟩
theorem Keep.gw {c : Cx} {w : World} (h : Keep c w) : GW c.P w := h.gl.stays h.size fun k hk => h.block k (h.gl.lt k hk) (h.gx k hk)
theorem Keep.below {P : Program} {w w' : World} (h : Keep (cx0 P w) w') : Below w.heap.size w w' := ⟨h.os, h.tape, h.output, h.size, fun k hk => h.block k hk (noX k)⟩
theorem Keep.of_below {P : Program} {w w' : World} (hg : GW P w) (h : Below w.heap.size w w') : Keep (cx0 P w) w' := ⟨h.os, h.tape, h.output, h.size, fun k hk _ => h.block k hk, hg, fun k _ => noX k⟩
/-- A step that turns no block that was there, or only blocks of our own. -/
theorem Keep.step {c : Cx} {w w' : World} (h : Keep c w) (ho : w'.os = w.os) (ht : w'.tape = w.tape) (hp : w'.output = w.output) (hs : w.heap.size ≤ w'.heap.size)
    (hb : ∀ k, k < w.heap.size → ¬ Ownb c k → w'.heap[k]? = w.heap[k]?) : Keep c w' :=
  ⟨ho.trans h.os, ht.trans h.tape, hp.trans h.output, Nat.le_trans h.size hs, fun k hk hX =>
    (hb k (Nat.lt_of_lt_of_le hk h.size) (fun ho => ho.elim (fun h => by omega) hX)).trans (h.block k hk hX), h.gl, h.gx⟩
theorem Keep.below_step {c : Cx} {w w' : World} (h : Keep c w) (hb : Below w.heap.size w w') : Keep c w' :=
  h.step hb.os hb.tape hb.output hb.size (fun k hk _ => hb.block k hk)
theorem Keep.trans {c : Cx} {w w' : World} (h : Keep c w) (h' : Keep (cx0 c.P w) w') : Keep c w' := h.below_step h'.below

theorem cell?_eq {w w' : World} {a : Addr} (h : w'.heap[a.block]? = w.heap[a.block]?) : w'.cell? a = w.cell? a := by simp [World.cell?, h]

/-- A cell that came in still reads as it did. -/
theorem Keep.cell {c : Cx} {w : World} (h : Keep c w) {b o : Nat} {y : Value} (hX : c.In b) (hc : c.w0.cell? ⟨b, o, none⟩ = some y) : w.cell? ⟨b, o, none⟩ = some y := by
  have hlt := World.block_lt_of_cell? _ _ hc
  rw [← hc]; exact cell?_eq (h.block b hlt hX.1)

theorem OR.lt {c : Cx} {w : World} {ρ : Nat → Option Value} {o : AO} {x : Value} (h : OR c w ρ o x) (hl : o.live = true) {b : Nat} (hb : blk x = some b) : b < w.heap.size ∧ Ownb c b := by
  cases o with
  | dead => cases hl
  | row k E l =>
    rcases h with ⟨rfl, _⟩ | ⟨b', cap, cur, rfl, ho, hg, _⟩
    · cases hb
    · simp [blk] at hb; subst hb; exact ⟨(Array.getElem?_eq_some_iff.1 hg).1, ho⟩
  | box T cs =>
    obtain ⟨b', xs, rfl, ho, hg, _⟩ := h
    simp [blk] at hb; subst hb; exact ⟨(Array.getElem?_eq_some_iff.1 hg).1, ho⟩
  | ro k l =>
    rcases h with ⟨rfl, _⟩ | ⟨b', o', cap, rfl, ho, hg, _⟩
    · cases hb
    · simp [blk] at hb; subst hb; exact ⟨hg, ho⟩
  | rc E wd rs =>
    rcases h with ⟨rfl, _⟩ | ⟨b', cap, cur, rfl, ho, hg, _⟩
    · cases hb
    · simp [blk] at hb; subst hb; exact ⟨(Array.getElem?_eq_some_iff.1 hg).1, ho⟩

/-- An object reads as it did where its block has not turned. -/
theorem OR.keep {c : Cx} {w w' : World} {ρ ρ' : Nat → Option Value} {o : AO} {x : Value} (h : OR c w ρ o x) (he : Ext ρ ρ') (hs : w.heap.size ≤ w'.heap.size)
    (hb : o.live = true → ∀ b, blk x = some b → w'.heap[b]? = w.heap[b]?) : OR c w' ρ' o x := by
  cases o with
  | dead => trivial
  | row k E l =>
    rcases h with h | ⟨b, cap, cur, rfl, ho, hg, r⟩
    · exact .inl h
    · exact .inr ⟨b, cap, cur, rfl, ho, (hb rfl b rfl).trans hg, r⟩
  | box T cs =>
    obtain ⟨b, xs, rfl, ho, hg, r⟩ := h
    exact ⟨b, xs, rfl, ho, (hb rfl b rfl).trans hg, RVs.ext he _ _ r⟩
  | ro k l =>
    rcases h with h | ⟨b, o', cap, rfl, ho, hg, h1, h2, r⟩
    · exact .inl h
    · exact .inr ⟨b, o', cap, rfl, ho, by omega, h1, h2, fun j hj => (cell?_eq (a := ⟨b, o' + j, none⟩) (hb rfl b rfl)).trans (r j hj)⟩
  | rc E wd rs =>
    rcases h with h | ⟨b, cap, cur, rfl, ho, hg, r⟩
    · exact .inl h
    · exact .inr ⟨b, cap, cur, rfl, ho, (hb rfl b rfl).trans hg, r⟩

/-- The whole heap, over a step that turns no block that was there. -/
theorem HR.below {c : Cx} {w w' : World} {ρ : Nat → Option Value} {H : List AO} (h : HR c w ρ H) (hb : Below w.heap.size w w') : HR c w' ρ H :=
  ⟨fun id x hx => let ⟨o, ho, hr⟩ := h.obj id x hx; ⟨o, ho, hr.keep (fun _ _ h => h) hb.size (fun hl b hbl => hb.block b (hr.lt hl hbl).1)⟩, h.sep⟩

end Go.Ab
