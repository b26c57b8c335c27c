/-
  AN ABSTRACT MACHINE, part C: each operation does to values what it does to abstract values.
-/
import Derived.Test.YthoionlldmfpiaaDoorAbB
set_option linter.unusedSimpArgs false
set_option linter.unusedVariables false
namespace Go.Ab
open Go Go.RowKit

/-! ### Static data -/
def AV.closed : AV → Bool
  | .i _ | .b _ | .nl | .v _ => true
  | _ => false

def KdOk : TypeDesc → TK → Prop
  | .int k, .int k' => k = k'
  | .bool, .bool => True
  | .string, .str => True
  | .slice e, .slice e' => e = e'
  | .struct fields, .struct fs => fields.toList.map (fun f => (f.offset, f.type)) = fs
  | .struct _, _ => False
  | .array _ _, _ => False
  | _, .oth => True
  | _, _ => False

structure TdOk (P : Program) (t : TypeId) (d : TD) : Prop where
  kd : ∃ desc, P.underlying t = some desc ∧ KdOk desc d.kd
  info : ∃ i z, P.info? t = some i ∧ i.size = d.size ∧ i.bytes = d.bytes ∧ i.zero = some z ∧ z.cells = (d.zero.map cval).toArray
  closed : d.zero.all AV.closed = true
  fsz : ∀ fs, d.kd = .struct fs → ∀ x ∈ fs, ∃ i, P.info? x.2 = some i
  izero : ∀ k, d.kd = .int k → ∃ i, P.info? t = some i ∧ i.zero = some (.int k 0)

/-- The callee's contract: called with values that read as 'args', it returns what reads as 'out' with the new objects 'Ho', and turns nothing that was there. -/
def ACall (P : Program) (f : FuncId) (args : List AV) (out : AV) (Ho : List AO) : Prop :=
  ∀ (w : World) (vs : List Value), GW P w → RVs (cx0 P w) (fun _ => none) args vs →
    Calls P f vs.toArray w fun e w' => ∃ v ρ, e = .returned v ∧ RV (cx0 P w) ρ out v ∧ HR (cx0 P w) w' ρ Ho ∧ Keep (cx0 P w) w'

/-- All numbers of objects in a value are below n. -/
def AV.lt0 (n : Nat) : AV → Bool
  | .own j => decide (j < n)
  | .bp j _ => decide (j < n)
  | _ => true
def AV.lt1 (n : Nat) : AV → Bool
  | .ag cs => cs.all (AV.lt0 n)
  | x => x.lt0 n
def AV.lt (n : Nat) : AV → Bool
  | .tu cs => cs.all (AV.lt1 n)
  | x => x.lt1 n
def AO.lt (n : Nat) : AO → Bool
  | .box _ cs => cs.all (AV.lt0 n)
  | _ => true

/-- The contract of a callee to which the objects L are lent: they end as the first objects of Ho, at their places. -/
def MCall (P : Program) (f : FuncId) (args : List AV) (L : List AO) (out : AV) (Ho : List AO) : Prop :=
  ∀ (w : World) (ρ : Nat → Option Value) (N : Nat → Prop) (vs : List Value), Keep ⟨P, w, ρ, N⟩ w → RVs ⟨P, w, ρ, N⟩ ρ args vs → HR ⟨P, w, ρ, N⟩ w ρ L →
    Calls P f vs.toArray w fun e w' => ∃ v ρ', e = .returned v ∧ RV ⟨P, w, ρ, N⟩ ρ' out v ∧ HR ⟨P, w, ρ, N⟩ w' ρ' Ho ∧ Keep ⟨P, w, ρ, N⟩ w' ∧ ∀ j x, j < L.length → ρ j = some x → ρ' j = some x
structure MOk (P : Program) (f : FuncId) (args : List AV) (L : List AO) (out : AV) (Ho : List AO) : Prop where
  call : MCall P f args L out Ho
  out1 : out.outOk2M = true
  out2 : out.lt Ho.length = true
  obj1 : Ho.all AO.outOkM = true
  obj2 : Ho.all (AO.lt Ho.length) = true
  len : L.length ≤ Ho.length
  callable : Callable P f

structure CfgOk (P : Program) (C : Cfg) : Prop where
  types : ∀ t d, C.Γ t = some d → TdOk P t d
  calls : ∀ f args p out Ho, C.T f args = some (p, out, Ho) → p → ACall P f args out Ho ∧ out.outOk2 = true ∧ Ho.all AO.outOk = true ∧ Callable P f
  mixed : P.follows .mixedOrders = true
  lends : ∀ f args L p out Ho, C.M f args L = some (p, out, Ho) → p → MOk P f args L out Ho
theorem CfgOk.noM {P : Program} {C : Cfg} (ok : CfgOk P C) : CfgOk P C.noM := ⟨ok.types, ok.calls, ok.mixed, fun f args L p out Ho h => by cases h⟩

theorem closed_RVs (c : Cx) (ρ : Nat → Option Value) : ∀ (zs : List AV), zs.all AV.closed = true → RVs c ρ zs (zs.map cval)
  | [], _ => rfl
  | z :: zs, h => by
    simp only [List.all_cons, Bool.and_eq_true] at h
    simp only [RVs, List.map_cons]
    refine ⟨_, _, rfl, ?_, closed_RVs c ρ zs h.2⟩
    cases z <;> simp_all [AV.closed, RV, cval]

theorem RV.const (c : Cx) (ρ : Nat → Option Value) (x : Value) : RV c ρ (constAV x) x := by
  unfold constAV
  split <;> simp [RV]

theorem RV.int? {c : Cx} {ρ : Nat → Option Value} {x : AV} {v : Value} {k : IntKind} {n : Int} (h : RV c ρ x v) (hi : x.int? = some (k, n)) : v = .int k n := by
  cases x with
  | i m => simp [AV.int?] at hi; obtain ⟨rfl, rfl⟩ := hi; simpa [RV] using h
  | v y =>
    cases y <;> simp [AV.int?] at hi
    obtain ⟨rfl, rfl⟩ := hi; simpa [RV] using h
  | _ => simp [AV.int?] at hi

theorem RV.iv {c : Cx} {ρ : Nat → Option Value} (k : IntKind) (n : Int) : RV c ρ (iv k n) (.int k n) := by
  cases k <;> simp [Ab.iv, RV]

theorem RV.cells {c : Cx} {ρ : Nat → Option Value} {x : AV} {v : Value} (h : RV c ρ x v) (hc : x.cellOk = true) : v.oneCell' = true ∧ v.cells = #[v] := by
  cases x <;> simp [AV.cellOk] at hc <;> simp only [RV] at h
  case i => subst h; exact ⟨rfl, rfl⟩
  case b => subst h; exact ⟨rfl, rfl⟩
  case v x => subst h; exact ⟨hc, by cases v <;> simp_all [Value.oneCell', Value.cells]⟩
  case nl => subst h; exact ⟨rfl, rfl⟩
  case sl => rcases h with ⟨rfl, _⟩ | ⟨_, _, _, rfl, _⟩ <;> exact ⟨rfl, rfl⟩
  case ref => obtain ⟨_, _, rfl, _⟩ := h; exact ⟨rfl, rfl⟩
  case own => obtain ⟨_, _, _, _, rfl⟩ := h; exact ⟨rfl, rfl⟩
  case eo => obtain ⟨_, _, _, _, rfl⟩ := h; exact ⟨rfl, rfl⟩
  case bp => obtain ⟨_, _, rfl⟩ := h; exact ⟨rfl, rfl⟩
  case fn => obtain ⟨_, rfl, _⟩ := h; exact ⟨rfl, rfl⟩
  case fv => obtain ⟨_, _, rfl, _⟩ := h; exact ⟨rfl, rfl⟩
  case sc => rcases h with ⟨rfl, _⟩ | ⟨_, _, _, rfl, _⟩ <;> exact ⟨rfl, rfl⟩

theorem RV.val? {c : Cx} {ρ : Nat → Option Value} {x : AV} {v u : Value} (h : RV c ρ x v) (hi : x.val? = some u) : v = u ∧ u.oneCell' = true ∧ u.cells = #[u] := by
  cases x <;> simp only [AV.val?, reduceCtorEq, Option.some.injEq] at hi <;> simp only [RV] at h
  case i => subst h hi; exact ⟨rfl, rfl, rfl⟩
  case b => subst h hi; exact ⟨rfl, rfl, rfl⟩
  case nl => subst h hi; exact ⟨rfl, rfl, rfl⟩
  case v x =>
    split at hi
    · rename_i hx
      cases hi; subst h
      exact ⟨rfl, hx, by cases v <;> simp_all [Value.oneCell', Value.cells]⟩
    · cases hi
theorem RV.one {c : Cx} {ρ : Nat → Option Value} {x : AV} {v : Value} (h : RV c ρ x v) (hi : x.one = true) : v = cval x ∧ v.oneCell' = true ∧ v.cells = #[v] := by
  cases x <;> simp only [AV.one, Bool.false_eq_true] at hi <;> simp only [RV] at h
  case i => subst h; exact ⟨rfl, rfl, rfl⟩
  case b => subst h; exact ⟨rfl, rfl, rfl⟩
  case nl => subst h; exact ⟨rfl, rfl, rfl⟩
  case v x => subst h; exact ⟨rfl, hi, by cases v <;> simp_all [Value.oneCell', Value.cells]⟩
theorem RVs.one {c : Cx} {ρ : Nat → Option Value} : ∀ {xs : List AV} {vs : List Value}, RVs c ρ xs vs → xs.all AV.one = true → vs = xs.map cval ∧ ∀ u ∈ vs, u.oneCell' = true
  | [], _, h, _ => by simp only [RVs] at h; subst h; simp
  | x :: xs, _, h, ha => by
    simp only [RVs] at h; obtain ⟨y, ys, rfl, h1, h2⟩ := h
    simp only [List.all_cons, Bool.and_eq_true] at ha
    obtain ⟨e1, e2, _⟩ := h1.one ha.1
    obtain ⟨e3, e4⟩ := RVs.one h2 ha.2
    refine ⟨by rw [List.map_cons, ← e1, ← e3], fun v hv => ?_⟩
    rcases List.mem_cons.1 hv with rfl | hv
    · exact e2
    · exact e4 v hv
theorem RVs.const (c : Cx) (ρ : Nat → Option Value) : ∀ (ys : List Value), RVs c ρ (ys.map constAV) ys
  | [] => rfl
  | y :: ys => ⟨y, ys, rfl, RV.const c ρ y, RVs.const c ρ ys⟩

/-! ### Rows of wider elements, laid flat -/
theorem flat_len {wd : Nat} : ∀ {rs : List (List Value)}, (∀ r ∈ rs, r.length = wd) → rs.flatten.length = rs.length * wd
  | [], _ => by simp
  | r :: rs, h => by
    rw [List.flatten_cons, List.length_append, flat_len (rs := rs) (fun r hr => h r (by simp [hr])), h r (by simp), List.length_cons, Nat.succ_mul, Nat.add_comm]
theorem flat_at {wd : Nat} : ∀ {rs : List (List Value)} {j f : Nat}, (∀ r ∈ rs, r.length = wd) → j < rs.length → f < wd → rs.flatten[j * wd + f]? = some ((rs.getD j []).getD f undef)
  | [], _, _, _, h, _ => by simp at h
  | r :: rs, 0, f, h, _, hf => by
    have hr := h r (by simp)
    rw [List.flatten_cons, List.getElem?_append_left (by omega), Nat.zero_mul, Nat.zero_add, List.getD_cons_zero, List.getD_eq_getElem?_getD, List.getElem?_eq_getElem (by omega)]; rfl
  | r :: rs, j + 1, f, h, hj, hf => by
    have hr := h r (by simp)
    rw [List.flatten_cons, List.getElem?_append_right (by rw [hr, Nat.succ_mul]; omega), hr, show (j + 1) * wd + f - wd = j * wd + f by rw [Nat.succ_mul]; omega, List.getD_cons_succ]
    exact flat_at (fun r hr => h r (by simp [hr])) (by simpa using hj) hf
theorem flat_row {wd : Nat} {rs : List (List Value)} (h : ∀ r ∈ rs, r.length = wd) {j : Nat} (hj : j < rs.length) : (rs.getD j []).length = wd :=
  h _ (by rw [List.getD_eq_getElem?_getD, List.getElem?_eq_getElem hj]; exact List.getElem_mem _)
theorem flat_set {wd : Nat} {x : List Value} (hx : x.length = wd) : ∀ {rs : List (List Value)} {j : Nat}, (∀ r ∈ rs, r.length = wd) → j < rs.length → (rs.set j x).flatten = rs.flatten.take (j * wd) ++ x ++ rs.flatten.drop (j * wd + x.length)
  | [], _, _, h => by simp at h
  | r :: rs, 0, h, _ => by
    have hr := h r (by simp)
    rw [List.set_cons_zero, List.flatten_cons, List.flatten_cons, Nat.zero_mul, List.take_zero, List.nil_append, Nat.zero_add, hx, ← hr, List.drop_left]
  | r :: rs, j + 1, h, hj => by
    have hr := h r (by simp)
    have ih := flat_set hx (rs := rs) (j := j) (fun r hr => h r (by simp [hr])) (by simpa using hj)
    rw [List.set_cons_succ, List.flatten_cons, List.flatten_cons, ih, show (j + 1) * wd = r.length + j * wd by rw [hr, Nat.succ_mul, Nat.add_comm], List.take_length_add_append, Nat.add_assoc, List.drop_length_add_append]
    simp only [List.append_assoc]
theorem flat_setc {wd : Nat} {u : Value} : ∀ {rs : List (List Value)} {j f : Nat}, (∀ r ∈ rs, r.length = wd) → j < rs.length → f < wd → (rs.set j ((rs.getD j []).set f u)).flatten = rs.flatten.set (j * wd + f) u
  | [], _, _, _, h, _ => by simp at h
  | r :: rs, 0, f, h, _, hf => by
    have hr := h r (by simp)
    rw [List.set_cons_zero, List.getD_cons_zero, List.flatten_cons, List.flatten_cons, Nat.zero_mul, Nat.zero_add, List.set_append_left _ _ (by omega)]
  | r :: rs, j + 1, f, h, hj, hf => by
    have hr := h r (by simp)
    rw [List.set_cons_succ, List.getD_cons_succ, List.flatten_cons, List.flatten_cons, flat_setc (rs := rs) (fun r hr => h r (by simp [hr])) (by simpa using hj) hf,
      List.set_append_right _ _ (by rw [hr, Nat.succ_mul]; omega), hr, show (j + 1) * wd + f - wd = j * wd + f by rw [Nat.succ_mul]; omega]
theorem flat_cells {wd : Nat} {rs : List (List Value)} (h : ∀ r ∈ rs, r.length = wd) {j f n : Nat} (hj : j < rs.length) {i : Nat} {u : Value} (hu : (((rs.getD j []).drop f).take n)[i]? = some u) : rs.flatten[j * wd + (f + i)]? = some u := by
  have hl := flat_row h hj
  rw [List.getElem?_take] at hu
  split at hu
  · rw [List.getElem?_drop] at hu
    have hlt := (List.getElem?_eq_some_iff.1 hu).1
    rw [flat_at h hj (by omega), List.getD_eq_getElem?_getD (l := rs.getD j []), hu]; rfl
  · cases hu

/-! ### Numbers -/
theorem wrapV_RV {c : Cx} {ρ : Nat → Option Value} (k : IntKind) (n : Int) : RV c ρ (wrapV k n) (.int k (k.wrap n)) := by
  cases k <;> simp [wrapV, RV, IntKind.wrap_i64, wrap64]

theorem run_eqGuard_int {P : Program} (w : World) (op : BinOp) (t : TypeId) (x y : Operand) (k k' : IntKind) (a b : Int) : (eqGuard op t x y (.int k a) (.int k' b)).run P w = .ok () w := by
  unfold eqGuard; cases op <;> simp
theorem run_eqGuard_bool {P : Program} (w : World) (op : BinOp) (t : TypeId) (x y : Operand) (a b : Bool) : (eqGuard op t x y (.bool a) (.bool b)).run P w = .ok () w := by
  unfold eqGuard; cases op <;> simp
theorem run_eqGuard_str {P : Program} (w : World) (op : BinOp) (t : TypeId) (x y : Operand) (a b : ByteArray) : (eqGuard op t x y (.string a) (.string b)).run P w = .ok () w := by
  unfold eqGuard; cases op <;> simp

theorem RV.bool {c : Cx} {ρ : Nat → Option Value} {x : Bool} {v : Value} (h : RV c ρ (.b x) v) : v = .bool x := h
theorem decide_eq_beq (a b : Int) : decide (a = b) = (a == b) := by
  by_cases h : a = b <;> simp [h]

theorem bin_okU {c : Cx} {C : Cfg} (ok : CfgOk c.P C) {op : BinOp} {T : TypeId} {x y : AV} {H H' : List AO} {p : Prop} {v : AV} (h : aBin op (C.Γ T) x y H = .ok p v H') (hp : p)
    {ρ : Nat → Option Value} {ux uy : Value} (hx : RV c ρ x ux) (hy : RV c ρ y uy) (ox oy : Operand) :
    H' = H ∧ ∃ u, (∀ w, (eqGuard op T ox oy ux uy).run c.P w = .ok () w ∧ (binOp op T ux uy).run c.P w = .ok u w) ∧ RV c ρ v u := by
  unfold aBin at h
  split at h
  · rename_i k a k' b hxa hyb
    obtain rfl := hx.int? hxa
    obtain rfl := hy.int? hyb
    have hg : ∀ w, _ := fun w => run_eqGuard_int (P := c.P) w op T ox oy k k' a b
    cases op <;> simp only [Res.ok.injEq] at h <;> obtain ⟨rfl, rfl, rfl⟩ := h <;> refine ⟨rfl, ?_⟩
    case shl => exact ⟨.int k (shlK k a b), fun w => ⟨hg w, by simp [binOp, Op.shift, Int.not_lt.2 hp, shlK]⟩, by cases k <;> simp [shlV, RV, ishl]⟩
    case shr => exact ⟨.int k (shrK k a b), fun w => ⟨hg w, by simp [binOp, Op.shift, Int.not_lt.2 hp, shrK]⟩, by cases k <;> simp [shrV, RV, ishr]⟩
    case add => subst hp; exact ⟨.int k (k.wrap (a + b)), fun w => ⟨hg w, by simp [binOp, Op.intArith]⟩, wrapV_RV _ _⟩
    case sub => subst hp; exact ⟨.int k (k.wrap (a - b)), fun w => ⟨hg w, by simp [binOp, Op.intArith]⟩, wrapV_RV _ _⟩
    case mul => subst hp; exact ⟨.int k (k.wrap (a * b)), fun w => ⟨hg w, by simp [binOp, Op.intArith]⟩, wrapV_RV _ _⟩
    case quo => obtain ⟨rfl, h0⟩ := hp; exact ⟨.int k (k.wrap (a.tdiv b)), fun w => ⟨hg w, by simp [binOp, Op.intDiv, h0]⟩, wrapV_RV _ _⟩
    case rem => obtain ⟨rfl, h0⟩ := hp; exact ⟨.int k (a.tmod b), fun w => ⟨hg w, by simp [binOp, Op.intDiv, h0]⟩, RV.iv _ _⟩
    case and => subst hp; exact ⟨.int k (bitsK .and k a b), fun w => ⟨hg w, by simp [binOp, Op.intBits, bitsK]⟩, by cases k <;> simp [bitsV, RV, iand]⟩
    case or => subst hp; exact ⟨.int k (bitsK .or k a b), fun w => ⟨hg w, by simp [binOp, Op.intBits, bitsK]⟩, by cases k <;> simp [bitsV, RV, ior]⟩
    case xor => subst hp; exact ⟨.int k (bitsK .xor k a b), fun w => ⟨hg w, by simp [binOp, Op.intBits, bitsK]⟩, by cases k <;> simp [bitsV, RV, ixor]⟩
    case andNot => subst hp; exact ⟨.int k (bitsK .andNot k a b), fun w => ⟨hg w, by simp [binOp, Op.intBits, bitsK]⟩, by cases k <;> simp [bitsV, RV, iandn]⟩
    case eql => subst hp; exact ⟨.bool (a == b), fun w => ⟨hg w, by simp [binOp, Op.intCmp]⟩, by simp [RV, decide_eq_beq]⟩
    case neq => subst hp; exact ⟨.bool (a != b), fun w => ⟨hg w, by simp [binOp, Op.intCmp]⟩, by simp [RV, decide_eq_beq, bne]⟩
    case lss => subst hp; exact ⟨.bool (decide (a < b)), fun w => ⟨hg w, by simp [binOp, Op.intCmp]⟩, rfl⟩
    case leq => subst hp; exact ⟨.bool (decide (a ≤ b)), fun w => ⟨hg w, by simp [binOp, Op.intCmp]⟩, rfl⟩
    case gtr => subst hp; exact ⟨.bool (decide (b < a)), fun w => ⟨hg w, by simp [binOp, Op.intCmp]⟩, rfl⟩
    case geq => subst hp; exact ⟨.bool (decide (b ≤ a)), fun w => ⟨hg w, by simp [binOp, Op.intCmp]⟩, rfl⟩
  · split at h
    · split at h
      · rename_i hT
        simp only [Res.ok.injEq] at h; obtain ⟨rfl, rfl, rfl⟩ := h
        obtain rfl := hx.bool; obtain rfl := hy.bool
        obtain ⟨desc, hd, hk⟩ := (ok.types _ _ hT).kd
        have hd' : c.P.underlying T = some .bool := by cases desc <;> simp_all [KdOk]
        exact ⟨rfl, _, fun w => ⟨run_eqGuard_bool w _ T ox oy _ _, run_eql_bool w T _ _ hd'⟩, rfl⟩
      · cases h
    · split at h
      · rename_i hT
        simp only [Res.ok.injEq] at h; obtain ⟨rfl, rfl, rfl⟩ := h
        obtain rfl := hx.bool; obtain rfl := hy.bool
        obtain ⟨desc, hd, hk⟩ := (ok.types _ _ hT).kd
        have hd' : c.P.underlying T = some .bool := by cases desc <;> simp_all [KdOk]
        exact ⟨rfl, _, fun w => ⟨run_eqGuard_bool w _ T ox oy _ _, run_neq_bool w T _ _ hd'⟩, rfl⟩
      · cases h
    · simp only [Res.ok.injEq] at h; obtain ⟨rfl, rfl, rfl⟩ := h
      simp only [RV] at hx hy; subst hx hy
      rename_i p q _
      exact ⟨rfl, .bool (p.toList == q.toList), fun w => ⟨run_eqGuard_str w _ T ox oy _ _, by simp [binOp, Op.stringOp]⟩, by simp [RV]⟩
    · simp only [Res.ok.injEq] at h; obtain ⟨rfl, rfl, rfl⟩ := h
      simp only [RV] at hx hy; subst hx hy
      rename_i p q _
      exact ⟨rfl, .bool (!(p.toList == q.toList)), fun w => ⟨run_eqGuard_str w _ T ox oy _ _, by simp [binOp, Op.stringOp, bne]⟩, by simp [RV]⟩
    · simp only [Res.ok.injEq] at h; obtain ⟨rfl, rfl, rfl⟩ := h
      simp only [RV] at hx hy; subst hx hy
      rename_i p q _
      have hnl : ¬ (9223372036854775807 < (p.size : Int) + (q.size : Int)) := by omega
      exact ⟨rfl, .string (p ++ q), fun w => ⟨run_eqGuard_str w _ T ox oy _ _, by simp [binOp, Op.stringOp, hnl]⟩, by simp [RV]⟩
    · cases h

theorem bin_ok {c : Cx} {C : Cfg} (ok : CfgOk c.P C) {op : BinOp} {T : TypeId} {x y : AV} {H H' : List AO} {p : Prop} {v : AV} (h : aBin op (C.Γ T) x y H = .ok p v H') (hp : p)
    {ρ : Nat → Option Value} {ux uy : Value} (hx : RV c ρ x ux) (hy : RV c ρ y uy) (ox oy : Operand) (w : World) :
    H' = H ∧ ∃ u, (eqGuard op T ox oy ux uy).run c.P w = .ok () w ∧ (binOp op T ux uy).run c.P w = .ok u w ∧ RV c ρ v u := by
  obtain ⟨h1, u, h2, h3⟩ := bin_okU ok h hp hx hy ox oy
  exact ⟨h1, u, (h2 w).1, (h2 w).2, h3⟩

theorem un_ok {c : Cx} {op : UnOp} {x : AV} {H H' : List AO} {p : Prop} {v : AV} (h : aUn op x H = .ok p v H')
    {ρ : Nat → Option Value} {ux : Value} (hx : RV c ρ x ux) (w : World) :
    H' = H ∧ ∃ u, (Op.unary op ux).run c.P w = .ok u w ∧ RV c ρ v u := by
  unfold aUn at h
  split at h
  · simp only [Res.ok.injEq] at h; obtain ⟨rfl, rfl, rfl⟩ := h
    obtain rfl := hx.bool
    exact ⟨rfl, .bool (!_), by simp [Op.unary], rfl⟩
  · simp only [Res.ok.injEq] at h; obtain ⟨rfl, rfl, rfl⟩ := h
    simp only [RV] at hx; subst hx
    rename_i n
    exact ⟨rfl, .int .i64 (IntKind.i64.wrap (0 - n)), by simp [Op.unary, Op.intArith], by simp [RV, IntKind.wrap_i64, wrap64]⟩
  · cases h

theorem pick_ok {c : Cx} {x y z : AV} {H H' : List AO} {p : Prop} {v : AV} (h : aPick z x y H = .ok p v H')
    {ρ : Nat → Option Value} {ux uy uz : Value} (hx : RV c ρ x ux) (hy : RV c ρ y uy) (hz : RV c ρ z uz) (w : World) :
    H' = H ∧ ∃ b, uz = .bool b ∧ RV c ρ v (if b then ux else uy) := by
  unfold aPick at h
  split at h
  · simp only [Res.ok.injEq] at h; obtain ⟨rfl, rfl, rfl⟩ := h
    obtain rfl := hz.bool
    exact ⟨rfl, true, rfl, by simpa using hx⟩
  · simp only [Res.ok.injEq] at h; obtain ⟨rfl, rfl, rfl⟩ := h
    obtain rfl := hz.bool
    exact ⟨rfl, false, rfl, by simpa using hy⟩
  · cases h

/-! ### Memory: reading -/
theorem add_lit (b o j : Nat) : (⟨b, o, none⟩ : Addr).add j = ⟨b, o + j, none⟩ := by unfold Addr.add; split <;> simp_all

theorem run_isAgg {P : Program} {t : TypeId} {d : TD} (h : TdOk P t d) (w : World) : (isAgg t).run P w = .ok d.agg w := by
  obtain ⟨desc, hd, hk⟩ := h.kd
  unfold isAgg TD.agg
  simp only [Sem.run_bind, run_underlying hd, Result.andThen_ok]
  obtain ⟨kd, _, _, _⟩ := d
  cases desc <;> cases kd <;> simp_all [KdOk]

theorem run_sizeOf {P : Program} {t : TypeId} {d : TD} (h : TdOk P t d) (w : World) : (sizeOf t).run P w = .ok d.size w := by
  obtain ⟨i, z, hi, hs, _⟩ := h.info
  simp [sizeOf, typeInfo, hi, hs]

theorem run_loadVar_one {P : Program} {t : TypeId} {d : TD} (h : TdOk P t d) (hd : d.agg = false) {w : World} {a : Addr} {v : Value} (hc : w.cell? a = some v) : (loadVar t a).run P w = .ok v w := by
  simp [loadVar, run_isAgg h, hd, hc]

theorem run_loadVar_agg {P : Program} {t : TypeId} {d : TD} (h : TdOk P t d) (hd : d.agg = true) {w : World} {b o : Nat} {ys : List Value} (hl : ys.length = d.size)
    (hc : ∀ j v, ys[j]? = some v → w.cell? ⟨b, o + j, none⟩ = some v) : (loadVar t ⟨b, o, none⟩).run P w = .ok (.agg ys.toArray) w := by
  have := run_loadCells_list (P := P) (w := w) ⟨b, o, none⟩ ys (fun j v hv => by rw [add_lit]; exact hc j v hv)
  rw [hl] at this
  simp [loadVar, run_isAgg h, hd, run_sizeOf h, this]

theorem RCells.get {c : Cx} {w : World} (hk : Keep c w) {b : Nat} : ∀ {cs : List AV} {o : Nat}, RCells c cs b o → ∃ ys, ys.length = cs.length ∧ RVs c (fun _ => none) cs ys ∧ ∀ j v, ys[j]? = some v → w.cell? ⟨b, o + j, none⟩ = some v
  | [], _, _ => ⟨[], rfl, rfl, fun j v h => by simp at h⟩
  | x :: xs, o, h => by
    simp only [RCells] at h
    obtain ⟨⟨hX, y, hy, hr⟩, h'⟩ := h
    obtain ⟨ys, hl, hrs, hcs⟩ := RCells.get hk h'
    refine ⟨y :: ys, by simp [hl], by simp only [RVs]; exact ⟨y, ys, rfl, hr, hrs⟩, fun j v hv => ?_⟩
    cases j with
    | zero => simp at hv; subst hv; exact hk.cell hX hy
    | succ j => have := hcs j v (by simpa using hv); rw [show o + (j + 1) = o + 1 + j by omega]; exact this

theorem none_ext (ρ : Nat → Option Value) : Ext (fun _ => none) ρ := fun _ _ h => by cases h

theorem HR.get {c : Cx} {w : World} {ρ : Nat → Option Value} {Hf H : List AO} (hH : HR c w ρ Hf) (hsub : ∀ (id : Nat) (o : AO), H[id]? = some o → Hf[id]? = some o)
    {id : Nat} {o : AO} (hid : H[id]? = some o) {x : Value} (hx : ρ id = some x) : OR c w ρ o x := by
  obtain ⟨o', ho', h⟩ := hH.obj id x hx
  rw [hsub id o hid] at ho'
  cases ho'
  exact h

theorem row_cell {w : World} {b : Nat} {cur : Array Value} {T : TypeId} {fz : Nat × Nat} (hg : w.heap[b]? = some (.cells cur T fz)) (j : Nat) : w.cell? ⟨b, j, none⟩ = cur[j]? := cell_of_row w b j cur T fz hg

theorem row_at {cur : Array Value} {k : IntKind} {l : List Int} (h : cur.toList.take l.length = l.map (Value.int k)) {j : Nat} (hj : j < l.length) : cur[j]? = some (.int k (l.getD j 0)) := by
  have h1 : (cur.toList.take l.length)[j]? = (l.map (Value.int k))[j]? := by rw [h]
  rw [List.getElem?_take, if_pos hj, List.getElem?_map] at h1
  rw [← Array.getElem?_toList, h1]
  simp [List.getElem?_eq_getElem hj]

theorem load_ok {c : Cx} {C : Cfg} (ok : CfgOk c.P C) {T : TypeId} {x : AV} {Hf H H' : List AO} {p : Prop} {v : AV} (h : aLoad (C.Γ T) x H = .ok p v H') (hp : p)
    {ρ : Nat → Option Value} {w : World} (hH : HR c w ρ Hf) (hsub : ∀ (id : Nat) (o : AO), H[id]? = some o → Hf[id]? = some o) (hk : Keep c w) {ux : Value} (hx : RV c ρ x ux) :
    H' = H ∧ ∃ u, (Instr.loadAt T ux).run c.P w = .ok u w ∧ RV c ρ v u := by
  unfold aLoad at h
  split at h
  · cases h
  rename_i d hd
  have td := ok.types _ _ hd
  split at h
  · -- a struct that came in
    rename_i cs ha
    simp only [Res.ok.injEq] at h; obtain ⟨rfl, rfl, rfl⟩ := h
    simp only [RV] at hx
    obtain ⟨b, o, rfl, hr⟩ := hx
    obtain ⟨ys, hl, hrs, hcs⟩ := RCells.get hk hr
    refine ⟨rfl, .agg (ys.take d.size).toArray, ?_, ?_⟩
    · have := run_loadVar_agg td ha (w := w) (b := b) (o := o) (ys := ys.take d.size) (by simp; omega) (fun j v hv => hcs j v (by
        rw [List.getElem?_take] at hv; split at hv <;> simp_all))
      simp [Instr.loadAt, Instr.sureAddr, this]
    · simp only [RV]; exact ⟨_, rfl, (RVs.ext (none_ext ρ) _ _ hrs).take _⟩
  · -- a struct of ours
    rename_i id off ha
    split at h
    · rename_i T' cs hid
      simp only [Res.ok.injEq] at h; obtain ⟨rfl, rfl, rfl⟩ := h
      simp only [RV] at hx
      obtain ⟨b, hρ, rfl⟩ := hx
      obtain ⟨b', xs, hb, _, hg, hrs⟩ := hH.get hsub hid hρ
      simp only [Value.pointer.injEq, Option.some.injEq, Addr.mk.injEq, and_true] at hb
      obtain ⟨rfl⟩ := hb
      have hl := hrs.length
      refine ⟨rfl, .agg ((xs.drop off).take d.size).toArray, ?_, ?_⟩
      · have := run_loadVar_agg td ha (w := w) (b := b) (o := off) (ys := (xs.drop off).take d.size) (by simp; omega) (fun j v hv => by
          rw [row_cell hg]; rw [List.getElem?_take] at hv; split at hv <;> simp_all)
        simp [Instr.loadAt, Instr.sureAddr, this]
      · simp only [RV]; exact ⟨_, rfl, (hrs.drop _).take _⟩
    · cases h
  · -- one cell that came in
    rename_i y cs ha
    simp only [Res.ok.injEq] at h; obtain ⟨rfl, rfl, rfl⟩ := h
    simp only [RV, RCells] at hx
    obtain ⟨b, o, rfl, ⟨hX, z, hz, hr⟩, _⟩ := hx
    refine ⟨rfl, z, ?_, RV.ext (none_ext ρ) _ _ hr⟩
    simp [Instr.loadAt, Instr.sureAddr, run_loadVar_one td ha (hk.cell hX hz)]
  · -- an element of ours
    rename_i id k ha
    split at h
    · rename_i kd E l hid
      simp only [Res.ok.injEq] at h; obtain ⟨rfl, rfl, rfl⟩ := h
      simp only [RV] at hx
      obtain ⟨b, n, cap, hρ, rfl⟩ := hx
      rcases hH.get hsub hid hρ with ⟨hb, _⟩ | ⟨b', cap', cur, hb, _, hg, _, _, _, ht⟩
      · simp at hb
      simp only [Value.slice.injEq, Option.some.injEq, Addr.mk.injEq, and_true] at hb
      obtain ⟨rfl, _⟩ := hb
      refine ⟨rfl, .int kd (l.getD k 0), ?_, RV.iv _ _⟩
      simp [Instr.loadAt, Instr.sureAddr, run_loadVar_one td ha (show w.cell? ⟨b, k, none⟩ = _ by rw [row_cell hg]; exact row_at ht hp)]
    · cases h
  · -- a variable of ours
    rename_i id off ha
    split at h
    · rename_i T' cs hid
      simp only [Res.ok.injEq] at h; obtain ⟨rfl, rfl, rfl⟩ := h
      simp only [RV] at hx
      obtain ⟨b, hρ, rfl⟩ := hx
      obtain ⟨b', xs, hb, _, hg, hrs⟩ := hH.get hsub hid hρ
      simp only [Value.pointer.injEq, Option.some.injEq, Addr.mk.injEq, and_true] at hb
      obtain ⟨rfl⟩ := hb
      obtain ⟨y, hy, hr⟩ := hrs.at off hp
      refine ⟨rfl, y, ?_, hr⟩
      simp [Instr.loadAt, Instr.sureAddr, run_loadVar_one td ha (show w.cell? ⟨b, off, none⟩ = some y by rw [row_cell hg]; simpa using hy)]
    · cases h
  · -- a wider element of ours, a struct
    rename_i id wd j f ha
    split at h
    · rename_i E wd' rs hid
      simp only [Res.ok.injEq] at h; obtain ⟨rfl, rfl, rfl⟩ := h
      obtain ⟨rfl, hj, hf⟩ := hp
      simp only [RV] at hx
      obtain ⟨b, n, cap, hρ, rfl⟩ := hx
      rcases hH.get hsub hid hρ with ⟨hb, _⟩ | ⟨b', cap', cur, hb, _, hg, ⟨hw, hrs⟩, _, _, hcs, ht⟩
      · simp at hb
      simp only [Value.slice.injEq, Option.some.injEq, Addr.mk.injEq, and_true] at hb
      obtain ⟨rfl, _⟩ := hb
      have hl := flat_row (fun r hr => (hrs r hr).1) hj
      refine ⟨rfl, .agg (((rs.getD j []).drop f).take d.size).toArray, ?_, by simp only [RV]; exact ⟨_, rfl, RVs.const c ρ _⟩⟩
      have := run_loadVar_agg td ha (w := w) (b := b) (o := j * wd + f) (ys := ((rs.getD j []).drop f).take d.size) (by simp only [List.length_take, List.length_drop, hl]; omega) (fun i v hv => by
        have := flat_cells (fun r hr => (hrs r hr).1) hj hv
        rw [row_cell hg, ← Array.getElem?_toList, Nat.add_assoc]
        rw [← ht, List.getElem?_take] at this
        split at this
        · exact this
        · cases this)
      simp only [Instr.loadAt, Instr.sureAddr, Sem.run_bind, Sem.run_pure, Result.andThen_ok]; exact this
    · cases h
  · -- a wider element of ours, one cell
    rename_i id wd j f ha
    split at h
    · rename_i E wd' rs hid
      simp only [Res.ok.injEq] at h; obtain ⟨rfl, rfl, rfl⟩ := h
      obtain ⟨rfl, hj, hf⟩ := hp
      simp only [RV] at hx
      obtain ⟨b, n, cap, hρ, rfl⟩ := hx
      rcases hH.get hsub hid hρ with ⟨hb, _⟩ | ⟨b', cap', cur, hb, _, hg, ⟨hw, hrs⟩, _, _, hcs, ht⟩
      · simp at hb
      simp only [Value.slice.injEq, Option.some.injEq, Addr.mk.injEq, and_true] at hb
      obtain ⟨rfl, _⟩ := hb
      refine ⟨rfl, _, ?_, RV.const c ρ _⟩
      have := flat_at (fun r hr => (hrs r hr).1) hj hf
      rw [← ht, List.getElem?_take] at this
      split at this
      · have hr := run_loadVar_one td ha (show w.cell? ⟨b, j * wd + f, none⟩ = some ((rs.getD j []).getD f undef) by rw [row_cell hg, ← Array.getElem?_toList]; exact this)
        simp only [Instr.loadAt, Instr.sureAddr, Sem.run_bind, Sem.run_pure, Result.andThen_ok]; exact hr
      · cases this
    · cases h
  · cases h

theorem KdOk.struct {P : Program} {S : TypeId} {d : TD} (td : TdOk P S d) {fs : List (Nat × TypeId)} (hk : d.kd = .struct fs) : ∃ fields, P.underlying S = some (.struct fields) ∧ fields.toList.map (fun f => (f.offset, f.type)) = fs := by
  obtain ⟨desc, hd, h⟩ := td.kd
  rw [hk] at h
  cases desc <;> simp [KdOk] at h
  exact ⟨_, hd, h⟩
theorem KdOk.slice {P : Program} {S : TypeId} {d : TD} (td : TdOk P S d) {e : TypeId} (hk : d.kd = .slice e) : P.underlying S = some (.slice e) := by
  obtain ⟨desc, hd, h⟩ := td.kd
  rw [hk] at h
  cases desc <;> simp [KdOk] at h
  rw [hd, h]
theorem KdOk.int {P : Program} {S : TypeId} {d : TD} (td : TdOk P S d) {k : IntKind} (hk : d.kd = .int k) : P.underlying S = some (.int k) := by
  obtain ⟨desc, hd, h⟩ := td.kd
  rw [hk] at h
  cases desc <;> simp [KdOk] at h
  rw [hd, h]
theorem field_get {fields : Array Field} {fs : List (Nat × TypeId)} (h : fields.toList.map (fun f => (f.offset, f.type)) = fs) {j off : Nat} {ft : TypeId} (hj : fs[j]? = some (off, ft)) :
    ∃ f, fields[j]? = some f ∧ f.offset = off ∧ f.type = ft := by
  subst h
  simp only [List.getElem?_map, Option.map_eq_some_iff, Array.getElem?_toList] at hj
  obtain ⟨f, hf, he⟩ := hj
  simp at he
  exact ⟨f, hf, he.1, he.2⟩

theorem RCells.drop {c : Cx} {b : Nat} : ∀ {cs : List AV} {o : Nat} (n : Nat), RCells c cs b o → RCells c (cs.drop n) b (o + n)
  | [], _, n, _ => by simp [RCells]
  | _ :: _, _, 0, h => h
  | _ :: xs, o, n + 1, h => by simp only [RCells] at h; have := RCells.drop n h.2; rw [show o + (n + 1) = o + 1 + n by omega]; exact this

theorem fieldAddr_ok {c : Cx} {C : Cfg} (ok : CfgOk c.P C) {S : TypeId} {x : AV} {f : Nat} {H H' : List AO} {p : Prop} {v : AV} (h : aFieldAddr C.Γ S x f H = .ok p v H') (hp : p)
    {ρ : Nat → Option Value} {ux : Value} (hx : RV c ρ x ux) (w : World) :
    H' = H ∧ ∃ u, (Instr.fieldAt S ux f).run c.P w = .ok u w ∧ RV c ρ v u := by
  unfold aFieldAddr at h
  split at h <;> try cases h
  rename_i fs _ _ _ hS
  split at h <;> try cases h
  rename_i off ft hf
  split at h <;> try cases h
  rename_i fd hft
  obtain ⟨fields, hu, hfs⟩ := KdOk.struct (ok.types _ _ hS) rfl
  obtain ⟨fl, hfl, rfl, rfl⟩ := field_get hfs hf
  have tf := ok.types _ _ hft
  split at h
  · simp only [Res.ok.injEq] at h; obtain ⟨rfl, rfl, rfl⟩ := h
    simp only [RV] at hx
    obtain ⟨b, o, rfl, hr⟩ := hx
    refine ⟨rfl, .pointer (some ⟨b, o + fl.offset, none⟩), ?_, by simp only [RV]; exact ⟨b, _, rfl, hr.drop _⟩⟩
    simp [Instr.fieldAt, Instr.sureAddr, fieldPlace, run_underlying hu, hfl, run_sizeOf tf, hp, add_lit]
  · simp only [Res.ok.injEq] at h; obtain ⟨rfl, rfl, rfl⟩ := h
    simp only [RV] at hx
    obtain ⟨b, hρ, rfl⟩ := hx
    refine ⟨rfl, .pointer (some ⟨b, _, none⟩), ?_, by simp only [RV]; exact ⟨b, hρ, rfl⟩⟩
    simp [Instr.fieldAt, Instr.sureAddr, fieldPlace, run_underlying hu, hfl, run_sizeOf tf, hp, add_lit]
  · simp only [Res.ok.injEq] at h; obtain ⟨rfl, rfl, rfl⟩ := h
    simp only [RV] at hx
    obtain ⟨b, n, cap, hρ, rfl⟩ := hx
    refine ⟨rfl, .pointer (some ⟨b, _, none⟩), ?_, by simp only [RV]; exact ⟨b, n, cap, hρ, rfl⟩⟩
    simp [Instr.fieldAt, Instr.sureAddr, fieldPlace, run_underlying hu, hfl, run_sizeOf tf, hp, add_lit, Nat.add_assoc]
  · cases h

theorem field_ok {c : Cx} {C : Cfg} (ok : CfgOk c.P C) {S : TypeId} {x : AV} {f : Nat} {H H' : List AO} {p : Prop} {v : AV} (h : aField C.Γ S x f H = .ok p v H') (hp : p)
    {ρ : Nat → Option Value} {ux : Value} (hx : RV c ρ x ux) (w : World) :
    H' = H ∧ ∃ u, (Instr.field S ux f).run c.P w = .ok u w ∧ RV c ρ v u := by
  unfold aField at h
  split at h <;> try cases h
  rename_i fs _ _ _ hS
  split at h <;> try cases h
  rename_i off ft hf
  split at h <;> try cases h
  rename_i fd hft
  obtain ⟨fields, hu, hfs⟩ := KdOk.struct (ok.types _ _ hS) rfl
  obtain ⟨fl, hfl, rfl, rfl⟩ := field_get hfs hf
  have tf := ok.types _ _ hft
  split at h
  · simp only [RV] at hx
    obtain ⟨xs, rfl, hrs⟩ := hx
    have hl := hrs.length
    split at h
    · rename_i ha
      simp only [Res.ok.injEq] at h; obtain ⟨rfl, rfl, rfl⟩ := h
      refine ⟨rfl, .agg ((xs.drop fl.offset).take fd.size).toArray, ?_, by simp only [RV]; exact ⟨_, rfl, (hrs.drop _).take _⟩⟩
      simp [Instr.field, run_underlying hu, hfl, asAgg, part, run_isAgg tf, ha, run_sizeOf tf]
    · rename_i ha
      simp only [Res.ok.injEq] at h; obtain ⟨rfl, rfl, rfl⟩ := h
      obtain ⟨y, hy, hr⟩ := hrs.at _ hp
      refine ⟨rfl, y, ?_, hr⟩
      simp only [Bool.not_eq_true] at ha
      simp [Instr.field, run_underlying hu, hfl, asAgg, part, run_isAgg tf, ha, hy]
  · cases h

theorem elemOf_spec {c : Cx} {C : Cfg} (ok : CfgOk c.P C) {T E : TypeId} {k : IntKind} {b : Nat} (h : elemOf C.Γ T = some (E, k, b)) :
    c.P.underlying T = some (.slice E) ∧ c.P.underlying E = some (.int k) ∧ ∃ i, c.P.info? E = some i ∧ i.size = 1 ∧ i.bytes = b ∧ i.zero = some (.int k 0) := by
  unfold elemOf at h
  split at h <;> try cases h
  rename_i E' _ _ _ hT
  split at h <;> try cases h
  rename_i k' b' z hE
  have tE := ok.types _ _ hE
  obtain ⟨i, z', hi, hs, hb, _⟩ := tE.info
  obtain ⟨i', hi', hz'⟩ := tE.izero _ rfl
  rw [hi] at hi'
  cases hi'
  exact ⟨KdOk.slice (ok.types _ _ hT) rfl, KdOk.int tE rfl, i, hi, hs, hb, hz'⟩

theorem elemC_spec {c : Cx} {C : Cfg} (ok : CfgOk c.P C) {T E : TypeId} {wd b : Nat} {zs : List Value} (h : elemC C.Γ T = some (E, wd, b, zs)) :
    c.P.underlying T = some (.slice E) ∧ ∃ i z, c.P.info? E = some i ∧ i.size = wd ∧ i.bytes = b ∧ i.zero = some z ∧ z.cells = zs.toArray ∧ ∀ u ∈ zs, ∃ x : AV, x.closed = true ∧ u = cval x := by
  unfold elemC at h
  split at h <;> try cases h
  rename_i E' _ _ _ hT
  split at h <;> try cases h
  all_goals
    rename_i hE
    have tE := ok.types _ _ hE
    obtain ⟨i, z', hi, hs, hb, hz, hc⟩ := tE.info
    refine ⟨KdOk.slice (ok.types _ _ hT) rfl, i, z', hi, hs, hb, hz, hc, fun u hu => ?_⟩
    obtain ⟨x, hx, rfl⟩ := List.mem_map.1 hu
    exact ⟨x, List.all_eq_true.1 tE.closed x hx, rfl⟩

theorem SlR.get {c : Cx} {w : World} (hk : Keep c w) {k : IntKind} {l : List Int} {v : Value} (h : SlR c k l v) : (v = .slice none 0 0 ∧ l = []) ∨
    ∃ b o cap, v = .slice (some ⟨b, o, none⟩) l.length cap ∧ l.length ≤ cap ∧ cap ≤ maxLen ∧ ∀ j, j < l.length → w.cell? ⟨b, o + j, none⟩ = some (.int k (l.getD j 0)) := by
  rcases h with h | ⟨b, o, cap, rfl, h1, h2, h3⟩
  · exact .inl h
  · exact .inr ⟨b, o, cap, rfl, h1, h2, fun j hj => hk.cell (h3 j hj).1 (h3 j hj).2⟩

theorem elem_pick {P : Program} {T E : TypeId} (h : P.underlying T = some (.slice E)) : P.elem T = E ∧ P.underlying T = some (.slice (P.elem T)) := by
  have : P.elem T = E := by simp [Program.elem, h]
  exact ⟨this, by rw [this]; exact h⟩

theorem run_indexAt {c : Cx} {C : Cfg} (ok : CfgOk c.P C) {T E : TypeId} {k : IntKind} {bt : Nat} (he : elemOf C.Γ T = some (E, k, bt)) {b o len cap : Nat} {j : Int} (h : 0 ≤ j ∧ j < len) (w : World) :
    (Instr.indexAt T (.slice (some ⟨b, o, none⟩) len cap) (.int .i64 j)).run c.P w = .ok (.pointer (some ⟨b, o + j.toNat, none⟩)) w := by
  obtain ⟨hu, _, i, hi, hs, _⟩ := elemOf_spec ok he
  simp [Instr.indexAt, asIntOf, run_underlying hu, h, sizeOf, typeInfo, hi, hs, add_lit]

theorem run_indexAtC {c : Cx} {C : Cfg} (ok : CfgOk c.P C) {T E : TypeId} {wd bt : Nat} {zs : List Value} (he : elemC C.Γ T = some (E, wd, bt, zs)) {b o len cap : Nat} {j : Int} (h : 0 ≤ j ∧ j < len) (w : World) :
    (Instr.indexAt T (.slice (some ⟨b, o, none⟩) len cap) (.int .i64 j)).run c.P w = .ok (.pointer (some ⟨b, o + j.toNat * wd, none⟩)) w := by
  obtain ⟨hu, i, z, hi, hs, _⟩ := elemC_spec ok he
  simp [Instr.indexAt, asIntOf, run_underlying hu, h, sizeOf, typeInfo, hi, hs, add_lit]

theorem RCells.const {c : Cx} {b : Nat} : ∀ {ys : List Value} {o : Nat}, (∀ j u, ys[j]? = some u → c.In b ∧ c.w0.cell? ⟨b, o + j, none⟩ = some u) → RCells c (ys.map constAV) b o
  | [], _, _ => trivial
  | y :: ys, o, h => by
    simp only [List.map_cons, RCells]
    exact ⟨⟨(h 0 y rfl).1, y, (h 0 y rfl).2, RV.const c _ y⟩, RCells.const fun j u hu => by rw [show o + 1 + j = o + (j + 1) by omega]; exact h (j + 1) u (by simpa using hu)⟩

/-- A part of a slice of ours. -/
theorem view_of {a : Option Addr} {n cap lo hi : Nat} {b : Nat} (ha : a = some ⟨b, 0, none⟩) (h1 : lo ≤ hi) (h2 : hi ≤ n) (h3 : n ≤ cap) :
    ∃ o, sliced a lo hi cap 1 = .slice (some ⟨b, o, none⟩) (hi - lo) (cap - lo) ∧ (lo < hi → o = lo) := by
  subst ha
  by_cases e : cap = lo
  · exact ⟨0, by simp [sliced, e], fun h => by omega⟩
  · exact ⟨lo, by simp [sliced, e, add_lit], fun _ => rfl⟩

theorem indexAddr_okU {c : Cx} {C : Cfg} (ok : CfgOk c.P C) {T : TypeId} {x i : AV} {Hf H H' : List AO} {p : Prop} {v : AV} (h : aIndexAddr C.Γ T x i H = .ok p v H') (hp : p)
    {ρ : Nat → Option Value} {w : World} (hH : HR c w ρ Hf) (hsub : ∀ (id : Nat) (o : AO), H[id]? = some o → Hf[id]? = some o) {ux ui : Value} (hx : RV c ρ x ux) (hi : RV c ρ i ui) :
    H' = H ∧ ∃ u, (∀ w, (Instr.indexAt T ux ui).run c.P w = .ok u w) ∧ RV c ρ v u := by
  unfold aIndexAddr at h
  split at h
  · rename_i e k l j he
    obtain ⟨E, k', bt⟩ := e
    simp only [Res.ok.injEq] at h; obtain ⟨rfl, rfl, rfl⟩ := h
    simp only [RV] at hi hx; subst hi
    rcases hx with ⟨_, rfl⟩ | ⟨b, o, cap, rfl, _, _, hc⟩
    · simp at hp; omega
    obtain ⟨h1, h2⟩ := hc j.toNat (by omega)
    exact ⟨rfl, _, fun w => run_indexAt ok he hp w, by simp only [RV, RCells]; exact ⟨b, _, rfl, ⟨h1, _, h2, RV.iv _ _⟩, trivial⟩⟩
  · rename_i e id j he
    obtain ⟨E, k', bt⟩ := e
    split at h <;> try cases h
    rename_i kd E' l hid
    simp only [RV] at hi hx; subst hi
    rcases hH.get hsub hid hx.1 with ⟨rfl, rfl⟩ | ⟨b, cap, cur, rfl, _, hg, _⟩
    · simp at hp; omega
    exact ⟨rfl, _, fun w => run_indexAt ok he hp w, by simp only [RV]; exact ⟨b, _, _, hx.1, by simp⟩⟩
  · rename_i e id lo hi' j he
    obtain ⟨E, k', bt⟩ := e
    split at h <;> try cases h
    rename_i kd E' l hid
    simp only [RV] at hi hx; subst hi
    obtain ⟨a, n, cap, hρ, h1, h2, rfl⟩ := hx
    rcases hH.get hsub hid hρ with ⟨hb, rfl⟩ | ⟨b, cap', cur, hb, _, hg, hlc, _⟩
    · simp only [Value.slice.injEq] at hb; omega
    simp only [Value.slice.injEq] at hb
    obtain ⟨rfl, rfl, rfl⟩ := hb
    obtain ⟨o, e1, e2⟩ := view_of (a := some ⟨b, 0, none⟩) rfl h1 h2 hlc
    rw [e1]
    obtain rfl := e2 (by omega)
    exact ⟨rfl, _, fun w => run_indexAt ok he hp w, by simp only [RV]; exact ⟨b, _, _, hρ, by simp⟩⟩
  · rename_i wd rs j he
    split at h <;> try cases h
    rename_i E wd' bt zs hc
    simp only [RV] at hi hx; subst hi
    obtain ⟨rfl, hp⟩ := hp
    rcases hx with ⟨_, rfl⟩ | ⟨b, o, cap, rfl, ⟨hw, hrs⟩, _, _, hcl⟩
    · simp at hp; omega
    refine ⟨rfl, _, fun w => run_indexAtC ok hc hp w, ?_⟩
    simp only [RV]
    refine ⟨b, _, rfl, RCells.const fun i u hu => ?_⟩
    have hl := flat_row (fun r hr => (hrs r hr).1) (j := j.toNat) (by omega)
    have := flat_cells (fun r hr => (hrs r hr).1) (j := j.toNat) (by omega) (f := 0) (n := wd) (i := i) (u := u) (by rw [List.drop_zero, List.take_of_length_le (by omega)]; exact hu)
    have := hcl _ u this
    rw [Nat.zero_add, ← Nat.add_assoc] at this
    exact this
  · rename_i id j he
    split at h <;> try cases h
    rename_i E wd' bt zs E' wd rs hc hid
    simp only [RV] at hi hx; subst hi
    obtain ⟨rfl, hp⟩ := hp
    rcases hH.get hsub hid hx.1 with ⟨rfl, rfl⟩ | ⟨b, cap, cur, rfl, _, hg, _⟩
    · simp at hp; omega
    exact ⟨rfl, _, fun w => run_indexAtC ok hc hp w, by simp only [RV]; exact ⟨b, _, _, hx.1, by simp⟩⟩
  · cases h

theorem indexAddr_ok {c : Cx} {C : Cfg} (ok : CfgOk c.P C) {T : TypeId} {x i : AV} {Hf H H' : List AO} {p : Prop} {v : AV} (h : aIndexAddr C.Γ T x i H = .ok p v H') (hp : p)
    {ρ : Nat → Option Value} {w : World} (hH : HR c w ρ Hf) (hsub : ∀ (id : Nat) (o : AO), H[id]? = some o → Hf[id]? = some o) {ux ui : Value} (hx : RV c ρ x ux) (hi : RV c ρ i ui) :
    H' = H ∧ ∃ u, (Instr.indexAt T ux ui).run c.P w = .ok u w ∧ RV c ρ v u := by
  obtain ⟨h1, u, h2, h3⟩ := indexAddr_okU ok h hp hH hsub hx hi
  exact ⟨h1, u, h2 w, h3⟩

theorem SlR.cut {c : Cx} {k : IntKind} {l : List Int} {v : Value} (h : SlR c k l v) {lo hi : Nat} (h1 : lo ≤ hi) (h2 : hi ≤ l.length) :
    ∃ a n cap, v = .slice a n cap ∧ n = l.length ∧ l.length ≤ cap ∧ SlR c k ((l.take hi).drop lo) (sliced a lo hi cap 1) := by
  rcases h with ⟨rfl, rfl⟩ | ⟨b, o, cap, rfl, h3, h4, hc⟩
  · simp only [List.length_nil] at h2
    obtain rfl : hi = 0 := by omega
    obtain rfl : lo = 0 := by omega
    exact ⟨none, 0, 0, rfl, rfl, Nat.le_refl _, .inl ⟨by simp [sliced], rfl⟩⟩
  · refine ⟨_, _, _, rfl, rfl, h3, .inr ?_⟩
    have hlen : ((l.take hi).drop lo).length = hi - lo := by simp; omega
    rw [hlen]
    refine ⟨b, if cap = lo then o else o + lo, cap - lo, ?_, by omega, by omega, fun j hj => ?_⟩
    · simp only [sliced, Option.map_some, Nat.mul_one, add_lit]
      split <;> rfl
    · have : ¬ cap = lo := by omega
      rw [if_neg this]
      have h5 := hc (lo + j) (by omega)
      refine ⟨h5.1, ?_⟩
      rw [show o + lo + j = o + (lo + j) by omega, h5.2]
      simp [List.getElem?_drop, List.getElem?_take, show lo + j < hi by omega]

theorem slice_okU {c : Cx} {C : Cfg} (ok : CfgOk c.P C) {T : TypeId} {x : AV} {lo hi mx : Option AV} {Hf H H' : List AO} {p : Prop} {v : AV} (h : aSlice C.Γ T x lo hi mx H = .ok p v H') (hp : p)
    {ρ : Nat → Option Value} {w : World} (hH : HR c w ρ Hf) (hsub : ∀ (id : Nat) (o : AO), H[id]? = some o → Hf[id]? = some o)
    {ux : Value} {ulo uhi umx : Option Value} (hx : RV c ρ x ux)
    (hlo : ∀ y, lo = some y → ∃ u, ulo = some u ∧ RV c ρ y u) (hlo' : lo = none → ulo = none)
    (hhi : ∀ y, hi = some y → ∃ u, uhi = some u ∧ RV c ρ y u) (hhi' : hi = none → uhi = none) (hmx' : mx = none → umx = none) :
    H' = H ∧ ∃ u, (∀ w, (Instr.sliceAt T ux ulo uhi umx).run c.P w = .ok u w) ∧ RV c ρ v u := by
  unfold aSlice at h
  split at h
  rotate_left
  · rename_i e id he
    obtain ⟨E, k', bt⟩ := e
    obtain ⟨hu, _, i, hi', hs, _⟩ := elemOf_spec ok he
    obtain ⟨he1, he2⟩ := elem_pick hu
    obtain rfl := hmx' rfl
    simp only [RV] at hx
    have hsz : ∀ w, (sizeOf (c.P.elem T)).run c.P w = .ok 1 w := fun w => by rw [he1]; simp [sizeOf, typeInfo, hi', hs]
    split at h <;> try cases h
    rename_i kd E' l hid
    obtain ⟨hρ, a', n, cap, rfl⟩ := hx
    have hn : n = l.length ∧ l.length ≤ cap := by
      rcases hH.get hsub hid hρ with ⟨hb, rfl⟩ | ⟨b, cap', cur, hb, _, _, hlc, _⟩
      · simp only [Value.slice.injEq] at hb; exact ⟨hb.2.1, Nat.zero_le _⟩
      · simp only [Value.slice.injEq] at hb; obtain ⟨_, rfl, rfl⟩ := hb; exact ⟨rfl, hlc⟩
    obtain ⟨rfl, hlc⟩ := hn
    split at h
    · rename_i a b
      simp only [Res.ok.injEq] at h; obtain ⟨rfl, rfl, rfl⟩ := h
      obtain ⟨u1, rfl, r1⟩ := hlo _ rfl
      obtain ⟨u2, rfl, r2⟩ := hhi _ rfl
      simp only [RV] at r1 r2; subst r1 r2
      exact ⟨rfl, _, fun w => by rw [run_sliceAt_slice w T _ _ _ _ he2, run_slice_lh w T a' _ cap he2 .i64 .i64 a b hp.1 hp.2.1 (by omega), hsz]; rfl, by simp only [RV]; exact ⟨a', _, cap, hρ, by omega, by omega, rfl⟩⟩
    · rename_i b
      simp only [Res.ok.injEq] at h; obtain ⟨rfl, rfl, rfl⟩ := h
      obtain rfl := hlo' rfl
      obtain ⟨u2, rfl, r2⟩ := hhi _ rfl
      simp only [RV] at r2; subst r2
      exact ⟨rfl, _, fun w => by rw [run_sliceAt_slice w T _ _ _ _ he2, run_slice_h w T a' _ cap he2 .i64 b hp.1 (by omega), hsz]; rfl, by simp only [RV]; exact ⟨a', _, cap, hρ, by omega, by omega, rfl⟩⟩
    · rename_i a
      simp only [Res.ok.injEq] at h; obtain ⟨rfl, rfl, rfl⟩ := h
      obtain rfl := hhi' rfl
      obtain ⟨u1, rfl, r1⟩ := hlo _ rfl
      simp only [RV] at r1; subst r1
      exact ⟨rfl, _, fun w => by rw [run_sliceAt_slice w T _ _ _ _ he2, run_slice_l w T a' _ cap he2 .i64 a hp.1 hp.2, hsz]; rfl, by simp only [RV]; exact ⟨a', _, cap, hρ, by omega, by omega, rfl⟩⟩
    · cases h
  · rename_i s he
    obtain rfl := hmx' rfl
    split at h <;> try cases h
    rename_i hT
    obtain ⟨desc, hd, hk⟩ := (ok.types _ _ hT).kd
    have hd' : c.P.underlying T = some .string := by cases desc <;> simp_all [KdOk]
    simp only [RV] at hx; subst hx
    split at h
    · rename_i a b
      simp only [Res.ok.injEq] at h; obtain ⟨rfl, rfl, rfl⟩ := h
      obtain ⟨u1, rfl, r1⟩ := hlo _ rfl
      obtain ⟨u2, rfl, r2⟩ := hhi _ rfl
      simp only [RV] at r1 r2; subst r1 r2
      exact ⟨rfl, _, fun w => by rw [run_sliceAt_string w T _ _ _ _ hd', run_slice_string w T s .i64 .i64 a b hd' hp.1 hp.2.1 hp.2.2], by simp [RV]⟩
    · cases h
  · cases h
  rename_i e k l he
  obtain ⟨E, k', bt⟩ := e
  obtain ⟨hu, _, i, hi', hs, _⟩ := elemOf_spec ok he
  obtain ⟨he1, he2⟩ := elem_pick hu
  obtain rfl := hmx' rfl
  simp only [RV] at hx
  have hsz : ∀ w, (sizeOf (c.P.elem T)).run c.P w = .ok 1 w := fun w => by rw [he1]; simp [sizeOf, typeInfo, hi', hs]
  split at h
  · rename_i a b
    simp only [Res.ok.injEq] at h; obtain ⟨rfl, rfl, rfl⟩ := h
    obtain ⟨u1, rfl, r1⟩ := hlo _ rfl
    obtain ⟨u2, rfl, r2⟩ := hhi _ rfl
    simp only [RV] at r1 r2; subst r1 r2
    obtain ⟨a', n, cap, rfl, rfl, hc, hs'⟩ := hx.cut (lo := a.toNat) (hi := b.toNat) (by omega) (by omega)
    exact ⟨rfl, _, fun w => by rw [run_sliceAt_slice w T _ _ _ _ he2, run_slice_lh w T a' _ cap he2 .i64 .i64 a b hp.1 hp.2.1 (by omega), hsz]; rfl, hs'⟩
  · rename_i b
    simp only [Res.ok.injEq] at h; obtain ⟨rfl, rfl, rfl⟩ := h
    obtain rfl := hlo' rfl
    obtain ⟨u2, rfl, r2⟩ := hhi _ rfl
    simp only [RV] at r2; subst r2
    obtain ⟨a', n, cap, rfl, rfl, hc, hs'⟩ := hx.cut (lo := 0) (hi := b.toNat) (by omega) (by omega)
    exact ⟨rfl, _, fun w => by rw [run_sliceAt_slice w T _ _ _ _ he2, run_slice_h w T a' _ cap he2 .i64 b hp.1 (by omega), hsz]; rfl, hs'⟩
  · rename_i a
    simp only [Res.ok.injEq] at h; obtain ⟨rfl, rfl, rfl⟩ := h
    obtain rfl := hhi' rfl
    obtain ⟨u1, rfl, r1⟩ := hlo _ rfl
    simp only [RV] at r1; subst r1
    obtain ⟨a', n, cap, rfl, rfl, hc, hs'⟩ := hx.cut (lo := a.toNat) (hi := l.length) (by omega) (by omega)
    rw [List.take_length] at hs'
    exact ⟨rfl, _, fun w => by rw [run_sliceAt_slice w T _ _ _ _ he2, run_slice_l w T a' _ cap he2 .i64 a hp.1 hp.2, hsz]; rfl, hs'⟩
  · cases h

theorem slice_ok {c : Cx} {C : Cfg} (ok : CfgOk c.P C) {T : TypeId} {x : AV} {lo hi mx : Option AV} {Hf H H' : List AO} {p : Prop} {v : AV} (h : aSlice C.Γ T x lo hi mx H = .ok p v H') (hp : p)
    {ρ : Nat → Option Value} {w : World} (hH : HR c w ρ Hf) (hsub : ∀ (id : Nat) (o : AO), H[id]? = some o → Hf[id]? = some o)
    {ux : Value} {ulo uhi umx : Option Value} (hx : RV c ρ x ux)
    (hlo : ∀ y, lo = some y → ∃ u, ulo = some u ∧ RV c ρ y u) (hlo' : lo = none → ulo = none)
    (hhi : ∀ y, hi = some y → ∃ u, uhi = some u ∧ RV c ρ y u) (hhi' : hi = none → uhi = none) (hmx' : mx = none → umx = none) :
    H' = H ∧ ∃ u, (Instr.sliceAt T ux ulo uhi umx).run c.P w = .ok u w ∧ RV c ρ v u := by
  obtain ⟨h1, u, h2, h3⟩ := slice_okU ok h hp hH hsub hx hlo hlo' hhi hhi' hmx'
  exact ⟨h1, u, h2 w, h3⟩

theorem extract_ok {c : Cx} {x : AV} {j : Nat} {H H' : List AO} {p : Prop} {v : AV} (h : aExtract x j H = .ok p v H') (hp : p)
    {ρ : Nat → Option Value} {ux : Value} (hx : RV c ρ x ux) (w : World) : H' = H ∧ ∃ u, (Instr.extract ux j).run c.P w = .ok u w ∧ RV c ρ v u := by
  unfold aExtract at h
  split at h <;> try cases h
  simp only [RV] at hx
  obtain ⟨xs, rfl, hr⟩ := hx
  obtain ⟨y, hy, hr'⟩ := hr.at j hp
  exact ⟨rfl, y, by simp [Instr.extract, hy], hr'⟩

theorem foldl_push : ∀ (ns : List Int) (l : List UInt8), ns.foldl (fun r n => r.push (UInt8.ofNat n.toNat)) (ByteArray.mk l.toArray) = ⟨(l ++ ns.map fun n => UInt8.ofNat n.toNat).toArray⟩
  | [], l => by simp
  | n :: ns, l => by
    rw [List.foldl_cons]
    have e : (ByteArray.mk l.toArray).push (UInt8.ofNat n.toNat) = ⟨(l ++ [UInt8.ofNat n.toNat]).toArray⟩ := by simp [ByteArray.push]
    rw [e, foldl_push ns]; simp
theorem convert_ok {c : Cx} {C : Cfg} (ok : CfgOk c.P C) {s d : TypeId} {x : AV} {Hf H H' : List AO} {p : Prop} {v : AV} (h : aConvert C.Γ s d x H = .ok p v H')
    {ρ : Nat → Option Value} {w : World} (hH : HR c w ρ Hf) (hsub : ∀ (id : Nat) (o : AO), H[id]? = some o → Hf[id]? = some o) {ux : Value} (hx : RV c ρ x ux) : H' = H ∧ ∃ u, (convert s d ux).run c.P w = .ok u w ∧ RV c ρ v u := by
  unfold aConvert at h
  split at h <;> try cases h
  · rename_i k _ _ _ k' n hs hd hi
    obtain rfl := hx.int? hi
    obtain ⟨desc, hsd, _⟩ := (ok.types _ _ hs).kd
    have hdd := KdOk.int (ok.types _ _ hd) rfl
    exact ⟨rfl, .int k (k.wrap n), by simp [convert, run_underlying hsd, run_underlying hdd, Conv.intToInt], wrapV_RV _ _⟩
  · rename_i hs hd hi
    unfold aConvStr at h
    split at h <;> try cases h
    rename_i id he
    split at h <;> try cases h
    rename_i E l hid
    have hsd := KdOk.slice (ok.types _ _ hs) rfl
    have hee := KdOk.int (ok.types _ _ he) rfl
    obtain ⟨desc, hdd, hk⟩ := (ok.types _ _ hd).kd
    have hd' : c.P.underlying d = some .string := by cases desc <;> simp_all [KdOk]
    simp only [RV] at hx
    refine ⟨rfl, .string (ofB l), ?_, by simp [RV]⟩
    rcases hH.get hsub hid hx.1 with ⟨rfl, rfl⟩ | ⟨b, cap, cur, rfl, _, hg, _, _, _, ht⟩
    · rw [run_convert_bytes_string w s d _ _ _ _ hsd hee hd']
      rfl
    · rw [run_convert_bytes_string w s d _ _ _ _ hsd hee hd', run_bytesToString w _ _ _ l ?_]
      · have := foldl_push l []
        rw [List.nil_append] at this
        rw [show ByteArray.empty = ByteArray.mk ([] : List UInt8).toArray from rfl, this]; rfl
      · have := run_loadCells_list (P := c.P) (w := w) ⟨b, 0, none⟩ (l.map (Value.int .u8)) (fun j u hu => by
          rw [add_lit, Nat.zero_add, row_cell hg]
          rw [List.getElem?_map] at hu
          cases hl : l[j]? with
          | none => rw [hl] at hu; cases hu
          | some n =>
            rw [hl] at hu; cases hu
            have hj := (List.getElem?_eq_some_iff.1 hl).1
            rw [row_at ht hj, List.getD_eq_getElem?_getD, hl]; rfl)
        rw [List.length_map] at this
        exact this

theorem bget (s : ByteArray) (n : Nat) (h : n < s.size) : s[n] = s.data.toList.getD n 0 := by
  obtain ⟨d⟩ := s
  have h' : n < d.size := h
  show d[n] = _
  rw [List.getD_eq_getElem?_getD, Array.getElem?_toList, Array.getElem?_eq_getElem h']; rfl
theorem index_ok {c : Cx} {C : Cfg} (ok : CfgOk c.P C) {T : TypeId} {x i : AV} {H H' : List AO} {p : Prop} {v : AV} (h : aIndex (C.Γ T) x i H = .ok p v H') (hp : p)
    {ρ : Nat → Option Value} {ux ui : Value} (hx : RV c ρ x ux) (hi : RV c ρ i ui) (w : World) : H' = H ∧ ∃ u, (Instr.index T ux ui).run c.P w = .ok u w ∧ RV c ρ v u := by
  unfold aIndex at h
  split at h <;> try cases h
  rename_i hT
  obtain ⟨desc, hd, hk⟩ := (ok.types _ _ hT).kd
  have hd' : c.P.underlying T = some .string := by cases desc <;> simp_all [KdOk]
  simp only [RV] at hx hi; subst hx hi
  refine ⟨rfl, _, by rw [run_index_string w T _ .i64 _ hd', dif_pos hp], ?_⟩
  simp only [RV]
  rw [bget]

theorem nilCheck_ok {c : Cx} {x : AV} {H H' : List AO} {p : Prop} {v : AV} (h : aNilCheck x H = .ok p v H')
    {ρ : Nat → Option Value} {ux : Value} (hx : RV c ρ x ux) : H' = H ∧ v = x ∧ ((∃ a, ux = .pointer (some a)) ∨ ∃ f caps, ux = .func (.func f) #[] caps) := by
  unfold aNilCheck at h
  split at h <;> try cases h
  all_goals simp only [RV] at hx
  · obtain ⟨b, _, rfl⟩ := hx; exact ⟨rfl, rfl, .inl ⟨_, rfl⟩⟩
  · obtain ⟨b, _, rfl, _⟩ := hx; exact ⟨rfl, rfl, .inl ⟨_, rfl⟩⟩
  · obtain ⟨b, _, _, _, rfl⟩ := hx; exact ⟨rfl, rfl, .inl ⟨_, rfl⟩⟩
  · obtain ⟨xs, rfl, _⟩ := hx; exact ⟨rfl, rfl, .inr ⟨_, _, rfl⟩⟩
  · obtain ⟨f, caps, rfl, _⟩ := hx; exact ⟨rfl, rfl, .inr ⟨_, _, rfl⟩⟩
  · obtain ⟨b, _, _, _, rfl⟩ := hx; exact ⟨rfl, rfl, .inl ⟨_, rfl⟩⟩

theorem row_len {c : Cx} {w : World} {k : IntKind} {E : TypeId} {l : List Int} {v : Value} (h : RowR c w k E l v) : ∃ a cap, v = .slice a l.length cap := by
  rcases h with ⟨rfl, rfl⟩ | ⟨b, cap, cur, rfl, _⟩ <;> exact ⟨_, _, rfl⟩
theorem ro_len {c : Cx} {w : World} {k : IntKind} {l : List Int} {v : Value} (h : RoR c w k l v) : ∃ a cap, v = .slice a l.length cap := by
  rcases h with ⟨rfl, rfl⟩ | ⟨b, o, cap, rfl, _⟩ <;> exact ⟨_, _, rfl⟩
theorem SlR.len {c : Cx} {k : IntKind} {l : List Int} {v : Value} (h : SlR c k l v) : ∃ a cap, v = .slice a l.length cap := by
  rcases h with ⟨rfl, rfl⟩ | ⟨b, o, cap, rfl, _⟩ <;> exact ⟨_, _, rfl⟩

theorem len_ok {c : Cx} {C : Cfg} (ok : CfgOk c.P C) {T ty : TypeId} {x : AV} {Hf H H' : List AO} {p : Prop} {v : AV} (h : aLen (C.Γ T) x H = .ok p v H')
    {ρ : Nat → Option Value} {w : World} (hH : HR c w ρ Hf) (hsub : ∀ (id : Nat) (o : AO), H[id]? = some o → Hf[id]? = some o) {ux : Value} (hx : RV c ρ x ux) :
    H' = H ∧ ∃ u, (Builtin.len_ #[T] ty #[ux]).run c.P w = .ok u w ∧ RV c ρ v u := by
  unfold aLen at h
  split at h
  · rename_i e _ _ _ hT
    have hu := KdOk.slice (ok.types _ _ hT) rfl
    have run : ∀ a (n : Nat) cap, (Builtin.len_ #[T] ty #[.slice a n cap]).run c.P w = .ok (.int .i64 n) w := fun a n cap => by
      simp [Builtin.len_, run_underlying hu, goInt]
    split at h
    · simp only [Res.ok.injEq] at h; obtain ⟨rfl, rfl, rfl⟩ := h
      simp only [RV] at hx; subst hx
      exact ⟨rfl, _, run _ _ _, rfl⟩
    · simp only [Res.ok.injEq] at h; obtain ⟨rfl, rfl, rfl⟩ := h
      simp only [RV] at hx
      obtain ⟨a, cap, rfl⟩ := hx.len
      exact ⟨rfl, _, run _ _ _, rfl⟩
    · simp only [RV] at hx
      split at h
      · rename_i hid
        simp only [Res.ok.injEq] at h; obtain ⟨rfl, rfl, rfl⟩ := h
        obtain ⟨a, cap, rfl⟩ := row_len (hH.get hsub hid hx.1)
        exact ⟨rfl, _, run _ _ _, rfl⟩
      · rename_i hid
        simp only [Res.ok.injEq] at h; obtain ⟨rfl, rfl, rfl⟩ := h
        obtain ⟨a, cap, rfl⟩ := ro_len (hH.get hsub hid hx.1)
        exact ⟨rfl, _, run _ _ _, rfl⟩
      · rename_i hid
        simp only [Res.ok.injEq] at h; obtain ⟨rfl, rfl, rfl⟩ := h
        rcases hH.get hsub hid hx.1 with ⟨rfl, rfl⟩ | ⟨b, cap, cur, rfl, _⟩
        · exact ⟨rfl, _, run _ _ _, rfl⟩
        · exact ⟨rfl, _, run _ _ _, rfl⟩
      · cases h
    · simp only [Res.ok.injEq] at h; obtain ⟨rfl, rfl, rfl⟩ := h
      simp only [RV] at hx
      obtain ⟨a, n, cap, _, _, _, rfl⟩ := hx
      exact ⟨rfl, _, run _ _ _, rfl⟩
    · simp only [Res.ok.injEq] at h; obtain ⟨rfl, rfl, rfl⟩ := h
      simp only [RV] at hx
      rcases hx with ⟨rfl, rfl⟩ | ⟨b, o, cap, rfl, _⟩
      · exact ⟨rfl, _, run _ _ _, rfl⟩
      · exact ⟨rfl, _, run _ _ _, rfl⟩
    · cases h
  · rename_i hT
    obtain ⟨desc, hd, hk⟩ := (ok.types _ _ hT).kd
    have hd' : c.P.underlying T = some .string := by cases desc <;> simp_all [KdOk]
    split at h <;> try cases h
    simp only [RV] at hx; subst hx
    exact ⟨rfl, _, run_len_string w T ty _ hd', rfl⟩
  · cases h

theorem min_ok {c : Cx} {x y : AV} {H H' : List AO} {p : Prop} {v : AV} (h : aMin x y H = .ok p v H') {ρ : Nat → Option Value} {ux uy : Value} (hx : RV c ρ x ux) (hy : RV c ρ y uy)
    (ts : Array TypeId) (ty : TypeId) (w : World) : H' = H ∧ ∃ u, (Builtin.min_ ts ty #[ux, uy]).run c.P w = .ok u w ∧ RV c ρ v u := by
  unfold aMin at h
  split at h <;> try cases h
  simp only [RV] at hx hy; subst hx hy
  exact ⟨rfl, _, run_min_int2 w ts ty _ _ _ _, rfl⟩
theorem max_ok {c : Cx} {x y : AV} {H H' : List AO} {p : Prop} {v : AV} (h : aMax x y H = .ok p v H') {ρ : Nat → Option Value} {ux uy : Value} (hx : RV c ρ x ux) (hy : RV c ρ y uy)
    (ts : Array TypeId) (ty : TypeId) (w : World) : H' = H ∧ ∃ u, (Builtin.max_ ts ty #[ux, uy]).run c.P w = .ok u w ∧ RV c ρ v u := by
  unfold aMax at h
  split at h <;> try cases h
  simp only [RV] at hx hy; subst hx hy
  exact ⟨rfl, _, run_max_int2 w ts ty _ _ _ _, rfl⟩

end Go.Ab
