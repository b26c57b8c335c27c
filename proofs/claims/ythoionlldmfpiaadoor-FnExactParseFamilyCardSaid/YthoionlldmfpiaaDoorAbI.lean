/-
  AN ABSTRACT MACHINE, part I: settings made of parts; what a walk rewrites with.
-/
import Derived.Test.YthoionlldmfpiaaDoorAbH
set_option linter.unusedSimpArgs false
set_option linter.unusedVariables false
namespace Go.Ab
open Go Go.RowKit

theorem tdOk_mk {P : Program} {t : TypeId} {d : TD} {desc : TypeDesc} {z : Value} (h1 : P.underlying t = some desc) (h2 : KdOk desc d.kd)
    (h3 : (P.info? t).map (fun i => (i.size, i.bytes, i.zero)) = some (d.size, d.bytes, some z)) (h4 : z.cells = (d.zero.map cval).toArray) (h5 : d.zero.all AV.closed = true)
    (h6 : ∀ fs, d.kd = .struct fs → ∀ x ∈ fs, ∃ i, P.info? x.2 = some i) (h7 : ∀ k, d.kd = .int k → z = .int k 0) : TdOk P t d := by
  cases hi : P.info? t with
  | none => rw [hi] at h3; cases h3
  | some i =>
    rw [hi] at h3
    simp only [Option.map_some, Option.some.injEq, Prod.mk.injEq] at h3
    exact ⟨⟨desc, h1, h2⟩, ⟨i, z, hi, h3.1, h3.2.1, h3.2.2, h4⟩, h5, h6, fun k hk => ⟨i, hi, by rw [h3.2.2, h7 k hk]⟩⟩

abbrev Tab := List AV → Option (Prop × AV × List AO)

structure Fits (P : Program) (f : Nat) (t : Tab) : Prop where
  callable : Callable P f
  call : ∀ args p out Ho, t args = some (p, out, Ho) → p → ACall P f args out Ho ∧ out.outOk2 = true ∧ Ho.all AO.outOk = true

def look : List (Nat × Tab) → Nat → Tab
  | [], _ => fun _ => none
  | (g, t) :: rest, f => if f = g then t else look rest f
def mk (Γ : TypeId → Option TD) (env : List (Nat × Tab)) : Cfg := ⟨Γ, look env, fun _ _ _ => none⟩
/-! Functions to which objects are lent. -/
abbrev MTab := List AV → List AO → Option (Prop × AV × List AO)
structure FitsM (P : Program) (f : Nat) (t : MTab) : Prop where
  call : ∀ args L p out Ho, t args L = some (p, out, Ho) → p → MOk P f args L out Ho
def lookM : List (Nat × MTab) → Nat → MTab
  | [], _ => fun _ _ => none
  | (g, t) :: rest, f => if f = g then t else lookM rest f
def mk2 (Γ : TypeId → Option TD) (env : List (Nat × Tab)) (envM : List (Nat × MTab)) : Cfg := ⟨Γ, look env, lookM envM⟩
theorem noM_mk (Γ : TypeId → Option TD) (env : List (Nat × Tab)) : (mk Γ env).noM = mk Γ env := rfl
theorem noM_mk2 (Γ : TypeId → Option TD) (env : List (Nat × Tab)) (envM : List (Nat × MTab)) : (mk2 Γ env envM).noM = mk Γ env := rfl
theorem mk2_T (Γ : TypeId → Option TD) (env : List (Nat × Tab)) (envM : List (Nat × MTab)) (f : Nat) : (mk2 Γ env envM).T f = look env f := rfl
theorem mk2_M (Γ : TypeId → Option TD) (env : List (Nat × Tab)) (envM : List (Nat × MTab)) (f : Nat) : (mk2 Γ env envM).M f = lookM envM f := rfl
theorem mk2_Γ (Γ : TypeId → Option TD) (env : List (Nat × Tab)) (envM : List (Nat × MTab)) : (mk2 Γ env envM).Γ = Γ := rfl

theorem cfg_ok {P : Program} {Γ : TypeId → Option TD} {env : List (Nat × Tab)} (h1 : ∀ t d, Γ t = some d → TdOk P t d) (h2 : P.follows .mixedOrders = true) (h3 : ∀ e ∈ env, Fits P e.1 e.2) : CfgOk P (mk Γ env) := by
  refine ⟨h1, fun f args p out Ho h hp => ?_, h2, fun f args L p out Ho h => by cases h⟩
  have key : ∀ env : List (Nat × Tab), (∀ e ∈ env, Fits P e.1 e.2) → look env f args = some (p, out, Ho) → ACall P f args out Ho ∧ out.outOk2 = true ∧ Ho.all AO.outOk = true ∧ Callable P f := by
    intro env
    induction env with
    | nil => intro _ h; cases h
    | cons e env ih =>
      intro hall h
      simp only [look] at h
      split at h
      · rename_i e'
        have g := hall e (by simp)
        obtain ⟨h4, h5, h6⟩ := g.call args p out Ho (by exact h) hp
        rw [e']
        exact ⟨h4, h5, h6, g.callable⟩
      · exact ih (fun e he => hall e (by simp [he])) h
  exact key env h3 h

theorem cfg_ok2 {P : Program} {Γ : TypeId → Option TD} {env : List (Nat × Tab)} {envM : List (Nat × MTab)} (h : CfgOk P (mk Γ env)) (h3 : ∀ e ∈ envM, FitsM P e.1 e.2) : CfgOk P (mk2 Γ env envM) := by
  refine ⟨h.types, h.calls, h.mixed, fun f args L p out Ho h hp => ?_⟩
  have key : ∀ env : List (Nat × MTab), (∀ e ∈ env, FitsM P e.1 e.2) → lookM env f args L = some (p, out, Ho) → MOk P f args L out Ho := by
    intro env
    induction env with
    | nil => intro _ h; cases h
    | cons e env ih =>
      intro hall h
      simp only [lookM] at h
      split at h
      · rename_i e'
        rw [e']
        exact (hall e (by simp)).call args L p out Ho (by exact h) hp
      · exact ih (fun e he => hall e (by simp [he])) h
  exact key envM h3 h

theorem callable_of {P : Program} {f : Nat} {fn : Func} {x : Code} (h1 : P.funcs[f]? = some fn) (h2 : (fn.name == "runtime.NumGoroutine") = false) (h3 : fn.body = some x) : Callable P f := ⟨fn, h1, h2, by rw [h3]; rfl⟩

/-! ### Rewriting -/
theorem nth_zero (x : AV) (xs : List AV) : nth (x :: xs) 0 = x := rfl
theorem nth_succ (x : AV) (xs : List AV) (n : Nat) : nth (x :: xs) (n + 1) = nth xs n := rfl
theorem upd_zero (x : AV) (xs : List AV) (v : AV) : upd (x :: xs) 0 v = v :: xs := rfl
theorem upd_succ (x : AV) (xs : List AV) (n : Nat) (v : AV) : upd (x :: xs) (n + 1) v = x :: upd xs n v := rfl
theorem put_some (s : ASt) (t : Nat) (x : AV) : s.put (some t) x = ⟨upd s.fr t x, s.hp⟩ := rfl
theorem put_none (s : ASt) (x : AV) : s.put none x = s := rfl
theorem ev_tmp (s : ASt) (t : Nat) : s.ev (.tmp t) = nth s.fr t := rfl
theorem ev_int (s : ASt) (n : Int) : s.ev (.const (.int .i64 n)) = .i n := rfl
theorem ev_bool (s : ASt) (b : Bool) : s.ev (.const (.bool b)) = .b b := rfl
theorem ev_nil (s : ASt) : s.ev (.const (.slice none 0 0)) = .nl := rfl
theorem ev_str (s : ASt) (x : ByteArray) : s.ev (.const (.string x)) = .v (.string x) := rfl
theorem ev_func (s : ASt) (f : Nat) : s.ev (.func f) = .fn f [] := rfl
theorem run_ok (p : Prop) (v : AV) (H : List AO) (K : AV → List AO → Prop) : (Res.ok p v H).run K = (p ∧ K v H) := rfl
theorem run_bad (K : AV → List AO → Prop) : Res.bad.run K = False := rfl

/-- A guarded operation. -/
def grd (g : AV) (want : Bool) (yes : Prop) (no : Prop) (un : Prop) : Prop :=
  match g with
  | .un => un
  | .b x => (x = want → yes) ∧ (x = !want → no)
  | _ => False

/-- A region's operations, the slots that they write beside them. -/
def aol (C : Cfg) (ds : List (Option Tmp)) : List Oper → ASt → (ASt → Prop) → Prop
  | [], s, K => K s
  | o :: rest, s, K =>
    match o.guard with
    | none => (aop C o.op s.ev s.hp).run fun v H => aol C ds rest ((⟨s.fr, H⟩ : ASt).put o.dst v) K
    | some (j, want) =>
      match (ds[j]?).bind id with
      | none => False
      | some d => grd (nth s.fr d) want ((aop C o.op ((⟨upd s.fr d (.b want), s.hp⟩ : ASt)).ev s.hp).run fun v H => aol C ds rest ((⟨upd s.fr d (.b want), H⟩ : ASt).put o.dst v) K)
          (aol C ds rest ((⟨upd s.fr d (.b (!want)), s.hp⟩ : ASt).put o.dst .un) K) (aol C ds rest (s.put o.dst .un) K)

theorem aops_of {C : Cfg} {ops : Array Oper} {ds : List (Option Tmp)} (hd : ops.toList.map (·.dst) = ds) {K : ASt → Prop} : ∀ (l : List Oper) (s : ASt), aol C ds l s K → aops C ops l s K
  | [], _, h => h
  | o :: rest, s, h => by
    have run : ∀ {r : Res} {f g : AV → List AO → Prop}, (∀ v H, f v H → g v H) → r.run f → r.run g := fun {r f g} hfg h => by
      cases r with
      | bad => exact h
      | ok p v H => exact ⟨h.1, hfg _ _ h.2⟩
    unfold aol at h
    unfold aops
    cases hg : o.guard with
    | none =>
      simp only [hg] at h ⊢
      exact run (fun v H h => aops_of hd rest _ h) h
    | some jw =>
      obtain ⟨j, want⟩ := jw
      simp only [hg] at h ⊢
      have e : (ops[j]?).bind (fun x => x.dst) = (ds[j]?).bind id := by
        rw [← hd, List.getElem?_map, Array.getElem?_toList]
        cases ops[j]? <;> rfl
      rw [e]
      cases hd2 : (ds[j]?).bind id with
      | none => rw [hd2] at h; exact h
      | some d =>
        simp only [hd2] at h ⊢
        cases hn : nth s.fr d <;> simp only [hn, grd] at h ⊢ <;> first | exact h.elim | skip
        · exact aops_of hd rest _ h
        · exact ⟨fun hx => run (fun v H h => aops_of hd rest _ h) (h.1 hx), fun hx => aops_of hd rest _ (h.2 hx)⟩

/-- The slots that operations write. -/
inductive Dsts : List Oper → List (Option Tmp) → Prop where
  | nil : Dsts [] []
  | cons (dst : Option Tmp) (op : Op) (ty : TypeId) (pos : String) (aft : Array Edge) (g : Option (Nat × Bool)) (rest : List Oper) (ds : List (Option Tmp)) (h : Dsts rest ds) : Dsts (⟨dst, op, ty, pos, aft, g⟩ :: rest) (dst :: ds)
theorem Dsts.eq {l : List Oper} {ds : List (Option Tmp)} (h : Dsts l ds) : l.map (·.dst) = ds := by
  induction h with
  | nil => rfl
  | cons _ _ _ _ _ _ _ _ _ ih => rw [List.map_cons, ih]

/-- The longest stable beginning. -/
def pickN (ops : Array Oper) : Nat → Nat
  | 0 => 0
  | n + 1 => if stableB ops (n + 1) then n + 1 else pickN ops n
def drawA (ops : Array Oper) : Bool := drawB ops (pickN ops ops.size) || drawF ops (pickN ops ops.size)

section
variable {c : Cx} {C : Cfg} {Q : Exit → ASt → Prop} {s : ASt}
theorem awp_reg {id : Nat} {l : List Oper} {ds : List (Option Tmp)} (hd : Dsts l ds) (h : aol C ds l s (Q .normal)) : Awp c C (.region id l.toArray false) Q s := awp_region (aops_of (by simpa using hd.eq) l s h)
theorem awp_drw {id : Nat} {l : List Oper} {ds : List (Option Tmp)} (hB : drawA l.toArray = true) (hd : Dsts l ds) (h : aol C.noM ds l s (Q .normal)) : Awp c C (.region id l.toArray true) Q s :=
  awp_draw _ hB (aops_of (by simpa using hd.eq) l s h)
theorem thn_n (K : ASt → Prop) (s : ASt) : thn K Q .normal s = K s := rfl
theorem thn_r (K : ASt → Prop) (s : ASt) : thn K Q .ret s = Q .ret s := rfl
theorem thn_e (K : ASt → Prop) (s : ASt) (id : Nat) : thn K Q (.exit id) s = Q (.exit id) s := rfl
theorem blk_n (id : Nat) (s : ASt) : blkE id Q .normal s = Q .normal s := rfl
theorem blk_r (id : Nat) (s : ASt) : blkE id Q .ret s = Q .ret s := rfl
theorem blk_e (id : Nat) (s : ASt) : blkE id Q (.exit id) s = Q .normal s := by simp [blkE]
theorem blk_x (id id' : Nat) (h : id' ≠ id) (s : ASt) : blkE id Q (.exit id') s = Q (.exit id') s := by simp [blkE, h]
theorem fin_n {C : Cfg} {rs : List ResultVar} {out : AV} {Ho : List AO} (s : ASt) : Fin C rs out Ho .normal s = FinS C rs out Ho s := rfl
theorem finm_n {m : Nat} {C : Cfg} {rs : List ResultVar} {out : AV} {Ho : List AO} (s : ASt) : FinM m C rs out Ho .normal s = FinSM m C rs out Ho s := rfl
theorem finm_r {m : Nat} {C : Cfg} {rs : List ResultVar} {out : AV} {Ho : List AO} (s : ASt) : FinM m C rs out Ho .ret s = FinSM m C rs out Ho s := rfl
theorem fin_r {C : Cfg} {rs : List ResultVar} {out : AV} {Ho : List AO} (s : ASt) : Fin C rs out Ho .ret s = FinS C rs out Ho s := rfl
end

section
variable {C : Cfg} {ds : List (Option Tmp)} {rest : List Oper} {fr : List AV} {H : List AO} {K : ASt → Prop} {dst : Option Tmp} {d : Tmp} {ty : TypeId} {pos : String} {aft : Array Edge} {op : Op}
theorem aol_nil (s : ASt) : aol C ds [] s K = K s := rfl
theorem aol_some : aol C ds (⟨some d, op, ty, pos, aft, none⟩ :: rest) ⟨fr, H⟩ K = (aop C op (ASt.ev ⟨fr, H⟩) H).run fun v H' => aol C ds rest ⟨upd fr d v, H'⟩ K := rfl
theorem aol_none : aol C ds (⟨none, op, ty, pos, aft, none⟩ :: rest) ⟨fr, H⟩ K = (aop C op (ASt.ev ⟨fr, H⟩) H).run fun _ H' => aol C ds rest ⟨fr, H'⟩ K := rfl
theorem aol_move {x : Operand} : aol C ds (⟨some d, .move x, ty, pos, aft, none⟩ :: rest) ⟨fr, H⟩ K = aol C ds rest ⟨upd fr d (ASt.ev ⟨fr, H⟩ x), H⟩ K := by simp [aol, aop, Res.run, ASt.put]
theorem aol_assign {x : Operand} : aol C ds (⟨some d, .assign x, ty, pos, aft, none⟩ :: rest) ⟨fr, H⟩ K = aol C ds rest ⟨upd fr d (ASt.ev ⟨fr, H⟩ x), H⟩ K := by simp [aol, aop, Res.run, ASt.put]
theorem aol_guard {j : Nat} {want : Bool} : aol C ds (⟨some d, op, ty, pos, aft, some (j, want)⟩ :: rest) ⟨fr, H⟩ K =
    match (ds[j]?).bind id with
    | none => False
    | some g => grd (nth fr g) want ((aop C op (ASt.ev ⟨upd fr g (.b want), H⟩) H).run fun v H' => aol C ds rest ⟨upd (upd fr g (.b want)) d v, H'⟩ K)
        (aol C ds rest ⟨upd (upd fr g (.b (!want))) d .un, H⟩ K) (aol C ds rest ⟨upd fr d .un, H⟩ K) := rfl
theorem grd_un (want : Bool) (p q r : Prop) : grd .un want p q r = r := rfl
theorem grd_b (x want : Bool) (p q r : Prop) : grd (.b x) want p q r = ((x = want → p) ∧ (x = !want → q)) := rfl
theorem grd_tt (p q r : Prop) : grd (.b true) true p q r = p := by simp [grd]
theorem grd_tf (p q r : Prop) : grd (.b true) false p q r = q := by simp [grd]
theorem grd_ft (p q r : Prop) : grd (.b false) true p q r = q := by simp [grd]
theorem grd_ff (p q r : Prop) : grd (.b false) false p q r = p := by simp [grd]

theorem ev_t (t : Nat) : ASt.ev ⟨fr, H⟩ (.tmp t) = nth fr t := rfl
theorem ev_i (n : Int) : ASt.ev ⟨fr, H⟩ (.const (.int .i64 n)) = .i n := rfl
theorem ev_b (b : Bool) : ASt.ev ⟨fr, H⟩ (.const (.bool b)) = .b b := rfl
theorem ev_n : ASt.ev ⟨fr, H⟩ (.const (.slice none 0 0)) = .nl := rfl
theorem ev_s (x : ByteArray) : ASt.ev ⟨fr, H⟩ (.const (.string x)) = .v (.string x) := rfl
theorem ev_f (f : Nat) : ASt.ev ⟨fr, H⟩ (.func f) = .fn f [] := rfl
end

/-! Numbers: what the operations come to at plain integers. -/
theorem wrapV_i (n : Int) : wrapV .i64 n = .i (wrap64 n) := rfl
theorem iv_i (n : Int) : iv .i64 n = .i n := rfl
theorem int_i (n : Int) : (AV.i n).int? = some (.i64, n) := rfl
theorem int_v (k : IntKind) (n : Int) : (AV.v (.int k n)).int? = some (k, n) := rfl
section
variable {T : Option TD} {a b : Int} {p q : Bool} {H : List AO} {K : AV → List AO → Prop}
theorem b_add : (aBin .add T (.i a) (.i b) H).run K = K (.i (wrap64 (a + b))) H := by simp [aBin, AV.int?, Res.run, wrapV]
theorem b_sub : (aBin .sub T (.i a) (.i b) H).run K = K (.i (wrap64 (a - b))) H := by simp [aBin, AV.int?, Res.run, wrapV]
theorem b_mul : (aBin .mul T (.i a) (.i b) H).run K = K (.i (wrap64 (a * b))) H := by simp [aBin, AV.int?, Res.run, wrapV]
theorem b_quo : (aBin .quo T (.i a) (.i b) H).run K = (b ≠ 0 ∧ K (.i (wrap64 (a.tdiv b))) H) := by simp [aBin, AV.int?, Res.run, wrapV]
theorem b_rem : (aBin .rem T (.i a) (.i b) H).run K = (b ≠ 0 ∧ K (.i (a.tmod b)) H) := by simp [aBin, AV.int?, Res.run, iv]
theorem b_and : (aBin .and T (.i a) (.i b) H).run K = K (.i (iand a b)) H := by simp [aBin, AV.int?, Res.run, bitsV]
theorem b_or : (aBin .or T (.i a) (.i b) H).run K = K (.i (ior a b)) H := by simp [aBin, AV.int?, Res.run, bitsV]
theorem b_xor : (aBin .xor T (.i a) (.i b) H).run K = K (.i (ixor a b)) H := by simp [aBin, AV.int?, Res.run, bitsV]
theorem b_andNot : (aBin .andNot T (.i a) (.i b) H).run K = K (.i (iandn a b)) H := by simp [aBin, AV.int?, Res.run, bitsV]
theorem b_eql : (aBin .eql T (.i a) (.i b) H).run K = K (.b (decide (a = b))) H := by simp [aBin, AV.int?, Res.run]
theorem b_neq : (aBin .neq T (.i a) (.i b) H).run K = K (.b (!decide (a = b))) H := by simp [aBin, AV.int?, Res.run]
theorem b_lss : (aBin .lss T (.i a) (.i b) H).run K = K (.b (decide (a < b))) H := by simp [aBin, AV.int?, Res.run]
theorem b_leq : (aBin .leq T (.i a) (.i b) H).run K = K (.b (decide (a ≤ b))) H := by simp [aBin, AV.int?, Res.run]
theorem b_gtr : (aBin .gtr T (.i a) (.i b) H).run K = K (.b (decide (b < a))) H := by simp [aBin, AV.int?, Res.run]
theorem b_geq : (aBin .geq T (.i a) (.i b) H).run K = K (.b (decide (b ≤ a))) H := by simp [aBin, AV.int?, Res.run]
theorem b_shl : (aBin .shl T (.i a) (.i b) H).run K = (0 ≤ b ∧ K (.i (ishl a b)) H) := by simp [aBin, AV.int?, Res.run, shlV]
theorem b_shr : (aBin .shr T (.i a) (.i b) H).run K = (0 ≤ b ∧ K (.i (ishr a b)) H) := by simp [aBin, AV.int?, Res.run, shrV]
theorem b_shlv {k : IntKind} : (aBin .shl T (.i a) (.v (.int k b)) H).run K = (0 ≤ b ∧ K (.i (ishl a b)) H) := by simp [aBin, AV.int?, Res.run, shlV]
theorem b_shrv {k : IntKind} : (aBin .shr T (.i a) (.v (.int k b)) H).run K = (0 ≤ b ∧ K (.i (ishr a b)) H) := by simp [aBin, AV.int?, Res.run, shrV]
theorem u_not : (aUn .not (.b p) H).run K = K (.b (!p)) H := by simp [aUn, Res.run]
theorem u_neg : (aUn .neg (.i a) H).run K = K (.i (wrap64 (0 - a))) H := by simp [aUn, Res.run]
theorem p_t {x y : AV} : (aPick (.b true) x y H).run K = K x H := by simp [aPick, Res.run]
theorem p_f {x y : AV} : (aPick (.b false) x y H).run K = K y H := by simp [aPick, Res.run]
end

/-! ### Loops, by what is kept of the frame -/
def keepFr (ks : List Nat) : Nat → List AV → List AV
  | _, [] => []
  | n, x :: xs => (if n ∈ ks then x else .any) :: keepFr ks (n + 1) xs
def updAll : List AV → List (Nat × AV) → List AV
  | fr, [] => fr
  | fr, (n, x) :: us => updAll (upd fr n x) us
/-- The frame s, of which only the slots ks are kept and those of us hold what us says. -/
def ASt.at (s : ASt) (ks : List Nat) (us : List (Nat × AV)) (H : List AO) : ASt := ⟨updAll (keepFr ks 0 s.fr) us, H⟩

def leFr : List AV → List AV → Prop
  | [], [] => True
  | x :: xs, y :: ys => (x = .any ∨ x = y) ∧ leFr xs ys
  | _, _ => False
/-- s' knows no more than s. -/
def Le (s' s : ASt) : Prop := leFr s'.fr s.fr ∧ s'.hp = s.hp

theorem leFr.spec : ∀ {xs ys : List AV}, leFr xs ys → xs.length = ys.length ∧ ∀ t, nth xs t = .any ∨ nth xs t = nth ys t
  | [], [], _ => ⟨rfl, fun _ => .inl rfl⟩
  | x :: xs, y :: ys, h => by
    obtain ⟨h1, h2⟩ := leFr.spec h.2
    refine ⟨by simp [h1], fun t => ?_⟩
    cases t with
    | zero => exact h.1
    | succ t => exact h2 t
  | [], _ :: _, h => h.elim
  | _ :: _, [], h => h.elim

theorem Rel.le {c : Cx} {s s' : ASt} {a : Act} {w : World} {ρ : Nat → Option Value} (h : Rel c s a w ρ) (hl : Le s' s) : Rel c s' a w ρ := by
  obtain ⟨h1, h2⟩ := leFr.spec hl.1
  refine ⟨fun t => ?_, by rw [h1]; exact h.len, h.defers, by rw [hl.2]; exact h.hp, h.keep, h.lent⟩
  rcases h2 t with e | e
  · rw [e]; trivial
  · rw [e]; exact h.fr t

section
variable {c : Cx} {C : Cfg} {Q : Exit → ASt → Prop} {s : ASt}
theorem awp_le {x : Code} (s' : ASt) (hl : Le s' s) (h : Awp c C x Q s') : Awp c C x Q s := ⟨fun ok a w ρ hr => h.run ok a w ρ (hr.le hl)⟩

theorem awp_for {ι : Type} (S : ASt → ι → ASt) (V : ι → Prop) (μ : ι → Nat) {x : Code} (i0 : ι) (h0 : V i0) (hs : Le (S s i0) s)
    (round : ∀ i, V i → Awp c C x (thn (fun s' => ∃ j, V j ∧ μ j < μ i ∧ Le (S s j) s') Q) (S s i)) : Awp c C (.loop x) Q s := by
  refine ⟨fun ok a w ρ hr => ?_⟩
  have key : ∀ (n : Nat) (i : ι) (a : Act) (w : World) (ρ : Nat → Option Value), V i → μ i < n → Rel c (S s i) a w ρ →
      Code.rounds c.P x (fun e a' w' => ∃ s' ρ', Q e s' ∧ Rel c s' a' w' ρ') n a w := by
    intro n
    induction n with
    | zero => intro i a w ρ _ h; omega
    | succ n ih =>
      intro i a w ρ hi hn hr
      rw [rounds_succ]
      refine Code.wp_mono (fun e a' w' ⟨s', ρ', h1, h2⟩ => ?_) ((round i hi).run ok a w ρ hr)
      cases e
      case normal =>
        obtain ⟨j, h3, h4, h5⟩ := h1
        exact ih j a' w' ρ' h3 (by omega) (h2.le h5)
      all_goals exact ⟨s', ρ', h1, h2⟩
  exact wp_loop_rounds (μ i0 + 1) (key _ i0 a w ρ h0 (by omega) (hr.le hs))
end

/-! ### Loops that make objects: at the head of a round they are numbered anew -/
def AV.rnb0 (σ : List Nat) : AV → AV
  | .own j => .own (σ.getD j 0)
  | .eo j k => .eo (σ.getD j 0) k
  | .bp j off => .bp (σ.getD j 0) off
  | .vw j lo hi => .vw (σ.getD j 0) lo hi
  | .ec j wd k f => .ec (σ.getD j 0) wd k f
  | x => x
def AV.rnb (σ : List Nat) : AV → AV
  | .ag cs => .ag (cs.map (AV.rnb0 σ))
  | .fn f cs => .fn f (cs.map (AV.rnb0 σ))
  | x => x.rnb0 σ
def AO.rnb (σ : List Nat) : AO → AO
  | .box T cs => .box T (cs.map (AV.rnb0 σ))
  | o => o
def AV.bas0 (n : Nat) : AV → Bool
  | .own j => decide (j < n)
  | .eo j _ => decide (j < n)
  | .bp j _ => decide (j < n)
  | .vw j _ _ => decide (j < n)
  | .ec j _ _ _ => decide (j < n)
  | .ag _ => false
  | .tu _ => false
  | .fn _ _ => false
  | _ => true
def AV.bas (n : Nat) : AV → Bool
  | .ag cs => cs.all (AV.bas0 n)
  | .fn _ cs => cs.all (AV.bas0 n)
  | x => x.bas0 n
def AO.bas (n : Nat) : AO → Bool
  | .box _ cs => cs.all (AV.bas0 n)
  | _ => true

section
variable {c : Cx} {w : World} {ρ : Nat → Option Value} {σ : List Nat}
theorem pull_at {j : Nat} (h : j < σ.length) : pull ρ σ j = ρ (σ.getD j 0) := by
  unfold pull
  rw [List.getD_eq_getElem?_getD, List.getElem?_eq_getElem h]; rfl
theorem RV.unrnb0 {x : AV} {v : Value} (hb : x.bas0 σ.length = true) (h : RV c ρ (x.rnb0 σ) v) : RV c (pull ρ σ) x v := by
  cases x <;> simp only [AV.bas0, decide_eq_true_eq, Bool.false_eq_true] at hb <;> simp only [AV.rnb0, RV] at h ⊢
  case i => exact h
  case b => exact h
  case v => exact h
  case un => exact h
  case nl => exact h
  case sl => exact h
  case ref => exact h
  case fv => exact h
  case own j => rw [pull_at hb]; exact h
  case eo j k => rw [pull_at hb]; exact h
  case bp j off => rw [pull_at hb]; exact h
  case vw j lo hi => rw [pull_at hb]; exact h
  case ec j wd k f => rw [pull_at hb]; exact h
  case sc => exact h
theorem RVs.unrnb0 : ∀ {xs : List AV} {vs : List Value}, xs.all (AV.bas0 σ.length) = true → RVs c ρ (xs.map (AV.rnb0 σ)) vs → RVs c (pull ρ σ) xs vs
  | [], _, _, r => r
  | x :: xs, _, hb, r => by
    simp only [List.all_cons, Bool.and_eq_true] at hb
    simp only [RVs, List.map_cons] at r ⊢; obtain ⟨y, ys, h1, h2, h3⟩ := r
    exact ⟨y, ys, h1, RV.unrnb0 hb.1 h2, RVs.unrnb0 hb.2 h3⟩
theorem RV.unrnb {x : AV} {v : Value} (hb : x.bas σ.length = true) (h : RV c ρ (x.rnb σ) v) : RV c (pull ρ σ) x v := by
  cases x
  case ag cs => simp only [AV.rnb, AV.bas, RV] at h hb ⊢; obtain ⟨xs, h1, h2⟩ := h; exact ⟨xs, h1, RVs.unrnb0 hb h2⟩
  case fn f cs => simp only [AV.rnb, AV.bas, RV] at h hb ⊢; obtain ⟨xs, h1, h2⟩ := h; exact ⟨xs, h1, RVs.unrnb0 hb h2⟩
  all_goals (simp only [AV.rnb, AV.bas] at h hb; exact RV.unrnb0 hb h)

theorem HR.unrnb {H H2 : List AO} (hH : HR c w ρ H) (hnd : σ.Nodup) (hm : σ.map (fun i => H[i]?) = H2.map (fun o => some (o.rnb σ))) (hb : H2.all (AO.bas σ.length) = true) : HR c w (pull ρ σ) H2 := by
  have get : ∀ (j i : Nat), σ[j]? = some i → ∃ o, H2[j]? = some o ∧ H[i]? = some (o.rnb σ) := fun j i hj => by
    have h1 : (σ.map (fun i => H[i]?))[j]? = (H2.map (fun o => some (o.rnb σ)))[j]? := by rw [hm]
    rw [List.getElem?_map, List.getElem?_map, hj] at h1
    cases ho : H2[j]? with
    | none => rw [ho] at h1; cases h1
    | some o => rw [ho] at h1; simp at h1; exact ⟨o, rfl, h1⟩
  have und : ∀ j x, pull ρ σ j = some x → ∃ i, σ[j]? = some i ∧ ρ i = some x := fun j x h => by
    unfold pull at h
    cases hj : σ[j]? with
    | none => rw [hj] at h; cases h
    | some i => rw [hj] at h; exact ⟨i, rfl, h⟩
  refine ⟨fun j x hx => ?_, fun j k x y oj ok' hjk hj hk hoj hok' lj lk hmm b hb1 hb2 => ?_⟩
  · obtain ⟨i, hi, hρ⟩ := und j x hx
    obtain ⟨o, ho, hs⟩ := get j i hi
    obtain ⟨o', ho', hr⟩ := hH.obj i x hρ
    rw [hs] at ho'; cases ho'
    refine ⟨o, ho, ?_⟩
    have h2 := (List.all_eq_true.1 hb) o (List.mem_of_getElem? ho)
    cases o with
    | dead => trivial
    | row k E l => exact hr
    | ro k l => exact hr
    | rc E wd rs => exact hr
    | box T cs =>
      obtain ⟨b, xs, rfl, h0, hg, r⟩ := hr
      exact ⟨b, xs, rfl, h0, hg, RVs.unrnb0 h2 r⟩
  · obtain ⟨i, hi, hρ⟩ := und j x hj
    obtain ⟨i', hi', hρ'⟩ := und k y hk
    obtain ⟨o1, ho1, hs1⟩ := get j i hi
    obtain ⟨o2, ho2, hs2⟩ := get k i' hi'
    rw [hoj] at ho1; cases ho1
    rw [hok'] at ho2; cases ho2
    have live : ∀ o : AO, (o.rnb σ).live = o.live ∧ (o.rnb σ).mut = o.mut := fun o => by cases o <;> exact ⟨rfl, rfl⟩
    refine hH.sep i i' x y _ _ (fun e => ?_) hρ hρ' hs1 hs2 (by rw [(live _).1]; exact lj) (by rw [(live _).1]; exact lk) (by rw [(live _).2, (live _).2]; exact hmm) b hb1 hb2
    subst e
    have e1 := (List.getElem?_eq_some_iff.1 hi).2
    have e2 := (List.getElem?_eq_some_iff.1 hi').2
    exact hjk ((List.getElem_inj hnd).1 (e1.trans e2.symm))
end

/-- s' reads as s2, its objects numbered anew by σ; the first m keep their numbers. -/
structure LeR (m : Nat) (s2 s' : ASt) (σ : List Nat) : Prop where
  nd : nodupB σ = true
  low : σ.take m = List.range m
  fr : leFr (s2.fr.map (AV.rnb σ)) s'.fr
  hp : σ.map (fun i => s'.hp[i]?) = s2.hp.map (fun o => some (o.rnb σ))
  b1 : s2.fr.all (AV.bas σ.length) = true
  b2 : s2.hp.all (AO.bas σ.length) = true

theorem nth_map_rnb (σ : List Nat) : ∀ (l : List AV) (t : Nat), nth (l.map (AV.rnb σ)) t = (nth l t).rnb σ
  | [], _ => rfl
  | _ :: _, 0 => rfl
  | _ :: l, t + 1 => nth_map_rnb σ l t
theorem nth_bas {n : Nat} : ∀ (l : List AV) (t : Nat), l.all (AV.bas n) = true → (nth l t).bas n = true
  | [], _, _ => rfl
  | _ :: _, 0, h => by simp only [List.all_cons, Bool.and_eq_true] at h; exact h.1
  | _ :: l, t + 1, h => by simp only [List.all_cons, Bool.and_eq_true] at h; exact nth_bas l t h.2
theorem rnb_any {σ : List Nat} {x : AV} (h : x.rnb σ = .any) : x = .any := by cases x <;> simp_all [AV.rnb, AV.rnb0]
theorem Rel.ler {c : Cx} {m : Nat} {s2 s' : ASt} {σ : List Nat} {a : Act} {w : World} {ρ : Nat → Option Value} (hL : ∀ j x, c.L j = some x → j < m) (h : LeR m s2 s' σ) (hr : Rel c s' a w ρ) : Rel c s2 a w (pull ρ σ) := by
  obtain ⟨h1, h2⟩ := leFr.spec h.fr
  refine ⟨fun t => ?_, by rw [← hr.len, ← h1, List.length_map], hr.defers, hr.hp.unrnb (nodupB_spec h.nd) h.hp h.b2, hr.keep, fun j x hj => ?_⟩
  · refine RV.unrnb (nth_bas _ t h.b1) ?_
    have := h2 t
    rw [nth_map_rnb] at this
    rcases this with e | e
    · rw [e]; trivial
    · rw [e]; exact hr.fr t
  · have hjm := hL j x hj
    have e : σ[j]? = some j := by
      have : (σ.take m)[j]? = (List.range m)[j]? := by rw [h.low]
      rwa [List.getElem?_take, if_pos hjm, List.getElem?_range hjm] at this
    unfold pull
    rw [e]
    exact hr.lent j x hj

theorem awp_forR {c : Cx} {C : Cfg} {Q : Exit → ASt → Prop} {s : ASt} {ι : Type} (m : Nat) (hL : ∀ j x, c.L j = some x → j < m) (S : ASt → ι → ASt) (V : ι → Prop) (μ : ι → Nat) {x : Code} (i0 : ι) (h0 : V i0) (hs : ∃ σ, LeR m (S s i0) s σ)
    (round : ∀ i, V i → Awp c C x (thn (fun s' => ∃ j, V j ∧ μ j < μ i ∧ ∃ σ, LeR m (S s j) s' σ) Q) (S s i)) : Awp c C (.loop x) Q s := by
  refine ⟨fun ok a w ρ hr => ?_⟩
  have key : ∀ (n : Nat) (i : ι) (a : Act) (w : World) (ρ : Nat → Option Value), V i → μ i < n → Rel c (S s i) a w ρ →
      Code.rounds c.P x (fun e a' w' => ∃ s' ρ', Q e s' ∧ Rel c s' a' w' ρ') n a w := by
    intro n
    induction n with
    | zero => intro i a w ρ _ h; omega
    | succ n ih =>
      intro i a w ρ hi hn hr
      rw [rounds_succ]
      refine Code.wp_mono (fun e a' w' ⟨s', ρ', h1, h2⟩ => ?_) ((round i hi).run ok a w ρ hr)
      cases e
      case normal =>
        obtain ⟨j, h3, h4, σ, h5⟩ := h1
        exact ih j a' w' _ h3 (by omega) (h2.ler hL h5)
      all_goals exact ⟨s', ρ', h1, h2⟩
  obtain ⟨σ, hs⟩ := hs
  exact wp_loop_rounds (μ i0 + 1) (key _ i0 a w _ h0 (by omega) (hr.ler hL hs))

/-! ### Calls, rewritten -/
section
variable {C : Cfg} {f : Nat} {caps args : List AV} {H : List AO} {K : AV → List AO → Prop}
def after (r : Option (Prop × AV × List AO)) (H : List AO) (K : AV → List AO → Prop) (L : Prop) : Prop :=
  match r with
  | some (p, out, Ho) => p ∧ K (out.shift H.length) (H ++ Ho.map (AO.shift H.length))
  | none => L
def lendRun (C : Cfg) (f : Nat) (xs : List AV) (H : List AO) (K : AV → List AO → Prop) (js : List Nat) : Prop := (aLendJ C f xs H js).run K
def afterM (r : Option (Prop × AV × List AO)) (H : List AO) (K : AV → List AO → Prop) (js : List Nat) : Prop :=
  match r with
  | some (p, out, Ho) => (lendOk H js = true ∧ p) ∧ K (out.ren (lendσ js H.length Ho.length)) (lendBack (lendσ js H.length Ho.length) js Ho H)
  | none => False
theorem call_fn : (aCall C (.fn f caps) args H).run K = after (C.T f (args.map (frz H) ++ caps.map (frz1 H))) H K (lendRun C f (args ++ caps) H K (lendIds H (args ++ caps))) := by
  unfold aCall after lendRun aLend
  simp only
  split <;> rename_i h <;> simp only [h] <;> rfl
theorem after_nil (p : Prop) (out : AV) (L : Prop) : after (some (p, out, [])) H K L = (p ∧ K (out.shift H.length) H) := by simp [after]
theorem after_none (L : Prop) : after none H K L = L := rfl
theorem lend_nil (xs : List AV) : lendRun C f xs H K [] = afterM (C.M f (xs.map (AV.pos1 [])) []) H K [] := by
  unfold lendRun aLendJ afterM
  split <;> rename_i h <;> simp only [lent] at h <;> simp only [h] <;> rfl
theorem lend_cons (xs : List AV) (i : Nat) (is : List Nat) : lendRun C f xs H K (i :: is) = afterM (C.M f (xs.map (AV.pos1 (i :: is))) (lent H (i :: is) (i :: is))) H K (i :: is) := by
  unfold lendRun aLendJ afterM
  split <;> rename_i h <;> simp only [h] <;> rfl
theorem afterM_some (p : Prop) (out : AV) (Ho : List AO) (js : List Nat) : afterM (some (p, out, Ho)) H K js = ((lendOk H js = true ∧ p) ∧ K (out.ren (lendσ js H.length Ho.length)) (lendBack (lendσ js H.length Ho.length) js Ho H)) := rfl
end
theorem mk_T (Γ : TypeId → Option TD) (env : List (Nat × Tab)) (f : Nat) : (mk Γ env).T f = look env f := rfl
theorem mk_Γ (Γ : TypeId → Option TD) (env : List (Nat × Tab)) : (mk Γ env).Γ = Γ := rfl
theorem shift_i (n : Int) (m : Nat) : (AV.i n).shift m = .i n := rfl
theorem shift_b (x : Bool) (m : Nat) : (AV.b x).shift m = .b x := rfl
theorem shift_v (x : Value) (m : Nat) : (AV.v x).shift m = .v x := rfl
theorem shift_un (m : Nat) : AV.un.shift m = .un := rfl
theorem shift_own (j m : Nat) : (AV.own j).shift m = .own (j + m) := rfl
theorem shift_ag (cs : List AV) (m : Nat) : (AV.ag cs).shift m = .ag (cs.map (AV.shift0 m)) := rfl
theorem shift_tu (cs : List AV) (m : Nat) : (AV.tu cs).shift m = .tu (cs.map (AV.shift1 m)) := rfl
theorem frz_i (H : List AO) (n : Int) : frz H (.i n) = .i n := rfl
theorem frz_b (H : List AO) (x : Bool) : frz H (.b x) = .b x := rfl
theorem frz_v (H : List AO) (x : Value) : frz H (.v x) = .v x := rfl
theorem frz_sl (H : List AO) (k : IntKind) (l : List Int) : frz H (.sl k l) = .sl k l := rfl
theorem frz_nl (H : List AO) : frz H .nl = .sl .i64 [] := rfl
theorem frz_ref (H : List AO) (cs : List AV) : frz H (.ref cs) = .ref cs := rfl
theorem frz_fv (H : List AO) (g : List Int → Option Value) : frz H (.fv g) = .fv g := rfl
theorem frz_ag (H : List AO) (cs : List AV) : frz H (.ag cs) = .ag (cs.map (frz0 H)) := rfl
theorem frz_fn (H : List AO) (f : Nat) (cs : List AV) : frz H (.fn f cs) = .fn f (cs.map (frz1 H)) := rfl
theorem frz_vw (H : List AO) (id lo hi : Nat) : frz H (.vw id lo hi) = frz0 H (.vw id lo hi) := rfl
theorem frz_sc (H : List AO) (wd : Nat) (rs : List (List Value)) : frz H (.sc wd rs) = .sc wd rs := rfl
theorem frz_own (H : List AO) (id : Nat) : frz H (.own id) = frz0 H (.own id) := rfl
theorem frz_bp (H : List AO) (id off : Nat) : frz H (.bp id off) = frz1 H (.bp id off) := rfl

/-! ### How long what comes in is -/
def AV.lenOk : AV → Prop
  | .sl _ l => l.length ≤ 9223372036854775807
  | .ag [_, .sl _ l] => l.length ≤ 9223372036854775807
  | .ref [.sl _ l] => l.length ≤ 9223372036854775807
  | .ref [_, .sl _ l] => l.length ≤ 9223372036854775807
  | _ => True
def lensOk : List AV → Prop
  | [] => True
  | x :: xs => x.lenOk ∧ lensOk xs

theorem SlR.lenOk {c : Cx} {k : IntKind} {l : List Int} {v : Value} (h : SlR c k l v) : l.length ≤ 9223372036854775807 := by
  rcases h with ⟨_, rfl⟩ | ⟨b, o, cap, _, h1, h2, _⟩
  · simp
  · unfold maxLen at h2; omega
theorem RV.lenOk {c : Cx} {ρ : Nat → Option Value} {x : AV} {v : Value} (h : RV c ρ x v) : x.lenOk := by
  unfold AV.lenOk
  split
  · simp only [RV] at h; exact SlR.lenOk h
  · simp only [RV, RVs] at h
    obtain ⟨xs, _, y, ys, _, _, z, zs, _, h, _⟩ := h
    exact SlR.lenOk h
  · simp only [RV, RCells] at h
    obtain ⟨b, o, _, ⟨_, y, _, h⟩, _⟩ := h
    exact SlR.lenOk h
  · simp only [RV, RCells] at h
    obtain ⟨b, o, _, _, ⟨_, y, _, h⟩, _⟩ := h
    exact SlR.lenOk h
  · trivial
theorem RVs.lensOk {c : Cx} {ρ : Nat → Option Value} : ∀ {xs : List AV} {vs : List Value}, RVs c ρ xs vs → lensOk xs
  | [], _, _ => trivial
  | _ :: _, _, h => by simp only [RVs] at h; obtain ⟨y, ys, _, h1, h2⟩ := h; exact ⟨h1.lenOk, RVs.lensOk h2⟩

/-- How long what is lent is. -/
def AV.lenIn (L : List AO) : AV → Prop
  | .own j => match L[j]? with | some (.row _ _ l) => l.length ≤ 9223372036854775807 | _ => True
  | .ag [_, .own j] => match L[j]? with | some (.row _ _ l) => l.length ≤ 9223372036854775807 | _ => True
  | x => x.lenOk
def lensIn (L : List AO) : List AV → Prop
  | [] => True
  | x :: xs => x.lenIn L ∧ lensIn L xs
theorem HR.lenIn {c : Cx} {w : World} {ρ : Nat → Option Value} {L : List AO} (hH : HR c w ρ L) {j : Nat} {v : Value} (h : RV c ρ (.own j) v) : match L[j]? with | some (.row _ _ l) => l.length ≤ 9223372036854775807 | _ => True := by
  simp only [RV] at h
  obtain ⟨o, ho, hr⟩ := hH.obj j v h.1
  rw [ho]
  cases o with
  | row k E l =>
    rcases hr with ⟨_, rfl⟩ | ⟨b, cap, cur, _, _, _, h1, h2, _⟩
    · simp
    · show l.length ≤ 9223372036854775807
      unfold maxLen at h2; omega
  | _ => trivial
theorem RV.lenIn {c : Cx} {w : World} {ρ : Nat → Option Value} {L : List AO} (hH : HR c w ρ L) {x : AV} {v : Value} (h : RV c ρ x v) : x.lenIn L := by
  unfold AV.lenIn
  split
  · exact hH.lenIn h
  · simp only [RV, RVs] at h
    obtain ⟨xs, _, y, ys, _, _, z, zs, _, h, _⟩ := h
    exact hH.lenIn (v := z) (by simp only [RV]; exact h)
  · exact h.lenOk
theorem RVs.lensIn {c : Cx} {w : World} {ρ : Nat → Option Value} {L : List AO} (hH : HR c w ρ L) : ∀ {xs : List AV} {vs : List Value}, RVs c ρ xs vs → lensIn L xs
  | [], _, _ => trivial
  | _ :: _, _, h => by simp only [RVs] at h; obtain ⟨y, ys, _, h1, h2⟩ := h; exact ⟨h1.lenIn hH, RVs.lensIn hH h2⟩

theorem mok_by {P : Program} {C : Cfg} {f : FuncId} {fn : Func} {x : Code} {args : List AV} {L : List AO} {out : AV} {Ho : List AO} (ok : CfgOk P C) (hc : Callable P f) (hf : P.funcs[f]? = some fn) (hb : fn.body = some x)
    (h1 : out.outOk2M = true) (h2 : out.lt Ho.length = true) (h3 : Ho.all AO.outOkM = true) (h4 : Ho.all (AO.lt Ho.length) = true) (hl : L.length ≤ Ho.length)
    (h : lensIn L args → ∀ c : Cx, c.P = P → (∀ j x, c.L j = some x → j < L.length) → Awp c C x (FinM L.length C fn.results.toList out Ho) ⟨args ++ List.replicate (fn.ntmps - args.length) .un, L⟩) : MOk P f args L out Ho :=
  ⟨fun w ρ N vs hkw hvs hHL => mcall_of ok hf hb h1 h2 h3 h4 (h (hvs.lensIn hHL)) w ρ N vs hkw hvs hHL, h1, h2, h3, h4, hl, hc⟩

/-- A function's contract, by its body; the lengths that came in are known. -/
theorem acall_by {P : Program} {C : Cfg} {f : FuncId} {fn : Func} {x : Code} {args : List AV} {out : AV} {Ho : List AO} (ok : CfgOk P C) (hf : P.funcs[f]? = some fn) (hb : fn.body = some x)
    (h1 : out.outOk2 = true) (h2 : out.lt Ho.length = true) (h3 : Ho.all AO.outOk = true) (h4 : Ho.all (AO.lt Ho.length) = true)
    (h : lensOk args → ∀ c : Cx, c.P = P → (∀ j x, c.L j = some x → j < 0) → Awp c C x (Fin C fn.results.toList out Ho) ⟨args ++ List.replicate (fn.ntmps - args.length) .un, []⟩) : ACall P f args out Ho := by
  intro w vs hgw hvs
  exact acall_of ok hf hb h1 h2 h3 h4 (h hvs.lensOk) w vs hgw hvs

/-! ### Ends -/
theorem fin_keep {C : Cfg} {rs : List ResultVar} {out : AV} {Ho : List AO} {s : ASt} (h : FinS C rs out Ho s) : FinS C rs out Ho s := h
theorem fin_tmp {C : Cfg} {t : Tmp} {out : AV} {s : ASt} (hr : out.ren [] = out) (h : nth s.fr t = out) : FinS C [.tmp t] out [] s :=
  ⟨s, Wk.refl s, _, _, rfl, ⟨trivial, trivial⟩, [], List.nodup_nil, by rw [hr, ← h], rfl⟩
theorem fin_tmp2 {C : Cfg} {t u : Tmp} {x y : AV} {s : ASt} (hr : (AV.tu [x, y]).ren [] = .tu [x, y]) (h : nth s.fr t = x) (h' : nth s.fr u = y) : FinS C [.tmp t, .tmp u] (.tu [x, y]) [] s :=
  ⟨s, Wk.refl s, _, _, rfl, ⟨trivial, trivial, trivial⟩, [], List.nodup_nil, by rw [hr, ← h, ← h'], rfl⟩

/-! ### Plain functions on numbers -/
/-- n lies between a and b. -/
def inR (n a b : Int) : Bool := decide (a ≤ n) && decide (n ≤ b)
theorem inR_iff {n a b : Int} : (inR n a b = true) = (a ≤ n ∧ n ≤ b) := by simp [inR]
theorem inR_not {n a b : Int} : (inR n a b = false) = ¬ (a ≤ n ∧ n ≤ b) := by rw [← inR_iff]; simp
/-- s is a set of n elements. -/
def isSet (n s : Int) : Bool := decide (0 ≤ s) && decide (s < 2 ^ n.toNat)
theorem isSet_iff {n s : Int} : (isSet n s = true) = (0 ≤ s ∧ s < 2 ^ n.toNat) := by simp [isSet]
theorem isSet_not {n s : Int} : (isSet n s = false) = ¬ (0 ≤ s ∧ s < 2 ^ n.toNat) := by rw [← isSet_iff]; simp

theorem pow_le62 {n : Nat} (h : n ≤ 62) : (2 : Int) ^ n ≤ 4611686018427387904 := by
  have : (2 : Nat) ^ n ≤ 2 ^ 62 := Nat.pow_le_pow_right (by omega) h
  have h2 : ((2 ^ n : Nat) : Int) ≤ ((2 ^ 62 : Nat) : Int) := Int.ofNat_le.2 this
  simpa using h2
theorem pow_pos' (n : Nat) : (0 : Int) < 2 ^ n := Int.pow_pos (by omega)
theorem wrap64_id {n : Int} (h1 : -9223372036854775808 ≤ n) (h2 : n ≤ 9223372036854775807) : wrap64 n = n := by unfold wrap64; omega
theorem ishl_one {n : Int} (h0 : 0 ≤ n) (h : n ≤ 62) : ishl 1 n = 2 ^ n.toNat := by
  have h1 : min n.toNat 64 = n.toNat := by omega
  have h2 := pow_le62 (n := n.toNat) (by omega)
  have h3 := pow_pos' n.toNat
  unfold ishl shlK
  rw [IntKind.wrap_i64]
  simp only [IntKind.bits, h1, Int.one_mul]
  have := wrap64_id (n := 2 ^ n.toNat) (by omega) (by omega)
  unfold wrap64 at this
  exact this
theorem u64_id {n : Int} (h0 : 0 ≤ n) (h : n ≤ 9223372036854775807) : IntKind.u64.wrap n = n := IntWalk.u64_in _ (by omega)

end Go.Ab
