import Derived.Test.YthoionlldmfpiaaGreatHs
import Derived.Test.YthoionlldmfpiaaGreatT19
set_option linter.unusedSimpArgs false
set_option linter.unusedVariables false
set_option maxHeartbeats 2000000
namespace Go.Proofs.YthoionlldmfpiaaGreat
open Go Go.Ab
attribute [local irreducible] aol
def byteH (h : Int) : Int := RowKit.wrap64 (RowKit.wrap64 (h * 6364136223846793005) + 1442695040888963407)
def byteA (h : Int) : Int := iand (ixor (ishr (byteH h) 33) (ishr (byteH h) 45)) 255
def byteX (b : List Int) (s : Nat × Int) : Int :=
  if s.1 < b.length then iand (RowKit.wrap64 (byteA s.2 + RowKit.wrap64 (b.getD s.1 0))) 255 else byteA s.2
def byteS (b : List Int) (s : Nat × Int) : Nat × Int := (if s.1 < b.length then s.1 + 1 else s.1, byteH s.2)
theorem iand_255 (a : Int) : 0 ≤ iand a 255 ∧ iand a 255 ≤ 255 := by
  have h : (BitVec.ofInt 64 a &&& BitVec.ofInt 64 255).toNat ≤ 255 := by
    rw [BitVec.toNat_and]
    exact Nat.le_trans Nat.and_le_right (by decide)
  have e : iand a 255 = ((BitVec.ofInt 64 a &&& BitVec.ofInt 64 255).toNat : Int) := by
    show IntKind.i64.wrap (((BitVec.ofInt 64 a &&& BitVec.ofInt 64 255).toNat : Nat) : Int) = _
    exact wrap_nat (Nat.lt_of_le_of_lt h (by decide))
  rw [e]
  constructor <;> omega
theorem byteX_bd (b : List Int) (s : Nat × Int) : 0 ≤ byteX b s ∧ byteX b s ≤ 255 := by
  unfold byteX; split
  · exact iand_255 _
  · exact iand_255 _
def fourX (b : List Int) (s : Nat × Int) : Int := byteX b s * 16777216 + byteX b (byteS b s) * 65536 + byteX b (byteS b (byteS b s)) * 256 + byteX b (byteS b (byteS b (byteS b s)))
def belowX (b : List Int) (n : Int) (s : Nat × Int) : Int := if n ≤ 0 then 0 else if n ≤ 256 then (byteX b s).tmod n else (fourX b s).tmod n
def belowS (b : List Int) (n : Int) (s : Nat × Int) : Nat × Int := if n ≤ 0 then s else if n ≤ 256 then byteS b s else byteS b (byteS b (byteS b (byteS b s)))
theorem tmod_bd {x n : Int} (hx : 0 ≤ x) (hn : 0 < n) : 0 ≤ x.tmod n ∧ x.tmod n < n :=
  ⟨Int.tmod_nonneg n hx, Int.tmod_lt_of_pos x hn⟩
theorem belowX_bd (b : List Int) {n : Int} (hn : 0 < n) (s : Nat × Int) : 0 ≤ belowX b n s ∧ belowX b n s < n := by
  have h1 := byteX_bd b s
  have h2 := byteX_bd b (byteS b s)
  have h3 := byteX_bd b (byteS b (byteS b s))
  have h4 := byteX_bd b (byteS b (byteS b (byteS b s)))
  unfold belowX
  rw [if_neg (by omega)]
  split
  · exact tmod_bd h1.1 hn
  · exact tmod_bd (by unfold fourX; omega) hn
def onceX (b : List Int) (n : Int) (s : Nat × Int) : Bool := decide (belowX b n s = 0)
def pickX (b l : List Int) (s : Nat × Int) : Int := l.getD (belowX b l.length s).toNat 0
def newH (b : List Int) : Nat → Int
  | 0 => 10101 + (b.length : Int)
  | k + 1 => iand (RowKit.wrap64 (RowKit.wrap64 (RowKit.wrap64 (newH b k * 131) + RowKit.wrap64 (b.getD k 0)) + 7)) 1073741823
def newV (b : List Int) : Nat × Int := (0, newH b (min b.length 4000))
def tBig : Tab
  | [.sl .u8 b] => some (True, .b (decide (1048576 < (b.length : Int))), [])
  | _ => none
theorem big_ok : Fits Tryz.prog 4 tBig := by
  refine ⟨callable_of Tryz.func4 (by kernel_rfl) rfl, ?_⟩
  intro args p out Ho h hp
  unfold tBig at h
  split at h <;> cases h
  rename_i b
  refine ⟨acall_by (env_ok (env := []) (by simp)) Tryz.func4 rfl rfl rfl rfl rfl ?_, rfl, rfl⟩
  intro hlen c hc hX
  simp only [lensOk, AV.lenOk, true_and, and_true] at hlen
  simp only [Tryz.ntmps4, Tryz.results4, lsA, List.replicate, Nat.reduceAdd, Nat.reduceSub]
  repeat' first | ((with_reducible show aol _ _ _ _ _); first|(refine gF (by rfl) ?_ ?_; focus simp only [go_sem]; done)|(refine gU (by rfl) ?_ ?_; focus simp only [go_sem]; done))|((with_reducible refine hK _ ?_); clear hK K; try simp only [nx])|(with_reducible first|refine aS fun K hK => ?_|refine aB ?_|apply And.intro|exact True.intro)|((first|((with_reducible show aol _ _ _ _ _); try first|(refine gT (by rfl) ?_ ?_; focus simp only [go_sem]; done)|refine gB (by rfl) (by rfl) (fun h => ?_) (fun h => ?_) <;> (try simp only [hsX, reduceCtorEq] at h))|((with_reducible show Awp _ _ (Code.region _ _ _) _ _); first|refine rK (by repeat constructor) (fun K hK => ?_)|(refine dK (by kernel_rfl) (by repeat constructor) (fun K hK => ?_)))) <;> simp (maxSteps := 2000000) (disch := omega) only [go_sem, ↓reduceIte, Nat.reduceEqDiff, Nat.reduceAdd, Nat.reduceLT, Nat.reduceLeDiff, Nat.reduceSub])|((with_reducible show Awp _ _ (Code.cond _ _ _) _ _); refine aC rfl (fun h => ?_) (fun h => ?_) <;> (try simp only [hsX, reduceCtorEq] at h))|((with_reducible first|refine aK ?_|refine aR ?_); simp only [nx])|((with_reducible refine aE ?_); simp only [nx, ne_eq, not_false_eq_true, Nat.reduceEqDiff, reduceCtorEq]; try ((repeat ((fail_if_success refine hK _ ?_); clear hK K)); refine hK _ ?_; clear hK K))|((with_reducible first|show List.all _ _ = true|show lendOk _ _ = true); rfl)|omega|((with_reducible first|show ¬ _|show _ → _); intro h; first|contradiction|cases h; done|skip)
  all_goals (try (first|refine fK ?_|refine fM ?_; repeat clear hK))
  refine fin_tmp rfl ?_; rfl
def tNew : MTab
  | [.sl .u8 b], [] => some (b.length ≤ 1048576, .bp 0 0, [.box 83 [.sl .u8 b, .i ((newV b).1 : Int), .i (newV b).2]])
  | _, _ => none
theorem new_ok : FitsM Tryz.prog 31 tNew := by
  refine ⟨?_⟩
  intro args L p out Ho h hp
  unfold tNew at h
  split at h <;> cases h
  rename_i b
  refine mok_by (env_ok (env := []) (by simp)) (callable_of Tryz.func31 (by kernel_rfl) rfl) Tryz.func31 rfl rfl rfl rfl rfl (by simp) ?_
  intro hlen c hc hX
  simp only [lensIn, AV.lenIn, AV.lenOk, List.getElem?_cons_zero, List.getElem?_cons_succ, true_and, and_true] at hlen
  simp only [Tryz.ntmps31, Tryz.results31, lsA, List.replicate, Nat.reduceAdd, Nat.reduceSub]
  repeat' first | ((with_reducible show aol _ _ _ _ _); first|(refine gF (by rfl) ?_ ?_; focus simp only [go_sem]; done)|(refine gU (by rfl) ?_ ?_; focus simp only [go_sem]; done))|((with_reducible refine hK _ ?_); clear hK K; try simp only [nx])|(with_reducible first|refine aS fun K hK => ?_|refine aB ?_|apply And.intro|exact True.intro)|((first|((with_reducible show aol _ _ _ _ _); try first|(refine gT (by rfl) ?_ ?_; focus simp only [go_sem]; done)|refine gB (by rfl) (by rfl) (fun h => ?_) (fun h => ?_) <;> (try simp only [hsX, reduceCtorEq] at h))|((with_reducible show Awp _ _ (Code.region _ _ _) _ _); first|refine rK (by repeat constructor) (fun K hK => ?_)|(refine dK (by kernel_rfl) (by repeat constructor) (fun K hK => ?_)))) <;> simp (maxSteps := 2000000) (disch := omega) only [go_sem, ↓reduceIte, Nat.reduceEqDiff, Nat.reduceAdd, Nat.reduceLT, Nat.reduceLeDiff, Nat.reduceSub])|((with_reducible show Awp _ _ (Code.cond _ _ _) _ _); refine aC rfl (fun h => ?_) (fun h => ?_) <;> (try simp only [hsX, reduceCtorEq] at h))|((with_reducible first|refine aK ?_|refine aR ?_); simp only [nx])|((with_reducible refine aE ?_); simp only [nx, ne_eq, not_false_eq_true, Nat.reduceEqDiff, reduceCtorEq]; try ((repeat ((fail_if_success refine hK _ ?_); clear hK K)); refine hK _ ?_; clear hK K))|((with_reducible first|show List.all _ _ = true|show lendOk _ _ = true); rfl)|omega|((with_reducible first|show ¬ _|show _ → _); intro h; first|contradiction|cases h; done|skip)
  all_goals (try (first|refine fK ?_|refine fM ?_; repeat clear hK))
  refine awp_for (fun st (k : Nat) => st.at [0] [(3, .i (newH b k)), (4, .i k)] st.hp) (fun k => k ≤ b.length ∧ k ≤ 4000) (fun k => b.length - k) 0 ⟨Nat.zero_le _, Nat.zero_le _⟩ ?_ ?_
  · simp [-List.getD_eq_getElem?_getD, -List.length_take, Le, leFr, ASt.at, keepFr, updAll, upd_zero, upd_succ, newH]
  rintro k ⟨hk, hk4⟩
  simp only [ASt.at, keepFr, updAll, upd_zero, upd_succ, lgA, Nat.reduceEqDiff, Nat.reduceAdd, ↓reduceIte, eq_self]
  by_cases hkl : k < b.length ∧ k < 4000
  · have e : newH b (k + 1) = iand (RowKit.wrap64 (RowKit.wrap64 (RowKit.wrap64 (newH b k * 131) + RowKit.wrap64 (b.getD k 0)) + 7)) 1073741823 := rfl
    repeat' first | ((with_reducible show aol _ _ _ _ _); first|(refine gF (by rfl) ?_ ?_; focus simp only [go_sem]; done)|(refine gU (by rfl) ?_ ?_; focus simp only [go_sem]; done))|((with_reducible refine hK _ ?_); clear hK K; try simp only [nx])|(with_reducible first|refine aS fun K hK => ?_|refine aB ?_|apply And.intro|exact True.intro)|((first|((with_reducible show aol _ _ _ _ _); try first|(refine gT (by rfl) ?_ ?_; focus simp only [go_sem]; done)|refine gB (by rfl) (by rfl) (fun h => ?_) (fun h => ?_) <;> (try simp only [hsX, reduceCtorEq] at h))|((with_reducible show Awp _ _ (Code.region _ _ _) _ _); first|refine rK (by repeat constructor) (fun K hK => ?_)|(refine dK (by kernel_rfl) (by repeat constructor) (fun K hK => ?_)))) <;> simp (maxSteps := 2000000) (disch := omega) only [go_sem, ↓reduceIte, Nat.reduceEqDiff, Nat.reduceAdd, Nat.reduceLT, Nat.reduceLeDiff, Nat.reduceSub])|((with_reducible show Awp _ _ (Code.cond _ _ _) _ _); refine aC rfl (fun h => ?_) (fun h => ?_) <;> (try simp only [hsX, reduceCtorEq] at h))|((with_reducible first|refine aK ?_|refine aR ?_); simp only [nx])|((with_reducible refine aE ?_); simp only [nx, ne_eq, not_false_eq_true, Nat.reduceEqDiff, reduceCtorEq]; try ((repeat ((fail_if_success refine hK _ ?_); clear hK K)); refine hK _ ?_; clear hK K))|((with_reducible first|show List.all _ _ = true|show lendOk _ _ = true); rfl)|omega|((with_reducible first|show ¬ _|show _ → _); intro h; first|contradiction|cases h; done|skip)
    all_goals (try (first|refine fK ?_|refine fM ?_; repeat clear hK))
    refine ⟨k + 1, ⟨by omega, by omega⟩, by omega, ?_⟩
    rw [e]
    simp [-List.getD_eq_getElem?_getD, -List.length_take, Le, leFr, ASt.at, keepFr, updAll, upd_zero, upd_succ]
  · have e : newV b = (0, newH b k) := by rw [newV, show min b.length 4000 = k by omega]
    repeat' first | ((with_reducible show aol _ _ _ _ _); first|(refine gF (by rfl) ?_ ?_; focus simp only [go_sem]; done)|(refine gU (by rfl) ?_ ?_; focus simp only [go_sem]; done))|((with_reducible refine hK _ ?_); clear hK K; try simp only [nx])|(with_reducible first|refine aS fun K hK => ?_|refine aB ?_|apply And.intro|exact True.intro)|((first|((with_reducible show aol _ _ _ _ _); try first|(refine gT (by rfl) ?_ ?_; focus simp only [go_sem]; done)|refine gB (by rfl) (by rfl) (fun h => ?_) (fun h => ?_) <;> (try simp only [hsX, reduceCtorEq] at h))|((with_reducible show Awp _ _ (Code.region _ _ _) _ _); first|refine rK (by repeat constructor) (fun K hK => ?_)|(refine dK (by kernel_rfl) (by repeat constructor) (fun K hK => ?_)))) <;> simp (maxSteps := 2000000) (disch := omega) only [go_sem, ↓reduceIte, Nat.reduceEqDiff, Nat.reduceAdd, Nat.reduceLT, Nat.reduceLeDiff, Nat.reduceSub])|((with_reducible show Awp _ _ (Code.cond _ _ _) _ _); refine aC rfl (fun h => ?_) (fun h => ?_) <;> (try simp only [hsX, reduceCtorEq] at h))|((with_reducible first|refine aK ?_|refine aR ?_); simp only [nx])|((with_reducible refine aE ?_); simp only [nx, ne_eq, not_false_eq_true, Nat.reduceEqDiff, reduceCtorEq]; try ((repeat ((fail_if_success refine hK _ ?_); clear hK K)); refine hK _ ?_; clear hK K))|((with_reducible first|show List.all _ _ = true|show lendOk _ _ = true); rfl)|omega|((with_reducible first|show ¬ _|show _ → _); intro h; first|contradiction|cases h; done|skip)
    all_goals (try (first|refine fK ?_|refine fM ?_; repeat clear hK))
    all_goals (rw [e]; exact finm_t [0] rfl rfl rfl rfl)
def tByt : MTab
  | [.bp 0 0], [.box T [.sl .u8 b, .i i, .i h]] => some (0 ≤ i ∧ b.length ≤ 1048576, .i (byteX b (i.toNat, h)), [.box T [.sl .u8 b, .i ((byteS b (i.toNat, h)).1 : Int), .i (byteS b (i.toNat, h)).2]])
  | _, _ => none
theorem byt_ok : FitsM Tryz.prog 98 tByt := by
  refine ⟨?_⟩
  intro args L p out Ho h hp
  unfold tByt at h
  split at h <;> cases h
  rename_i T b i h
  refine mok_by (env_ok (env := []) (by simp)) (callable_of Tryz.func98 (by kernel_rfl) rfl) Tryz.func98 rfl rfl rfl rfl rfl (by simp) ?_
  intro hlen c hc hX
  simp only [lensIn, AV.lenIn, AV.lenOk, List.getElem?_cons_zero, List.getElem?_cons_succ, true_and, and_true] at hlen
  simp only [Tryz.ntmps98, Tryz.results98, lsA, List.replicate, Nat.reduceAdd, Nat.reduceSub]
  obtain ⟨hi, hb⟩ := hp
  obtain ⟨i, rfl⟩ := Int.eq_ofNat_of_zero_le hi
  rw [Int.toNat_natCast]
  by_cases hlt : i < b.length
  · have e1 : byteX b (i, h) = iand (RowKit.wrap64 (byteA h + RowKit.wrap64 (b.getD i 0))) 255 := if_pos hlt
    have e2 : byteS b (i, h) = (i + 1, byteH h) := by unfold byteS; rw [if_pos hlt]
    rw [e1, e2]
    repeat' first | ((with_reducible show aol _ _ _ _ _); first|(refine gF (by rfl) ?_ ?_; focus simp only [go_sem]; done)|(refine gU (by rfl) ?_ ?_; focus simp only [go_sem]; done))|((with_reducible refine hK _ ?_); clear hK K; try simp only [nx])|(with_reducible first|refine aS fun K hK => ?_|refine aB ?_|apply And.intro|exact True.intro)|((first|((with_reducible show aol _ _ _ _ _); try first|(refine gT (by rfl) ?_ ?_; focus simp only [go_sem]; done)|refine gB (by rfl) (by rfl) (fun h => ?_) (fun h => ?_) <;> (try simp only [hsX, reduceCtorEq] at h))|((with_reducible show Awp _ _ (Code.region _ _ _) _ _); first|refine rK (by repeat constructor) (fun K hK => ?_)|(refine dK (by kernel_rfl) (by repeat constructor) (fun K hK => ?_)))) <;> simp (maxSteps := 2000000) (disch := omega) only [go_sem, ↓reduceIte, Nat.reduceEqDiff, Nat.reduceAdd, Nat.reduceLT, Nat.reduceLeDiff, Nat.reduceSub])|((with_reducible show Awp _ _ (Code.cond _ _ _) _ _); refine aC rfl (fun h => ?_) (fun h => ?_) <;> (try simp only [hsX, reduceCtorEq] at h))|((with_reducible first|refine aK ?_|refine aR ?_); simp only [nx])|((with_reducible refine aE ?_); simp only [nx, ne_eq, not_false_eq_true, Nat.reduceEqDiff, reduceCtorEq]; try ((repeat ((fail_if_success refine hK _ ?_); clear hK K)); refine hK _ ?_; clear hK K))|((with_reducible first|show List.all _ _ = true|show lendOk _ _ = true); rfl)|omega|((with_reducible first|show ¬ _|show _ → _); intro h; first|contradiction|cases h; done|skip)
    all_goals (try (first|refine fK ?_|refine fM ?_; repeat clear hK))
    all_goals exact finm_t [0] rfl rfl rfl rfl
  · have e1 : byteX b (i, h) = byteA h := if_neg hlt
    have e2 : byteS b (i, h) = (i, byteH h) := by unfold byteS; rw [if_neg hlt]
    rw [e1, e2]
    repeat' first | ((with_reducible show aol _ _ _ _ _); first|(refine gF (by rfl) ?_ ?_; focus simp only [go_sem]; done)|(refine gU (by rfl) ?_ ?_; focus simp only [go_sem]; done))|((with_reducible refine hK _ ?_); clear hK K; try simp only [nx])|(with_reducible first|refine aS fun K hK => ?_|refine aB ?_|apply And.intro|exact True.intro)|((first|((with_reducible show aol _ _ _ _ _); try first|(refine gT (by rfl) ?_ ?_; focus simp only [go_sem]; done)|refine gB (by rfl) (by rfl) (fun h => ?_) (fun h => ?_) <;> (try simp only [hsX, reduceCtorEq] at h))|((with_reducible show Awp _ _ (Code.region _ _ _) _ _); first|refine rK (by repeat constructor) (fun K hK => ?_)|(refine dK (by kernel_rfl) (by repeat constructor) (fun K hK => ?_)))) <;> simp (maxSteps := 2000000) (disch := omega) only [go_sem, ↓reduceIte, Nat.reduceEqDiff, Nat.reduceAdd, Nat.reduceLT, Nat.reduceLeDiff, Nat.reduceSub])|((with_reducible show Awp _ _ (Code.cond _ _ _) _ _); refine aC rfl (fun h => ?_) (fun h => ?_) <;> (try simp only [hsX, reduceCtorEq] at h))|((with_reducible first|refine aK ?_|refine aR ?_); simp only [nx])|((with_reducible refine aE ?_); simp only [nx, ne_eq, not_false_eq_true, Nat.reduceEqDiff, reduceCtorEq]; try ((repeat ((fail_if_success refine hK _ ?_); clear hK K)); refine hK _ ?_; clear hK K))|((with_reducible first|show List.all _ _ = true|show lendOk _ _ = true); rfl)|omega|((with_reducible first|show ¬ _|show _ → _); intro h; first|contradiction|cases h; done|skip)
    all_goals (try (first|refine fK ?_|refine fM ?_; repeat clear hK))
    all_goals exact finm_t [0] rfl rfl rfl rfl
def tLawB : Tab
  | [.sl .u8 _] => some (True, .b true, [])
  | _ => none
theorem orE_f (l : List Int) : orE false l = [] := by unfold orE; rfl
end Go.Proofs.YthoionlldmfpiaaGreat
