/- Lemmas for the walk: U18d, U18x, U19, U20. -/
import Derived.Test.YtaacfnngodhecaaGreatDoorP07
import Derived.RangeFuncIn
import Derived.Scope
set_option linter.all false
section
namespace Go.Tx
open Go.Sx (lt_of_get)
def DieXC (P : Program) (ch : List PanicEntry) (f : FuncId) (asx : List PV) (F : SF) (L : Nat) (K : List (Nm × SBlk) → List Nm → Prop) : Prop :=
 ∃ args2 upd rd, WkL F asx args2 ∧ DCon P ch f args2 (F.upd (unown F (wkNL asx args2))) L upd rd ∧ K (unown F (wkNL asx args2) ++ upd) (wkNL asx args2 ++ rd)
def dieOp (C : Cx) (F0 : SF) (o : Oper) (t : List (Option PV)) (H : List (Nm × SBlk)) (K : List (Nm × SBlk) → List Nm → Prop) : Prop :=
 match o.op with
 | .call ⟨.value fo, args, _⟩ =>
  match evalT t fo, vals (evalT t) args.toList with
  | some (.fn (.func f) xs ys), some asx => DieXC C.P C.ch f (xs ++ asx ++ ys) (look F0 H) C.L K
  | _, _ => False
 | _ => False
def guardMet (ops : List Oper) (t : List (Option PV)) : Option (Nat × Bool) → Prop
 | none => True
 | some (j, want) => guardVal ops t j = some (.bool want)
abbrev DK := List (Nm × SBlk) → RK
def execD (C : Cx) (F0 : SF) (ops : List Oper) (d : Nat) (nv : List Nat) : List Oper → Nat → List (Option PV) → List (Nm × SBlk) → Nat → FPs → DK → Prop
 | [], _, t, H, nx, fps, K => K [] t H nx fps
 | o :: l, i, t, H, nx, fps, K =>
  if i = d then guardMet ops t o.guard ∧ dieOp C F0 o t H (fun upd rd => execD C F0 ops d nv l (i + 1) (putT t o.dst undefP) H nx (fps ++ [(rd, [])]) (fun _ => K upd))
  else if nv.contains i = true then execD C F0 ops d nv l (i + 1) (putT t o.dst undefP) H nx (fps ++ [([], [])]) K
  else match o.guard with
  | none => opVC C.calm F0 o t H nx fps (fun t H nx fps => execD C F0 ops d nv l (i + 1) t H nx fps K)
  | some (j, want) =>
   match guardVal ops t j with
   | some (.bool g) =>
    brB g want (opVC C.calm F0 o (setG ops t j want) H nx fps (fun t H nx fps => execD C F0 ops d nv l (i + 1) t H nx fps K))
     (execD C F0 ops d nv l (i + 1) (putT (setG ops t j (!want)) o.dst undefP) H nx (fps ++ [([], [])]) K)
   | some (.tup []) => execD C F0 ops d nv l (i + 1) (putT t o.dst undefP) H nx (fps ++ [([], [])]) K
   | _ => False
inductive TrD (P : Program) (ch : List PanicEntry) (ops : List Oper) (L d : Nat) (du : List (Nm × SBlk)) : List Oper → Nat → (Nat → Option PV) → SF → Nat → List (Option Res) → List Nat → Nat → Prop
 | nil (i : Nat) (f : Nat → Option PV) (F : SF) (nx : Nat) : TrD P ch ops L d du [] i f F nx [] [] nx
 | run {o : Oper} {l : List Oper} {i : Nat} {f : Nat → Option PV} {F : SF} {nx top nz : Nat} {r : Res} {rs : List (Option Res)} {ls : List Nat} (hi : i ≠ d)
   (hg : ∀ j want, o.guard = some (j, want) → guardF ops f j = some (.bool want)) (hf : OpFact P (evalF f) F L nx top o r)
   (h : TrD P ch ops L d du l (i + 1) (setAll f (tw o (some r))) (F.upd r.upd) top rs ls nz) : TrD P ch ops L d du (o :: l) i f F nx (some r :: rs) (nx :: ls) nz
 | skip {o : Oper} {l : List Oper} {i : Nat} {f : Nat → Option PV} {F : SF} {nx nz : Nat} {rs : List (Option Res)} {ls : List Nat} {j : Nat} {want : Bool} (hi : i ≠ d)
   (hg : o.guard = some (j, want)) (hb : Off (guardF ops f j) want)
   (h : TrD P ch ops L d du l (i + 1) (setAll f (tw o none)) F nx rs ls nz) : TrD P ch ops L d du (o :: l) i f F nx (none :: rs) (nx :: ls) nz
 | never {o : Oper} {l : List Oper} {i : Nat} {f : Nat → Option PV} {F : SF} {nx nz : Nat} {rs : List (Option Res)} {ls : List Nat} (hi : i ≠ d) (hn : ord ops d i = true)
   (h : TrD P ch ops L d du l (i + 1) (setAll f (tw o none)) F nx rs ls nz) : TrD P ch ops L d du (o :: l) i f F nx (none :: rs) (nx :: ls) nz
 | die {o : Oper} {l : List Oper} {i : Nat} {f : Nat → Option PV} {F : SF} {nx nz : Nat} {rs : List (Option Res)} {ls : List Nat} {rd : List Nm} (hi : i = d)
   (hg : ∀ j want, o.guard = some (j, want) → guardF ops f j = some (.bool want)) (hf : DFact P ch (evalF f) F L o du rd)
   (h : TrD P ch ops L d du l (i + 1) (setAll f (tw o (some ⟨True, undefP, [], rd⟩))) F nx rs ls nz) : TrD P ch ops L d du (o :: l) i f F nx (some ⟨True, undefP, [], rd⟩ :: rs) (nx :: ls) nz
section
variable {P : Program} {ch : List PanicEntry} {ops : List Oper} {L d : Nat} {du : List (Nm × SBlk)}
theorem trD_lo : ∀ {l : List Oper} {i : Nat} {f : Nat → Option PV} {F : SF} {nx nz : Nat} {rs : List (Option Res)} {ls : List Nat}, TrD P ch ops L d du l i f F nx rs ls nz →
  ls.length = l.length ∧ lo ls nz 0 = nx ∧ ∀ i, lo ls nz i ≤ lo ls nz (i + 1) := by
 intro l i f F nx nz rs ls h
 have cons : ∀ {l : List Oper} {o : Oper} {ls : List Nat} {nx top nz : Nat}, nx ≤ top → (ls.length = l.length ∧ lo ls nz 0 = top ∧ ∀ i, lo ls nz i ≤ lo ls nz (i + 1)) → ((nx :: ls).length = (o :: l).length ∧ lo (nx :: ls) nz 0 = nx ∧ ∀ i, lo (nx :: ls) nz i ≤ lo (nx :: ls) nz (i + 1)) := by
  intro l o ls nx top nz hle ⟨h1, h2, h3⟩
  refine ⟨by simp [h1], rfl, fun i => ?_⟩
  cases i with
  | zero => simp only [lo, List.getD_cons_zero, List.getD_cons_succ] at *; rw [h2]; exact hle
  | succ i => simpa only [lo, List.getD_cons_succ] using h3 i
 induction h with
 | nil i f F nx => exact ⟨rfl, rfl, fun i => by simp [lo]⟩
 | run hi hg hf h ih => exact cons hf.2.1 ih
 | skip hi hg hb h ih => exact cons (Nat.le_refl _) ih
 | never hi hn h ih => exact cons (Nat.le_refl _) ih
 | die hi hg hf h ih => exact cons (Nat.le_refl _) ih
theorem trD_at : ∀ {l : List Oper} {i : Nat} {f : Nat → Option PV} {F : SF} {nx nz : Nat} {rs : List (Option Res)} {ls : List Nat}, TrD P ch ops L d du l i f F nx rs ls nz →
  l.length = rs.length ∧ ∀ (j : Nat) (o : Oper) (r : Option Res), l[j]? = some o → rs[j]? = some r →
   (i + j = d ∧ ∃ r', r = some r' ∧ DFact P ch (evalF (appl (fun n => decide (n < i + j)) i (twL l rs) f)) (appl (fun n => decide (n < i + j)) i (rs.map hw) F) L o du r'.rd ∧
     ∀ q want, o.guard = some (q, want) → guardF ops (appl (fun n => decide (n < i + j)) i (twL l rs) f) q = some (.bool want)) ∨
   (i + j ≠ d ∧ (ord ops d (i + j) = true ∨
    match r with
    | some r => OpFact P (evalF (appl (fun n => decide (n < i + j)) i (twL l rs) f)) (appl (fun n => decide (n < i + j)) i (rs.map hw) F) L (lo ls nz j) (lo ls nz (j + 1)) o r ∧
      ∀ q want, o.guard = some (q, want) → guardF ops (appl (fun n => decide (n < i + j)) i (twL l rs) f) q = some (.bool want)
    | none => ∃ q want, o.guard = some (q, want) ∧ Off (guardF ops (appl (fun n => decide (n < i + j)) i (twL l rs) f) q) want)) := by
 intro l i f F nx nz rs ls hTr
 induction hTr with
 | nil i f F nx => exact ⟨rfl, by intro j o r h; cases h⟩
 | @run o l i f F nx top nz r rs ls hi hg hf htr ih =>
  obtain ⟨h1, h5⟩ := ih
  have hlo := (trD_lo htr).2.1
  refine ⟨by simp [h1], ?_⟩
  intro j o' r' ho' hr'
  cases j with
  | zero =>
   simp at ho' hr'; subst ho'; subst hr'
   simp only [Nat.add_zero, appl_lt]
   refine .inr ⟨hi, .inr ⟨?_, fun q want hq => hg q want hq⟩⟩
   have e0 : lo (nx :: ls) nz 0 = nx := rfl
   have e1 : lo (nx :: ls) nz (0 + 1) = top := hlo
   rw [e0, e1]; exact hf
  | succ j =>
   have := h5 j o' r' (by simpa using ho') (by simpa using hr')
   simp only [twL, List.map_cons, appl_step]
   rw [upd_eq] at this
   rw [show i + (j + 1) = i + 1 + j by omega]
   exact this
 | @skip o l i f F nx nz rs ls q0 want0 hi hg hb htr ih =>
  obtain ⟨h1, h5⟩ := ih
  refine ⟨by simp [h1], ?_⟩
  intro j o' r' ho' hr'
  cases j with
  | zero =>
   simp at ho' hr'; subst ho'; subst hr'
   simp only [Nat.add_zero, appl_lt]
   exact .inr ⟨hi, .inr ⟨q0, want0, hg, hb⟩⟩
  | succ j =>
   have := h5 j o' r' (by simpa using ho') (by simpa using hr')
   simp only [twL, List.map_cons, appl_step]
   rw [show i + (j + 1) = i + 1 + j by omega]
   exact this
 | @never o l i f F nx nz rs ls hi hn htr ih =>
  obtain ⟨h1, h5⟩ := ih
  refine ⟨by simp [h1], ?_⟩
  intro j o' r' ho' hr'
  cases j with
  | zero => exact .inr ⟨hi, .inl hn⟩
  | succ j =>
   have := h5 j o' r' (by simpa using ho') (by simpa using hr')
   simp only [twL, List.map_cons, appl_step]
   rw [show i + (j + 1) = i + 1 + j by omega]
   exact this
 | @die o l i f F nx nz rs ls rd hi hg hf htr ih =>
  obtain ⟨h1, h5⟩ := ih
  refine ⟨by simp [h1], ?_⟩
  intro j o' r' ho' hr'
  cases j with
  | zero =>
   simp at ho' hr'; subst ho'; subst hr'
   simp only [Nat.add_zero, appl_lt]
   exact .inl ⟨hi, _, rfl, hf, fun q want hq => hg q want hq⟩
  | succ j =>
   have := h5 j o' r' (by simpa using ho') (by simpa using hr')
   simp only [twL, List.map_cons, appl_step]
   rw [show i + (j + 1) = i + 1 + j by omega]
   exact this
end
section
variable {C : Cx} {F0 : SF} {ops : List Oper} {m d : Nat} {nv : List Nat}
theorem putT_none {t : List (Option PV)} {o : Oper} (h : ∀ x, o.dst = some x → x < t.length) : TF (putT t o.dst undefP) = setAll (TF t) (tw o none) := by
 have e := TF_put (t := t) (o := o) (r := none) h
 simp only at e
 exact e
theorem execD_step (hC : C.Ok) (hd : ∀ o ∈ ops, ∀ d, o.dst = some d → d < m) (hnv : ∀ i, nv.contains i = true → ord ops d i = true) {du : List (Nm × SBlk)} {o : Oper} {l : List Oper} {i : Nat} {t : List (Option PV)} {H : List (Nm × SBlk)} {nx : Nat} {fps : FPs} {K : DK} {R : FPs → Prop}
  (ho : o ∈ ops) (hm : t.length = m) (hi : i ≠ d) (h : execD C F0 ops d nv (o :: l) i t H nx fps K)
  (ih : ∀ t H nx fps, t.length = m → execD C F0 ops d nv l (i + 1) t H nx fps K → ∃ rs ls nz, TrD C.P C.ch ops C.L d du l (i + 1) (TF t) (look F0 H) nx rs ls nz ∧ R (fps ++ rs.map fpOf)) :
  ∃ rs ls nz, TrD C.P C.ch ops C.L d du (o :: l) i (TF t) (look F0 H) nx rs ls nz ∧ R (fps ++ rs.map fpOf) := by
 have hdo : ∀ x, o.dst = some x → x < t.length := by rw [hm]; exact hd o ho
 have run : (∀ j want, o.guard = some (j, want) → guardF ops (TF t) j = some (.bool want)) → opVC C.calm F0 o t H nx fps (fun t H nx fps => execD C F0 ops d nv l (i + 1) t H nx fps K) →
   ∃ rs ls nz, TrD C.P C.ch ops C.L d du (o :: l) i (TF t) (look F0 H) nx rs ls nz ∧ R (fps ++ rs.map fpOf) := by
  intro hg hop
  obtain ⟨r, top, h1, h2⟩ := opVC_ok hC hop
  obtain ⟨rs, ls, nz, h3, h4⟩ := ih _ _ _ _ (by rw [putT_length]; exact hm) h2
  rw [evalT_eq] at h1
  refine ⟨some r :: rs, nx :: ls, nz, .run hi hg h1 ?_, ?_⟩
  ·have e := TF_put (t := t) (o := o) (r := some r) hdo
   simp only at e
   rw [← e, ← look_updH]; exact h3
  ·simpa [fpOf, rdOf, hw] using h4
 have skip : ∀ j want, o.guard = some (j, want) → Off (guardF ops (TF t) j) want → execD C F0 ops d nv l (i + 1) (putT t o.dst undefP) H nx (fps ++ [([], [])]) K →
   ∃ rs ls nz, TrD C.P C.ch ops C.L d du (o :: l) i (TF t) (look F0 H) nx rs ls nz ∧ R (fps ++ rs.map fpOf) := by
  intro j want hg hoff hk
  obtain ⟨rs, ls, nz, h3, h4⟩ := ih _ _ _ _ (by rw [putT_length]; exact hm) hk
  refine ⟨none :: rs, nx :: ls, nz, .skip hi hg hoff ?_, ?_⟩
  ·rw [← putT_none hdo]; exact h3
  ·simpa [fpOf, rdOf, hw, keys] using h4
 have hgv : ∀ j, guardF ops (TF t) j = guardVal ops t j := fun j => rfl
 simp only [execD] at h
 rw [if_neg hi] at h
 split at h
 ·rename_i hn
  obtain ⟨rs, ls, nz, h3, h4⟩ := ih _ _ _ _ (by rw [putT_length]; exact hm) h
  refine ⟨none :: rs, nx :: ls, nz, .never hi (hnv _ hn) ?_, ?_⟩
  ·rw [← putT_none hdo]; exact h3
  ·simpa [fpOf, rdOf, hw, keys] using h4
 split at h
 ·rename_i hg
  exact run (fun j want he => by rw [hg] at he; cases he) h
 ·rename_i j want hg
  split at h
  ·rename_i g hb
   by_cases hgw : g = want
   ·subst hgw
    have h1 := h.1 rfl
    rw [setG_same hb] at h1
    refine run (fun j' want' he => ?_) h1
    rw [hg] at he
    simp only [Option.some.injEq, Prod.mk.injEq] at he
    obtain ⟨rfl, rfl⟩ := he
    rw [hgv]; exact hb
   ·have hgn : g = !want := by cases g <;> cases want <;> simp_all
    have h1 := h.2 hgn
    subst hgn
    rw [setG_same hb] at h1
    exact skip j want hg (.inl (by rw [hgv]; exact hb)) h1
  ·rename_i hb
   exact skip j want hg (.inr (by rw [hgv]; exact hb)) h
  ·exact h.elim
theorem execD_after (hC : C.Ok) (hd : ∀ o ∈ ops, ∀ d, o.dst = some d → d < m) (hnv : ∀ i, nv.contains i = true → ord ops d i = true) (du : List (Nm × SBlk)) {R : FPs → Prop} : ∀ (l : List Oper) (i : Nat) (t : List (Option PV)) (H : List (Nm × SBlk)) (nx : Nat) (fps : FPs), (∀ o ∈ l, o ∈ ops) → d < i → t.length = m →
  execD C F0 ops d nv l i t H nx fps (fun _ _ _ _ fps => R fps) → ∃ rs ls nz, TrD C.P C.ch ops C.L d du l i (TF t) (look F0 H) nx rs ls nz ∧ R (fps ++ rs.map fpOf)
 | [], i, t, H, nx, fps, _, _, _, h => ⟨[], [], nx, .nil _ _ _ _, by simpa [execD] using h⟩
 | o :: l, i, t, H, nx, fps, hsub, hi, hm, h =>
  execD_step hC hd hnv (hsub o (by simp)) hm (by omega) h fun t H nx fps hm h => execD_after hC hd hnv du l (i + 1) t H nx fps (fun o ho => hsub o (by simp [ho])) (by omega) hm h
theorem execD_before (hC : C.Ok) (hd : ∀ o ∈ ops, ∀ d, o.dst = some d → d < m) (hnv : ∀ i, nv.contains i = true → ord ops d i = true) {R : List (Nm × SBlk) → FPs → Prop} : ∀ (l : List Oper) (i : Nat) (t : List (Option PV)) (H : List (Nm × SBlk)) (nx : Nat) (fps : FPs), (∀ o ∈ l, o ∈ ops) → i ≤ d → d < i + l.length → t.length = m →
  execD C F0 ops d nv l i t H nx fps (fun du _ _ _ fps => R du fps) → ∃ du rs ls nz, TrD C.P C.ch ops C.L d du l i (TF t) (look F0 H) nx rs ls nz ∧ R du (fps ++ rs.map fpOf)
 | [], i, t, H, nx, fps, _, h1, h2, _, h => absurd h2 (by simp; omega)
 | o :: l, i, t, H, nx, fps, hsub, h1, h2, hm, h => by
  have hdo : ∀ x, o.dst = some x → x < t.length := by rw [hm]; exact hd o (hsub o (by simp))
  by_cases hi : i = d
  ·simp only [execD] at h
   rw [if_pos hi] at h
   obtain ⟨hg, h⟩ := h
   have hgm : ∀ j want, o.guard = some (j, want) → guardF ops (TF t) j = some (.bool want) := by
    intro j want he
    rw [he] at hg
    exact hg
   unfold dieOp at h
   split at h
   ·rename_i fo args ats hop
    split at h
    ·rename_i f xs ys asx hv has
     obtain ⟨args2, upd, rd, hw1, hc, hk⟩ := h
     have hf := dFact_call (isCall_value hop hv has) hw1 hc
     rw [evalT_eq] at hf
     obtain ⟨rs, ls, nz, h3, h4⟩ := execD_after hC hd hnv (unown (look F0 H) (wkNL (xs ++ asx ++ ys) args2) ++ upd) (R := R (unown (look F0 H) (wkNL (xs ++ asx ++ ys) args2) ++ upd)) l (i + 1) _ H nx _ (fun o ho => hsub o (by simp [ho])) (by omega) (by rw [putT_length]; exact hm) hk
     refine ⟨_, some ⟨True, undefP, [], wkNL (xs ++ asx ++ ys) args2 ++ rd⟩ :: rs, nx :: ls, nz, .die hi hgm hf ?_, ?_⟩
     ·have e := TF_put (t := t) (o := o) (r := some ⟨True, undefP, [], wkNL (xs ++ asx ++ ys) args2 ++ rd⟩) hdo
      simp only at e
      rw [← e]; exact h3
     ·simpa [fpOf, rdOf, hw, keys] using h4
    ·exact h.elim
   ·exact h.elim
  ·-- ahead of it
   have : ∀ (R : List (Nm × SBlk) → FPs → Prop), execD C F0 ops d nv (o :: l) i t H nx fps (fun du _ _ _ fps => R du fps) → ∃ du rs ls nz, TrD C.P C.ch ops C.L d du (o :: l) i (TF t) (look F0 H) nx rs ls nz ∧ R du (fps ++ rs.map fpOf) := by
    intro R h
    have run : (∀ j want, o.guard = some (j, want) → guardF ops (TF t) j = some (.bool want)) → opVC C.calm F0 o t H nx fps (fun t H nx fps => execD C F0 ops d nv l (i + 1) t H nx fps (fun du _ _ _ fps => R du fps)) →
      ∃ du rs ls nz, TrD C.P C.ch ops C.L d du (o :: l) i (TF t) (look F0 H) nx rs ls nz ∧ R du (fps ++ rs.map fpOf) := by
     intro hg hop
     obtain ⟨r, top, h1', h2'⟩ := opVC_ok hC hop
     obtain ⟨du, rs, ls, nz, h3, h4⟩ := execD_before hC hd hnv l (i + 1) _ _ _ _ (fun o ho => hsub o (by simp [ho])) (by omega) (by simp at h2; omega) (by rw [putT_length]; exact hm) h2'
     rw [evalT_eq] at h1'
     refine ⟨du, some r :: rs, nx :: ls, nz, .run hi hg h1' ?_, ?_⟩
     ·have e := TF_put (t := t) (o := o) (r := some r) hdo
      simp only at e
      rw [← e, ← look_updH]; exact h3
     ·simpa [fpOf, rdOf, hw] using h4
    have skip : ∀ j want, o.guard = some (j, want) → Off (guardF ops (TF t) j) want → execD C F0 ops d nv l (i + 1) (putT t o.dst undefP) H nx (fps ++ [([], [])]) (fun du _ _ _ fps => R du fps) →
      ∃ du rs ls nz, TrD C.P C.ch ops C.L d du (o :: l) i (TF t) (look F0 H) nx rs ls nz ∧ R du (fps ++ rs.map fpOf) := by
     intro j want hg hoff hk
     obtain ⟨du, rs, ls, nz, h3, h4⟩ := execD_before hC hd hnv l (i + 1) _ _ _ _ (fun o ho => hsub o (by simp [ho])) (by omega) (by simp at h2; omega) (by rw [putT_length]; exact hm) hk
     refine ⟨du, none :: rs, nx :: ls, nz, .skip hi hg hoff ?_, ?_⟩
     ·rw [← putT_none hdo]; exact h3
     ·simpa [fpOf, rdOf, hw, keys] using h4
    have hgv : ∀ j, guardF ops (TF t) j = guardVal ops t j := fun j => rfl
    simp only [execD] at h
    rw [if_neg hi] at h
    split at h
    ·rename_i hn
     obtain ⟨du, rs, ls, nz, h3, h4⟩ := execD_before hC hd hnv l (i + 1) _ _ _ _ (fun o ho => hsub o (by simp [ho])) (by omega) (by simp at h2; omega) (by rw [putT_length]; exact hm) h
     refine ⟨du, none :: rs, nx :: ls, nz, .never hi (hnv _ hn) ?_, ?_⟩
     ·rw [← putT_none hdo]; exact h3
     ·simpa [fpOf, rdOf, hw, keys] using h4
    split at h
    ·rename_i hg
     exact run (fun j want he => by rw [hg] at he; cases he) h
    ·rename_i j want hg
     split at h
     ·rename_i g hb
      by_cases hgw : g = want
      ·subst hgw
       have h1 := h.1 rfl
       rw [setG_same hb] at h1
       refine run (fun j' want' he => ?_) h1
       rw [hg] at he
       simp only [Option.some.injEq, Prod.mk.injEq] at he
       obtain ⟨rfl, rfl⟩ := he
       rw [hgv]; exact hb
      ·have hgn : g = !want := by cases g <;> cases want <;> simp_all
       have h1 := h.2 hgn
       subst hgn
       rw [setG_same hb] at h1
       exact skip j want hg (.inl (by rw [hgv]; exact hb)) h1
     ·rename_i hb
      exact skip j want hg (.inr (by rw [hgv]; exact hb)) h
     ·exact h.elim
   exact this R h
end
def sel (S : Nat → Bool) : Nat → List (Option Res) → List (Nm × SBlk)
 | _, [] => []
 | i, r :: l => (if S i = true then hw r else []) ++ sel S (i + 1) l
theorem setAll_append {κ α : Type} [DecidableEq κ] : ∀ (l l' : List (κ × α)) (f : κ → Option α), setAll f (l ++ l') = setAll (setAll f l) l'
 | [], _, _ => rfl
 | (n, v) :: l, l', f => setAll_append l l' _
theorem sel_appl (S : Nat → Bool) : ∀ (rs : List (Option Res)) (i : Nat) (F : SF), F.upd (sel S i rs) = appl S i (rs.map hw) F
 | [], _, _ => rfl
 | r :: l, i, F => by
  rw [upd_eq]
  simp only [sel, List.map_cons, appl, setAll_append]
  rw [← sel_appl S l (i + 1), upd_eq]
  split <;> rfl
theorem sel_keys {S : Nat → Bool} {n : Nm} : ∀ {rs : List (Option Res)} {i : Nat}, n ∈ keys (sel S i rs) → ∃ r ∈ rs, n ∈ keys (hw r)
 | [], _, h => by cases h
 | r :: l, i, h => by
  simp only [sel, keys, List.map_append, List.mem_append] at h
  rcases h with h | h
  ·split at h
   ·exact ⟨r, by simp, h⟩
   ·cases h
  ·obtain ⟨r', h1, h2⟩ := sel_keys h
   exact ⟨r', by simp [h1], h2⟩
def DeadAll (C : Cx) (m : Nat) (H : List (Nm × SBlk)) (W : List Nm) (nx : Nat) : Prop :=
 ∀ H', (∀ n ∈ keys H', n ∈ W) → C.dq ⟨List.replicate m none, updH H H', nx⟩
end Go.Tx
end
section
namespace Go.Tx
open Go.Sx (lt_of_get)
def execX (C : Cx) (F0 : SF) (i0 j0 : Nat) : List Oper → Nat → List (Option PV) → List (Nm × SBlk) → List (Nm × SBlk) → Nat → FPs → RK → Prop
 | [], _, t, H, _, nx, fps, K => K t H nx fps
 | o :: l, i, t, H, Hs, nx, fps, K =>
  match o.guard with
  | some _ => False
  | none =>
   if i = j0 then
    match semOp C.T C.wr (evalT t) (look F0 H) ⟨C.L, nx⟩ o.op, semOp C.T C.wr (evalT t) (look F0 Hs) ⟨C.L, nx⟩ o.op with
    | some r, some r' => r.vc ∧ r'.vc ∧ r'.v = r.v ∧ r.upd = [] ∧ r'.upd = [] ∧ r'.rd = r.rd ∧ execX C F0 i0 j0 l (i + 1) (putT t o.dst r.v) H Hs (nx + 32) (fps ++ [(r.rd, [])]) K
    | _, _ => False
   else opVC C.calm F0 o t H nx fps (fun t H' nx fps => execX C F0 i0 j0 l (i + 1) t H' (if i = i0 then H else Hs) nx fps K)
section
variable {C : Cx} {F0 : SF}
theorem execX_tr (hC : C.Ok) {ops : List Oper} {i0 j0 m : Nat} (hij : i0 < j0) {K : RK} (hd : ∀ o ∈ ops, ∀ d, o.dst = some d → d < m) : ∀ (l : List Oper) (i : Nat) (t : List (Option PV)) (H Hs : List (Nm × SBlk)) (nx : Nat) (fps : FPs), (∀ o ∈ l, o ∈ ops) → t.length = m → execX C F0 i0 j0 l i t H Hs nx fps K →
  ∃ rs ls t' H' nx', Tr C.P ops C.L m l (TF t) (look F0 H) nx rs ls (TF t') (look F0 H') nx' ∧ t'.length = m ∧ K t' H' nx' (fps ++ rs.map fpOf) ∧
   ∀ (k : Nat) (o : Oper) (r : Res), i + k = j0 → l[k]? = some o → rs[k]? = some (some r) →
    OpFact C.P (evalF (appl (fun q => decide (q < i + k)) i (twL l rs) (TF t))) (if i0 < i then look F0 Hs else appl (fun q => decide (q < i0)) i (rs.map hw) (look F0 H)) C.L (lo ls nx' k) (lo ls nx' (k + 1)) o r
 | [], i, t, H, Hs, nx, fps, _, hm, h => ⟨[], [], t, H, nx, .nil _ _ _, hm, by simpa [execX] using h, fun k o r _ ho => by cases ho⟩
 | o :: l, i, t, H, Hs, nx, fps, hsub, hm, h => by
  have hdo : ∀ x, o.dst = some x → x < m := hd o (hsub o (by simp))
  have hsub' : ∀ o ∈ l, o ∈ ops := fun x hx => hsub x (by simp [hx])
  simp only [execX] at h
  split at h
  ·exact h.elim
  rename_i hgd
  have hg : ∀ j want, o.guard = some (j, want) → guardF ops (TF t) j = some (.bool want) := fun j want he => by rw [hgd] at he; cases he
  split at h
  ·rename_i hi
   split at h
   rotate_left
   ·exact h.elim
   rename_i r r' hr hr'
   obtain ⟨v1, v2, e1, e2, e3, e4, h⟩ := h
   obtain ⟨rs, ls, t', H', nx', h3, h4, h5, _⟩ := execX_tr hC hij hd l (i + 1) _ H Hs _ _ hsub' (by rw [putT_length]; exact hm) h
   have f1 := opFact_sem hC.T hC.A hr v1
   have f2 := opFact_sem hC.T hC.A hr' v2
   rw [evalT_eq] at f1 f2
   have er : r' = ⟨r'.vc, r.v, r.upd, r.rd⟩ := by cases r; cases r'; simp_all
   have f3 : OpFact C.P (evalF (TF t)) (look F0 Hs) C.L nx (nx + 32) o r := by
    rw [er] at f2
    exact f2
   refine ⟨some r :: rs, nx :: ls, t', H', nx', .run hg f1 ?_, h4, ?_, ?_⟩
   ·have e := TF_put (t := t) (o := o) (r := some r) (by rw [hm]; exact hdo)
    simp only at e
    rw [← e, e2]; exact h3
   ·simpa [fpOf, rdOf, hw, e2, keys] using h5
   ·intro k o' r2 hk ho' hr2
    have : k = 0 := by omega
    subst this
    simp at ho' hr2; subst ho'; subst hr2
    have hlo := (tr_lo h3).2.1
    have e0 : lo (nx :: ls) nx' 0 = nx := rfl
    have e1 : lo (nx :: ls) nx' (0 + 1) = nx + 32 := hlo
    rw [if_pos (by omega), e0, e1, Nat.add_zero, appl_lt]
    exact f3
  ·rename_i hi
   obtain ⟨r, top, f1, h⟩ := opVC_ok hC h
   obtain ⟨rs, ls, t', H', nx', h3, h4, h5, h6⟩ := execX_tr hC hij hd l (i + 1) _ _ _ _ _ hsub' (by rw [putT_length]; exact hm) h
   rw [evalT_eq] at f1
   refine ⟨some r :: rs, nx :: ls, t', H', nx', .run hg f1 ?_, h4, ?_, ?_⟩
   ·have e := TF_put (t := t) (o := o) (r := some r) (by rw [hm]; exact hdo)
    simp only at e
    rw [← e, ← look_updH]; exact h3
   ·simpa [fpOf, rdOf, hw] using h5
   ·intro k o' r2 hk ho' hr2
    cases k with
    | zero => exact absurd hk hi
    | succ k =>
     have h7 := h6 k o' r2 (by omega) (by simpa using ho') (by simpa using hr2)
     have e := TF_put (t := t) (o := o) (r := some r) (by rw [hm]; exact hdo)
     simp only at e
     rw [e] at h7
     simp only [twL, List.map_cons, appl_step]
     have e9 : lo (nx :: ls) nx' (k + 1) = lo ls nx' k := rfl
     have e10 : lo (nx :: ls) nx' (k + 1 + 1) = lo ls nx' (k + 1) := rfl
     rw [e9, e10]
     have : (if i0 < i then look F0 Hs else appl (fun q => decide (q < i0)) i (hw (some r) :: rs.map hw) (look F0 H)) = (if i0 < i + 1 then look F0 (if i = i0 then H else Hs) else appl (fun q => decide (q < i0)) (i + 1) (rs.map hw) (look F0 (updH H r.upd))) := by
      rcases Nat.lt_trichotomy i0 i with hl | hl | hl
      ·rw [if_pos hl, if_pos (by omega), if_neg (by omega)]
      ·subst hl
       rw [if_neg (by omega), if_pos (by omega), if_pos rfl]
       exact appl_lt
      ·rw [if_neg (by omega), if_neg (by omega)]
       simp only [appl]
       rw [if_pos (by simpa using hl), look_updH, upd_eq]
       rfl
     rw [this]
     exact h7
def okDynX (ops : List Oper) (fps : FPs) (i0 j0 : Nat) : Bool :=
 decide (i0 < j0) && (fps.zipIdx.all fun x => fps.zipIdx.all fun y => !unord ops x.2 y.2 || (disj x.1.2 y.1.2 && ((x.2 == i0 && y.2 == j0) || disj x.1.2 y.1.1))) &&
 fps.zipIdx.all fun x => !(decide (i0 < x.2) && decide (x.2 < j0)) || disj x.1.2 (fps.getD j0 ([], [])).1
theorem okDynX_spec {ops : List Oper} {rs : List (Option Res)} {i0 j0 : Nat} (h : okDynX ops (rs.map fpOf) i0 j0 = true) : DynOkX ops rs (some (i0, j0)) := by
 unfold okDynX at h
 simp only [Bool.and_eq_true, decide_eq_true_eq] at h
 obtain ⟨⟨h1, h2⟩, h3⟩ := h
 rw [List.all_eq_true] at h2 h3
 refine ⟨fun i j ri rj hi hj hu k hk => ?_, fun i1 j1 he => ?_⟩
 ·have h4 := h2 (fpOf ri, i) (by rw [List.mem_zipIdx_iff_getElem?]; simp [hi])
  rw [List.all_eq_true] at h4
  have h5 := h4 (fpOf rj, j) (by rw [List.mem_zipIdx_iff_getElem?]; simp [hj])
  simp only [hu, Bool.not_true, Bool.false_or, Bool.and_eq_true] at h5
  refine ⟨fun hl => ?_, fun hl => disj_spec h5.1 (by simpa [fpOf] using hk) (by simpa [fpOf] using hl)⟩
  rcases Bool.or_eq_true _ _ ▸ h5.2 with h6 | h6
  ·simp only [Bool.and_eq_true, beq_iff_eq] at h6
   rw [h6.1, h6.2]
  ·exact (disj_spec h6 (by simpa [fpOf] using hk) (by simpa [fpOf] using hl)).elim
 ·injection he with he
  injection he with e1 e2
  subst e1; subst e2
  refine ⟨h1, fun q rq rj hq1 hq2 hrq hrj k hk hl => ?_⟩
  have h4 := h3 (fpOf rq, q) (by rw [List.mem_zipIdx_iff_getElem?]; simp [hrq])
  simp only [hq1, hq2, decide_true, Bool.and_true, Bool.not_true, Bool.false_or] at h4
  refine disj_spec h4 (by simpa [fpOf] using hk) ?_
  simpa [fpOf, List.getD_eq_getElem?_getD, hrj] using hl
end
end Go.Tx
end
section
namespace Go.Tx
open Go.Sx (lt_of_get)
def Tp (C : Cx) (F0 : SF) (E0 : Env) (w0 : World) (st : St) (c : Code) (Q : Exit → St → Prop) : Prop :=
 ∀ a w E, Rel C.B C.L F0 E0 w0 E st a w → c.wpIn (W C.ro) 0 C.P (fun e a' w' => ∃ st', Q e st' ∧ ∃ E', Rel C.B C.L F0 E0 w0 E' st' a' w') a w
section
variable {C : Cx} {F0 : SF} {E0 : Env} {w0 : World} {st : St} {Q : Exit → St → Prop}
theorem Tp.mono {c : Code} {Q' : Exit → St → Prop} (h : Tp C F0 E0 w0 st c Q) (hq : ∀ e s, Q e s → Q' e s) : Tp C F0 E0 w0 st c Q' :=
 fun a w E ha => wpIn_mono (h a w E ha) fun _ _ _ ⟨s, h1, h2⟩ => ⟨s, hq _ _ h1, h2⟩
theorem Tp.skip (h : Q .normal st) : Tp C F0 E0 w0 st .skip Q := fun _ _ E ha => wpIn_skip ⟨st, h, E, ha⟩
theorem Tp.ret (h : Q .ret st) : Tp C F0 E0 w0 st .ret Q := fun _ _ E ha => wpIn_ret ⟨st, h, E, ha⟩
theorem Tp.exit {id : Nat} (h : Q (.exit id) st) : Tp C F0 E0 w0 st (.exit id) Q := fun _ _ E ha => wpIn_exit ⟨st, h, E, ha⟩
def thenQ (R : St → Prop) (Q : Exit → St → Prop) : Exit → St → Prop
 | .normal, s => R s
 | e, s => Q e s
theorem Tp.seq {x y : Code} (h : Tp C F0 E0 w0 st x (thenQ (fun s => Tp C F0 E0 w0 s y Q) Q)) : Tp C F0 E0 w0 st (.seq x y) Q := by
 intro a w E ha
 refine wpIn_seq (wpIn_mono (h a w E ha) ?_)
 rintro e a' w' ⟨s, h1, E', h2⟩
 cases e <;> first | exact h1 a' w' E' h2 | exact ⟨s, h1, E', h2⟩
theorem Tp.cond {c : Operand} {x y : Code} {g : Bool} (hc : evalT st.t c = some (.bool g)) (ht : g = true → Tp C F0 E0 w0 st x Q) (hf : g = false → Tp C F0 E0 w0 st y Q) : Tp C F0 E0 w0 st (.cond c x y) Q := by
 intro a w E ha
 have hd := ha.tmps.eval c (.bool g) (by rw [← evalT_eq]; exact hc)
 simp only [VR] at hd
 exact wpIn_cond_split hd (fun h => ht h a w E ha) (fun h => hf h a w E ha)
def blockQ (id : Nat) (Q : Exit → St → Prop) : Exit → St → Prop
 | .exit id', s => if id' = id then Q .normal s else Q (.exit id') s
 | e, s => Q e s
theorem Tp.block {id : Nat} {c : Code} (h : Tp C F0 E0 w0 st c (blockQ id Q)) : Tp C F0 E0 w0 st (.block id c) Q := by
 intro a w E ha
 refine wpIn_block (wpIn_mono (h a w E ha) ?_)
 rintro e a' w' ⟨s, h1, h2⟩
 cases e with
 | exit id' =>
  simp only [blockQ] at h1
  simp only [Exit.inBlock]
  split
  ·rename_i hi; rw [if_pos hi] at h1; exact ⟨s, h1, h2⟩
  ·rename_i hi; rw [if_neg hi] at h1; exact ⟨s, h1, h2⟩
 | _ => exact ⟨s, h1, h2⟩
theorem wpIn_scope {F : Fence} {n : Nat} {P : Program} {Q : Exit → Act → World → Prop} {a : Act} {w : World} {c : Code} (h : c.wpIn F n P (Exit.noGoto Q) a w) : (Code.scope c).wpIn F n P Q a w := by
 intro b k cs hro hb hr
 have h0 : (lone (b.atR a (.code (.scope c) :: k)) cs w).fenced P F := fenced_calm hb hr rfl
 have s0 : step P (lone (b.atR a (.code (.scope c) :: k)) cs w) = .next (lone (b.atR a (.code c :: .inScope c :: k)) cs w) := step_lone_go (by simp [stepG, stepG.exec, Frame.atR])
 have s1 : ∀ a w, step P (lone (b.atR a (.inScope c :: k)) cs w) = .next (lone (b.atR a k) cs w) := fun a w => step_lone_go (by simp [stepG, stepG.exec, Frame.atR])
 obtain ⟨e, a₁, w₁, hq, harr⟩ := h b (.inScope c :: k) cs hro hb hr
 cases e with
 | normal => exact ⟨.normal, a₁, w₁, hq, .head h0 s0 (StepsIn.trans harr (.one (fenced_calm hb hr rfl) (s1 _ _)))⟩
 | exit id' =>
  have hx : exitTo id' (.inScope c :: k) = exitTo id' k := by simp [exitTo]
  exact ⟨.exit id', a₁, w₁, hq, fun k' hk => .head h0 s0 (harr.1 k' (by rw [hx]; exact hk)),
   fun hr' hk => let ⟨k₁, h1, h2⟩ := harr.2 hr' (by rw [hx]; exact hk); ⟨k₁, h1, .head h0 s0 h2⟩⟩
 | goto l => exact hq.elim
 | ret => exact ⟨_, a₁, w₁, hq, .of_steps (.one h0 s0) harr⟩
 | panic ch => exact ⟨_, a₁, w₁, hq, .of_steps (.one h0 s0) harr⟩
 | outgrown => exact ⟨_, a₁, w₁, hq, .of_steps (.one h0 s0) harr⟩
def noGotoQ (Q : Exit → St → Prop) : Exit → St → Prop
 | .goto _, _ => False
 | e, s => Q e s
theorem Tp.scope {c : Code} (h : Tp C F0 E0 w0 st c (noGotoQ Q)) : Tp C F0 E0 w0 st (.scope c) Q := by
 intro a w E ha
 refine wpIn_scope (wpIn_mono (h a w E ha) ?_)
 rintro e a' w' ⟨s, h1, h2⟩
 cases e <;> first | exact h1.elim | exact ⟨s, h1, h2⟩
theorem Tp.label {l : Nat} (h : Q .normal st) : Tp C F0 E0 w0 st (.label l) Q := fun _ _ E ha => wpIn_label ⟨st, h, E, ha⟩
def dstOk (ops : List Oper) (m : Nat) : Bool := ops.all fun o => o.dst.all fun d => decide (d < m)
theorem dstOk_spec {ops : List Oper} {m : Nat} (h : dstOk ops m = true) : ∀ o ∈ ops, ∀ d, o.dst = some d → d < m := by
 intro o ho d hd
 unfold dstOk at h
 rw [List.all_eq_true] at h
 have := h o ho
 rw [hd] at this
 simpa using this
def Qd (C : Cx) (Q : Exit → St → Prop) : Exit → St → Prop := fun e st => Q e st ∨ (C.dies = true ∧ e = .panic C.ch ∧ C.dq st)
theorem Tp.region (hC : C.Ok) (hd0 : Dom0 C.L E0) (hy : InvY C.ys E0 F0 w0) (hR0 : HRel E0 F0 w0) {id : Nat} {ops : List Oper} (hds : dstOk ops st.t.length = true) (h : execS C F0 ops ops st.t st.H st.nx (fun t H nx => Q .normal ⟨t, H, nx⟩)) : Tp C F0 E0 w0 st (.region id ops.toArray false) (Qd C Q) := by
 intro a w E hR
 refine wpIn_region ?_
 obtain ⟨f1, f2⟩ := hR.fresh hd0
 have := seq_ok (C := C) (F0 := F0) (E0 := E) (F1 := look F0 st.H) (w0 := w) (ds := a.defers) (m := st.t.length) (base := st.nx) (ro := C.ro) (n := 0) (Q := fun e a' w' => ∃ st', Qd C Q e st' ∧ ∃ E', Rel C.B C.L F0 E0 w0 E' st' a' w') hC (dstOk_spec hds) hR.step.rel
  (fun st' E' a' w' q0 q1 q2 q3 q4 q5 q6 q7 => ⟨st', .inr ⟨q0, rfl, q1⟩, E', hR.step.trans q4, by rw [q2]; exact q5, by rw [q6]; exact hR.marks.mono q4.ext, fun n g1 g2 => by
   cases he : E n with
   | none => have := q7 n he g2; exact ⟨this.1, this.2.2⟩
   | some x => have := hR.news n g1 (by rw [he]; simp); exact ⟨this.1, by omega⟩⟩) f1 f2 (hy.step hR0 hR.step)
  (fun t H nx E' a' w' q1 q2 q3 q4 q5 q6 q7 => ⟨_, .inl q1, E', hR.step.trans q4, by rw [q2]; exact q5, by rw [q6]; exact hR.marks.mono q4.ext, fun n g1 g2 => by
   cases he : E n with
   | none => have := q7 n he g2; exact ⟨this.1, this.2.2⟩
   | some x => have := hR.news n g1 (by rw [he]; simp); exact ⟨this.1, by simp only; omega⟩⟩)
  ops 0 st.t st.H st.nx rfl (by omega) rfl (Nat.le_refl _) h E a w (StepR.refl hR.step.rel) hR.tmps rfl (fun n h1 h2 => absurd h1 h2)
 simpa using this
theorem okDyn_dyn {ops : List Oper} {rs : List (Option Res)} (h : okDyn ops (rs.map fpOf) = true) : DynOk ops rs := by
 intro i j ri rj hi hj hu k hk hl
 unfold okDyn at h
 rw [List.all_eq_true] at h
 have h4 := h (fpOf ri, i) (by rw [List.mem_zipIdx_iff_getElem?]; simp [hi])
 rw [List.all_eq_true] at h4
 have h5 := h4 (fpOf rj, j) (by rw [List.mem_zipIdx_iff_getElem?]; simp [hj])
 simp only [hu, Bool.not_true, Bool.false_or] at h5
 exact disj_spec h5 (by simpa [fpOf] using hk) (by simpa [fpOf] using hl)
theorem Tp.regionT (hC : C.Ok) (hd0 : Dom0 C.L E0) {id : Nat} {ops : List Oper} (hst : okStatic ops st.t.length = true) {rs : List (Option Res)} {ls : List Nat} {t' : List (Option PV)} {H' : List (Nm × SBlk)} {nx' : Nat}
  (h1 : Tr C.P ops C.L st.t.length ops (TF st.t) (look F0 st.H) st.nx rs ls (TF t') (look F0 H') nx') (h2 : t'.length = st.t.length) {X : Option (Nat × Nat)} (h3 : DynOkX ops rs X) (h3' : XFact C.P ops C.L (TF st.t) (look F0 st.H) rs ls nx' X) (h4 : Q .normal ⟨t', H', nx'⟩) :
  Tp C F0 E0 w0 st (.region id ops.toArray true) Q := by
 intro a w E hR
 obtain ⟨f1, f2⟩ := hR.fresh hd0
 refine wpIn_region_any hC.mixed ?_
 have hlo := (tr_lo h1).2.1
 have hle : st.nx ≤ nx' := by
  have := lo_mono (tr_lo h1).2.2 (show 0 ≤ ops.length by omega)
  rw [hlo] at this
  simpa [lo, ← (tr_lo h1).1] using this
 have hd := tr_draw (P := C.P) (E0 := E) (F0 := look F0 st.H) (w0 := { w with drawn := w.drawn + 1 }) (ro := C.ro) (n := 0) h1 hst h3 h3' (ds := a.defers) (Q := fun e a' w' => ∃ st', Q e st' ∧ ∃ E', Rel C.B C.L F0 E0 w0 E' st' a' w')
  (fun E' a' w' q1 q2 q3 q4 => ⟨_, h4, E', hR.step.drew.trans q1, by rw [h2]; exact q2, by rw [q3]; exact (hR.marks.mono (StepR.drew (StepR.refl hR.step.rel)).ext).mono q1.ext, fun n g1 g2 => by
   cases he : E n with
   | none => have := q4 n he g2; exact ⟨this.1, this.2.2⟩
   | some x => have := hR.news n g1 (by rw [he]; simp); exact ⟨this.1, by simp only; omega⟩⟩)
 have hnone : ∀ i, (Array.replicate ops.length false).getD i false = false := by
  intro i
  simp only [Array.getD]
  split <;> simp
 have hs : ops.toArray.size = ops.length := by simp
 rw [hs]
 have e1 : appl (fun i => (Array.replicate ops.length false).getD i false) 0 (rs.map hw) (look F0 st.H) = look F0 st.H := by
  funext k; exact appl_none _ (fun j x _ hs => by rw [hnone] at hs; cases hs)
 have e2 : appl (fun i => (Array.replicate ops.length false).getD i false) 0 (twL ops rs) (TF st.t) = TF st.t := by
  funext k; exact appl_none _ (fun j x _ hs => by rw [hnone] at hs; cases hs)
 refine hd ops.length (Array.replicate ops.length false) E a _ (by simp) ?_ ?_ ⟨?_, ?_, rfl, ?_, ?_, f2⟩
 ·exact Nat.le_trans List.countP_le_length (by simp)
 ·intro q k hq; rw [hnone] at hq; cases hq
 ·rw [e1]; exact StepR.refl (StepR.drew (StepR.refl hR.step.rel)).rel
 ·rw [e1, e2]; exact hR.tmps.mono (StepR.drew (StepR.refl hR.step.rel)).ext
 ·intro k hk _ hne
  rw [hlo] at hk
  exact absurd (f1 k hk) hne
 ·intro n h1 h2; exact absurd h1 h2
theorem Tp.regionD (hC : C.Ok) (hd0 : Dom0 C.L E0) {id : Nat} {ops : List Oper} (hst : okStatic ops st.t.length = true)
  (h : execR C F0 ops ops st.t st.H st.nx [] (fun t H nx fps => okDyn ops fps = true ∧ Q .normal ⟨t, H, nx⟩)) : Tp C F0 E0 w0 st (.region id ops.toArray true) Q := by
 have hds := (okStatic_spec hst).2.1
 obtain ⟨rs, ls, t', H', nx', h1, h2, h3, h4⟩ := execR_tr hC hds ops st.t st.H st.nx [] (fun _ h => h) rfl h
 simp only [List.nil_append] at h3
 exact Tp.regionT hC hd0 hst h1 h2 (okDyn_dyn h3).x .none h4
def RegX (C : Cx) (F0 : SF) (ops : List Oper) (st : St) (Q : Exit → St → Prop) : Prop :=
 ∃ i0 j0, i0 < j0 ∧ okStatic ops st.t.length = true ∧ execX C F0 i0 j0 ops 0 st.t st.H st.H st.nx [] (fun t H nx fps => okDynX ops fps i0 j0 = true ∧ Q .normal ⟨t, H, nx⟩)
theorem Tp.regionX (hC : C.Ok) (hd0 : Dom0 C.L E0) {id : Nat} {ops : List Oper} (h : RegX C F0 ops st Q) : Tp C F0 E0 w0 st (.region id ops.toArray true) Q := by
 obtain ⟨i0, j0, hij, hst, h⟩ := h
 have hds := (okStatic_spec hst).2.1
 obtain ⟨rs, ls, t', H', nx', h1, h2, h3, h5⟩ := execX_tr hC hij hds ops 0 st.t st.H st.H st.nx [] (fun _ h => h) rfl h
 simp only [List.nil_append] at h3
 refine Tp.regionT hC hd0 hst h1 h2 (okDynX_spec h3.1) ?_ h3.2
 intro i1 j1 he o r ho hr
 injection he with he
 injection he with e1 e2
 subst e1; subst e2
 have := h5 _ o r (Nat.zero_add _) ho hr
 simp only [Nat.zero_add] at this
 rw [if_neg (by omega)] at this
 exact this
def RegVX (C : Cx) (x p : Prop) : Prop :=
 match C.dies, C.ch with
 | false, _ :: _ => p ∨ x
 | _, _ => p
theorem RegVX.cases {x p : Prop} (h : RegVX C x p) : p ∨ x := by
 unfold RegVX at h
 split at h
 ·exact h
 ·exact .inl h
def RegDie (C : Cx) (F0 : SF) (ops : List Oper) (st : St) : Prop :=
 ∃ d nv, d < ops.length ∧ (nv.all fun i => ord ops d i) = true ∧ okStatic ops st.t.length = true ∧
  execD C F0 ops d nv ops 0 st.t st.H st.nx [] (fun du _ _ _ fps => okDyn ops fps = true ∧ ∀ nz, DeadAll C st.t.length st.H (fps.flatMap (·.2) ++ keys du) nz)
theorem Tp.regionDie (hC : C.Ok) (hd0 : Dom0 C.L E0) {id : Nat} {ops : List Oper} (hdi : C.dies = true) (h : RegDie C F0 ops st) : Tp C F0 E0 w0 st (.region id ops.toArray true) (Qd C Q) := by
 intro a w E hR
 obtain ⟨d, nv, hdl, hnv, hst, h⟩ := h
 have hds := (okStatic_spec hst).2.1
 have hnv' : ∀ i, nv.contains i = true → ord ops d i = true := fun i hi => by
  rw [List.all_eq_true] at hnv
  exact hnv i (by simpa using hi)
 obtain ⟨du, rs, ls, nz, h1, h3, h4⟩ := execD_before (R := fun du fps => okDyn ops fps = true ∧ ∀ nz, DeadAll C st.t.length st.H (fps.flatMap (·.2) ++ keys du) nz) hC hds hnv' ops 0 st.t st.H st.nx [] (fun _ h => h) (Nat.zero_le _) (by simpa using hdl) rfl h
 simp only [List.nil_append] at h3 h4
 obtain ⟨f1, f2⟩ := hR.fresh hd0
 refine wpIn_region_any hC.mixed ?_
 obtain ⟨hls, hlo, hmon⟩ := trD_lo h1
 obtain ⟨hlen, hat⟩ := trD_at h1
 have hat' : ∀ (j : Nat) (o : Oper) (r : Option Res), ops[j]? = some o → rs[j]? = some r → KF C.P C.ch ops C.L (TF st.t) (look F0 st.H) nz rs ls d du j o r := by
  intro j o r ho hr
  have := hat j o r ho hr
  simp only [Nat.zero_add] at this
  exact this
 have hle : st.nx ≤ nz := by
  have := lo_mono hmon (show 0 ≤ ops.length by omega)
  rw [hlo] at this
  simpa [lo, ← hls] using this
 have hsd := StepR.drew (StepR.refl hR.step.rel)
 have hd := trD_draw (P := C.P) (E0 := E) (F0 := look F0 st.H) (w0 := { w with drawn := w.drawn + 1 }) (ro := C.ro) (n := 0) (ez := nz) (ls := ls) (du := du) (ch := C.ch) (d := d) (m := st.t.length) (t0 := TF st.t) (H0 := look F0 st.H) hdl hlen hls hmon hat' hst (okDyn_dyn h3) (ds := a.defers) (Q := fun e a' w' => ∃ st', Qd C Q e st' ∧ ∃ E', Rel C.B C.L F0 E0 w0 E' st' a' w')
  (fun S E1 a1 w1 E2 w2 q1 q2 q3 => by
   have hst' : StepR E (look F0 st.H) { w with drawn := w.drawn + 1 } E2 (look F0 (updH st.H (sel S 0 rs ++ du))) w2 := by
    have : look F0 (updH st.H (sel S 0 rs ++ du)) = SF.upd (appl S 0 (rs.map hw) (look F0 st.H)) du := by
     rw [look_updH, upd_eq, setAll_append, ← upd_eq, ← upd_eq, sel_appl]
    rw [this]
    exact q1.step.trans q2
   refine ⟨⟨List.replicate st.t.length none, updH st.H (sel S 0 rs ++ du), nz⟩, .inr ⟨hdi, rfl, h4 nz _ fun n hn => ?_⟩, E2, hR.step.drew.trans hst', ⟨?_, fun i v hv => ?_⟩, ?_, fun n g1 g2 => ?_⟩
   ·simp only [keys, List.map_append, List.mem_append] at hn ⊢
    rcases hn with hn | hn
    ·obtain ⟨r, r1, r2⟩ := sel_keys hn
     exact .inl (by rw [List.mem_flatMap]; exact ⟨fpOf r, List.mem_map.2 ⟨r, r1, rfl⟩, r2⟩)
    ·exact .inr hn
   ·simpa using q1.tmps.size
   ·simp only [TF, List.getD_eq_getElem?_getD, List.getElem?_replicate] at hv
    split at hv <;> simp at hv
   ·rw [q1.defers]; exact (hR.marks.mono hsd.ext).mono hst'.ext
   ·cases he : E n with
    | none =>
     cases he1 : E1 n with
     | none => exact absurd (q3 n he1) g2
     | some x =>
      have := q1.news n he (by rw [he1]; simp)
      exact ⟨this.1, this.2.2⟩
    | some x => have := hR.news n g1 (by rw [he]; simp); exact ⟨this.1, by simp only; omega⟩)
 have hnone : ∀ i, (Array.replicate ops.length false).getD i false = false := by
  intro i
  simp only [Array.getD]
  split <;> simp
 have hs : ops.toArray.size = ops.length := by simp
 rw [hs]
 have e1 : appl (fun i => (Array.replicate ops.length false).getD i false) 0 (rs.map hw) (look F0 st.H) = look F0 st.H := by
  funext k; exact appl_none _ (fun j x _ hs => by rw [hnone] at hs; cases hs)
 have e2 : appl (fun i => (Array.replicate ops.length false).getD i false) 0 (twL ops rs) (TF st.t) = TF st.t := by
  funext k; exact appl_none _ (fun j x _ hs => by rw [hnone] at hs; cases hs)
 refine hd ops.length (Array.replicate ops.length false) E a _ (by simp) ?_ ?_ (hnone d) ⟨?_, ?_, rfl, ?_, ?_, f2⟩
 ·exact Nat.le_trans List.countP_le_length (by simp)
 ·intro q k hq; rw [hnone] at hq; cases hq
 ·rw [e1]; exact StepR.refl (StepR.drew (StepR.refl hR.step.rel)).rel
 ·rw [e1, e2]; exact hR.tmps.mono (StepR.drew (StepR.refl hR.step.rel)).ext
 ·intro k hk _ hne
  rw [hlo] at hk
  exact absurd (f1 k hk) hne
 ·intro n h1 h2; exact absurd h1 h2
def RegVD (C : Cx) (p : Prop) (F0 : SF) (ops : List Oper) (st : St) : Prop :=
 match C.dies with
 | false => p
 | true => p ∨ RegDie C F0 ops st
theorem RegVD.live {p : Prop} {ops : List Oper} (h : p) : RegVD C p F0 ops st := by
 unfold RegVD
 cases C.dies
 ·exact h
 ·exact .inl h
theorem RegVD.die {p : Prop} {ops : List Oper} (hd : C.dies = true) (h : RegDie C F0 ops st) : RegVD C p F0 ops st := by
 unfold RegVD
 rw [hd]
 exact .inr h
theorem RegVD.cases {p : Prop} {ops : List Oper} (h : RegVD C p F0 ops st) : p ∨ (C.dies = true ∧ RegDie C F0 ops st) := by
 unfold RegVD at h
 cases hd : C.dies <;> rw [hd] at h
 ·exact .inl h
 ·exact h.imp id fun h => ⟨rfl, h⟩
def Sub (L : Nat) (F0 : SF) (st st' : St) : Prop := ∀ (B : List Deferred) (E0 : Env) (w0 : World) (E : Env) (a : Act) (w : World), Dom0 L E0 → Rel B L F0 E0 w0 E st a w → ∃ E', Rel B L F0 E0 w0 E' st' a w
theorem Sub.refl (L : Nat) (F0 : SF) (st : St) : Sub L F0 st st := fun _ _ _ E _ _ _ h => ⟨E, h⟩
theorem Tp.sub (hd : Dom0 C.L E0) {st' : St} {c : Code} (hs : Sub C.L F0 st st') (h : Tp C F0 E0 w0 st' c Q) : Tp C F0 E0 w0 st c Q := fun a w E ha => let ⟨E', ha'⟩ := hs _ _ _ E a w hd ha; h a w E' ha'
theorem Tp.loop (hd : Dom0 C.L E0) {c : Code} {ι : Type} (I : ι → St) (pre : ι → Prop) (μ : ι → Nat) (x0 : ι) (h0 : pre x0) (hs : Sub C.L F0 st (I x0))
  (round : ∀ x, pre x → Tp C F0 E0 w0 (I x) c (thenQ (fun s => ∃ y, pre y ∧ μ y < μ x ∧ Sub C.L F0 s (I y)) Q)) : Tp C F0 E0 w0 st (.loop c) Q := by
 intro a w E ha b k cs hro hb hr
 have key : ∀ (m : Nat) (x : ι) (a : Act) (w : World) (E : Env), μ x = m → pre x → Rel C.B C.L F0 E0 w0 E (I x) a w →
   ∃ e a' w', (∃ st', Q e st' ∧ ∃ E', Rel C.B C.L F0 E0 w0 E' st' a' w') ∧ ArrivesIn (Machine.fenced C.P (W C.ro)) C.P (lone (b.atR a (.code c :: .inLoop c :: k)) cs w) b k cs e a' w' := by
  intro m
  induction m using Nat.strongRecOn with
  | _ m ih =>
   intro x a w E hm hx hH
   obtain ⟨e, a₁, w₁, ⟨s, hq, E1, hs⟩, harr⟩ := round x hx a w E hH b (.inLoop c :: k) cs hro hb hr
   cases e with
   | normal =>
    obtain ⟨y, hy, hlt, hsub⟩ := hq
    obtain ⟨E2, hs2⟩ := hsub _ _ _ _ _ _ hd hs
    obtain ⟨e₂, a₂, w₂, hq₂, harr₂⟩ := ih (μ y) (hm ▸ hlt) y a₁ w₁ E2 rfl hy hs2
    exact ⟨e₂, a₂, w₂, hq₂, .of_steps (StepsIn.trans harr (.one (fenced_calm hb hr rfl) stepR_inLoop)) harr₂⟩
   | exit id => exact ⟨_, a₁, w₁, ⟨s, hq, E1, hs⟩, .pass (x := .inLoop c) rfl (fun _ _ => .inl (by simp)) harr⟩
   | goto l => exact ⟨_, a₁, w₁, ⟨s, hq, E1, hs⟩, .pass (x := .inLoop c) rfl (fun _ _ => .inl (by simp)) harr⟩
   | ret => exact ⟨_, a₁, w₁, ⟨s, hq, E1, hs⟩, .pass (x := .inLoop c) rfl (fun _ _ => .inl (by simp)) harr⟩
   | panic ch => exact ⟨_, a₁, w₁, ⟨s, hq, E1, hs⟩, .pass (x := .inLoop c) rfl (fun _ _ => .inl (by simp)) harr⟩
   | outgrown => exact ⟨_, a₁, w₁, ⟨s, hq, E1, hs⟩, .pass (x := .inLoop c) rfl (fun _ _ => .inl (by simp)) harr⟩
 obtain ⟨E', ha'⟩ := hs _ _ _ _ _ _ hd ha
 obtain ⟨e, a', w', hq, harr⟩ := key _ x0 a w E' rfl h0 ha'
 exact ⟨e, a', w', hq, .of_steps (.one (fenced_calm hb hr rfl) stepR_loop) harr⟩
end
def RangeVC (C : Cx) (F0 : SF) (g : Operand) (ps : Array Tmp) (assign body : Code) (st : St) (Q : Exit → St → Prop) : Prop :=
 match evalT st.t g with
 | some (.fn (.func f) fl cl) => C.ro = none ∧ (∃ fn, C.P.funcs[f]? = some fn ∧ fn.body.isNone = false ∧ (fn.name == "runtime.NumGoroutine") = false) ∧
  ∃ t0 v upd rd top, (t0.length = st.t.length ∧ ∀ i v, TF t0 i = some v → TF st.t i = some v) ∧ (∀ y : YRec, y.R.params = ps → y.R.assign = assign → y.R.body = body → y.t = t0 → ICon C.P [y] f (fl ++ [.fn (.yield y.l) [] []] ++ cl) (look F0 st.H) C.L st.nx top v upd rd) ∧ Q .normal ⟨st.t, updH st.H upd, top⟩
 | _ => False
def RangeDie (C : Cx) (F0 : SF) (g : Operand) (ps : Array Tmp) (assign body : Code) (st : St) : Prop :=
 match evalT st.t g with
 | some (.fn (.func f) fl cl) => C.ro = none ∧ (∃ fn, C.P.funcs[f]? = some fn ∧ fn.body.isNone = false ∧ (fn.name == "runtime.NumGoroutine") = false) ∧
  ∃ t0 upd rd, (t0.length = st.t.length ∧ ∀ i v, TF t0 i = some v → TF st.t i = some v) ∧ (∀ y : YRec, y.R.params = ps → y.R.assign = assign → y.R.body = body → y.t = t0 → IDCon C.P [y] C.ch f (fl ++ [.fn (.yield y.l) [] []] ++ cl) (look F0 st.H) C.L upd rd) ∧ C.dq ⟨st.t, updH st.H upd, st.nx⟩
 | _ => False
def RangeVD (C : Cx) (p : Prop) (F0 : SF) (g : Operand) (ps : Array Tmp) (assign body : Code) (st : St) : Prop :=
 match C.dies with
 | false => p
 | true => p ∨ RangeDie C F0 g ps assign body st
theorem RangeVD.live {C : Cx} {p : Prop} {F0 : SF} {g : Operand} {ps : Array Tmp} {assign body : Code} {st : St} (h : p) : RangeVD C p F0 g ps assign body st := by
 unfold RangeVD
 cases C.dies
 ·exact h
 ·exact .inl h
theorem RangeVD.die {C : Cx} {p : Prop} {F0 : SF} {g : Operand} {ps : Array Tmp} {assign body : Code} {st : St} (hd : C.dies = true) (h : RangeDie C F0 g ps assign body st) : RangeVD C p F0 g ps assign body st := by
 unfold RangeVD
 rw [hd]
 exact .inr h
theorem RangeVD.cases {C : Cx} {p : Prop} {F0 : SF} {g : Operand} {ps : Array Tmp} {assign body : Code} {st : St} (h : RangeVD C p F0 g ps assign body st) : p ∨ (C.dies = true ∧ RangeDie C F0 g ps assign body st) := by
 unfold RangeVD at h
 cases hd : C.dies <;> rw [hd] at h
 ·exact .inl h
 ·exact h.imp id fun h => ⟨rfl, h⟩
theorem marks_more {B : List Deferred} {n0 : Nat} {Z Z' : Nat → Prop} {w w' : World} {ds : List Deferred} {D : Nat} (h : MarksOk B n0 Z w ds) (hlt : ∀ D', Z D' → D' < D) (h0 : n0 ≤ D) (hD : Z' D) (hD3 : w'.heap[D]? = some (.deferred (some []))) (hk : ∀ D', Z D' → D' < D → w.heap[D']? = some (.deferred (some [])) → Z' D' ∧ w'.heap[D']? = some (.deferred (some []))) : MarksOk B n0 Z' w' ([mkD D] ++ ds) := by
 obtain ⟨Ds, d1, d2, d3⟩ := h
 refine ⟨D :: Ds, ?_, by rw [List.map_cons, d2]; rfl, fun D' h' => ?_⟩
 ·simp only [List.nodup_cons]; exact ⟨fun h => by have := hlt D (d3 D h).2.1; omega, d1⟩
 ·simp only [List.mem_cons] at h'
  rcases h' with rfl | h'
  ·exact ⟨h0, hD, hD3⟩
  ·obtain ⟨c1, c2, c3⟩ := d3 D' h'
   obtain ⟨e1, e2⟩ := hk D' c2 (hlt _ c2) c3
   exact ⟨c1, e1, e2⟩
theorem Tp.rangeFunc {C : Cx} {F0 : SF} {E0 : Env} {w0 : World} (hd : Dom0 C.L E0) {g : Operand} {ps : Array Tmp} {assign body : Code} {st : St} {Q : Exit → St → Prop} (h : RangeVC C F0 g ps assign body st Q) : Tp C F0 E0 w0 st (.rangeFunc g ps assign body) Q := by
 intro a w E hR
 unfold RangeVC at h
 split at h
 rotate_left
 ·exact h.elim
 rename_i f fl cl hg
 obtain ⟨hro, ⟨fn, hfn1, hfn2, hfn3⟩, t0, v, upd, rd, top, ⟨ht0, ht1⟩, hc, hq⟩ := h
 have hgv := hR.tmps.eval g _ (by rw [← evalT_eq]; exact hg)
 simp only [VR] at hgv
 obtain ⟨fl', cl', hge, hfl, hcl⟩ := hgv
 obtain ⟨f1, f2⟩ := hR.fresh hd
 rw [hro]
 refine wpIn_rangeFunc ?_
 intro fnn _
 let D := w.heap.size
 let R0 : Loop := { state := .ready, pending := none, fn := fnn, tmps := a.tmps, params := ps, assign, body, defers := D }
 let W1 := (w.alloc (.deferred (some []))).alloc (.loop R0)
 have s1 := StepR.alloc hR.step.rel (.deferred (some []))
 have s2 := StepR.alloc s1.rel (.loop R0)
 have s12 : StepR E (look F0 st.H) w E (look F0 st.H) W1 := s1.trans s2
 have hD1 : W1.heap[D]? = some (.deferred (some [])) := (Go.RowKit.Below.heap_alloc _ _ _ (by simp [D])).trans (World.alloc_heap_new w _)
 have hl1 : W1.heap[D + 1]? = some (.loop R0) := by
  have := World.alloc_heap_new (w.alloc (.deferred (some []))) (.loop R0)
  rwa [World.size_alloc] at this
 let y : YRec := ⟨D + 1, R0, t0⟩
 have hy : InvY [y] E (look F0 st.H) W1 := by
  intro z hz
  simp only [List.mem_singleton] at hz
  subst hz
  have h0 := hR.tmps.mono s12.ext
  exact ⟨rfl, rfl, hl1, ⟨by rw [ht0]; exact h0.size, fun i v hv => h0.val i v (ht1 i v hv)⟩⟩
 have hic := hc y rfl rfl rfl rfl
 have hargs : VRl W1 (Zn E (look F0 st.H) W1) E (fl ++ [.fn (.yield y.l) [] []] ++ cl) (fl' ++ [Value.func (.yield y.l) #[] #[]] ++ cl') := by
  refine VRl.append (VRl.append (VRl.mono s12.ext _ _ hfl) ?_) (VRl.mono s12.ext _ _ hcl)
  simp only [VRl]
  exact ⟨_, _, rfl, by simp only [VR, VRl]; exact ⟨[], [], rfl, rfl, rfl⟩, rfl⟩
 have hland := hic.2 _ (fun _ _ => rfl) E W1 _ s12.rel (fun k h1 _ => f1 k h1) f2 hargs hy
 rw [callFunc_run hfn1 hfn2 hfn3] at hland
 have hcalls : Calls C.P f (fl' ++ [Value.func (.yield y.l) #[] #[]] ++ cl').toArray W1 fun e w'' => ∃ v', e = .returned v' ∧ CGives E (look F0 st.H) W1 C.L st.nx top v upd v' w'' := hland
 rw [← callsIn_wide (n := 0 - 1)] at hcalls
 refine ⟨D + 1, [mkD D], W1, { target := .fn (.func f) cl'.toArray, args := fl'.toArray ++ #[Value.func (.yield (D + 1)) #[] #[]] }, W1, f, (fl' ++ [Value.func (.yield y.l) #[] #[]] ++ cl').toArray, W1, run_enterLoop_outer _ _ _ _ _, ?_, fun _ _ => trivial, ?_, (fun hd => by cases hd), ?_⟩
 ·simp only [resolve, hge, Deferred.ofValue, Sem.run_pure]
  simp [Act.eval]
 ·simp only [invoke]
  rw [callFunc_run hfn1 hfn2 hfn3]
  congr 2
  apply Array.ext'
  simp [y]
 ·refine hcalls.mono ?_
  rintro e w3 ⟨v', rfl, E', g1, g2, g3⟩
  have hl3 : w3.heap[D + 1]? = some (.loop R0) := (g2.keep _ (heap_lt hl1) (s12.rel.unowned (noData_loop hl1))).trans hl1
  have hD3 : w3.heap[D]? = some (.deferred (some [])) := (g2.keep _ (heap_lt hD1) (s12.rel.unowned (noData_deferred hD1))).trans hD1
  have ht := turn_put w3 (D + 1) (.loop { R0 with state := .exhausted })
  have hno := noData_loop hl3
  have hw0 : w0.heap.size ≤ D := hR.step.size
  have S3 := (hR.step.trans s12).trans g2
  have S4 := S3.turn hno ht (by omega)
  have hx := s12.ext
  refine ⟨none, _, run_endLoop hl3 (by simp [R0]), ⟨st.t, updH st.H upd, top⟩, hq, E', ?_, ?_, ?_, ?_⟩
  ·rw [look_updH]; exact S4
  ·rw [look_updH]
   refine ⟨hR.tmps.size, fun i x hxv => ?_⟩
   obtain ⟨x', a1, a2⟩ := hR.tmps.val i x hxv
   exact ⟨x', a1, VR.turn hno ht (VR.mono g2.ext _ _ (VR.mono s12.ext _ _ a2))⟩
  ·rw [look_updH]
   have hz := g2.rel.inZone (noData_deferred hD3) (heap_lt hD3)
   refine marks_more hR.marks (fun D' h => h.1) hw0 ⟨by rw [ht.size]; exact hz.1, hz.2⟩ ((ht.keep _ (by omega)).trans hD3) fun D' z1 z2 z3 => ?_
   have z4 := g2.ext.zone _ (s12.ext.zone _ z1)
   have z5 : w3.heap[D']? = some (.deferred (some [])) := ((g2.ext.heap _ (s12.ext.zone _ z1)).trans (s12.ext.heap _ z1)).trans z3
   exact ⟨⟨by rw [ht.size]; exact z4.1, z4.2⟩, (ht.keep _ (by omega)).trans z5⟩
  ·intro n h1 h2
   cases he : E n with
   | none => have := g3 n he h2; exact ⟨this.1, this.2.2⟩
   | some x => have := hR.news n h1 (by rw [he]; simp); have := hic.1; exact ⟨(hR.news n h1 (by rw [he]; simp)).1, by simp only; omega⟩
theorem Tp.rangeDie {C : Cx} {F0 : SF} {E0 : Env} {w0 : World} (hd : Dom0 C.L E0) {g : Operand} {ps : Array Tmp} {assign body : Code} {st : St} {Q : Exit → St → Prop} (hdi : C.dies = true) (h : RangeDie C F0 g ps assign body st) : Tp C F0 E0 w0 st (.rangeFunc g ps assign body) (Qd C Q) := by
 intro a w E hR
 unfold RangeDie at h
 split at h
 rotate_left
 ·exact h.elim
 rename_i f fl cl hg
 obtain ⟨hro, ⟨fn, hfn1, hfn2, hfn3⟩, t0, upd, rd, ⟨ht0, ht1⟩, hc, hq⟩ := h
 have hgv := hR.tmps.eval g _ (by rw [← evalT_eq]; exact hg)
 simp only [VR] at hgv
 obtain ⟨fl', cl', hge, hfl, hcl⟩ := hgv
 obtain ⟨f1, f2⟩ := hR.fresh hd
 rw [hro]
 refine wpIn_rangeFunc ?_
 intro fnn _
 let D := w.heap.size
 let R0 : Loop := { state := .ready, pending := none, fn := fnn, tmps := a.tmps, params := ps, assign, body, defers := D }
 let W1 := (w.alloc (.deferred (some []))).alloc (.loop R0)
 have s1 := StepR.alloc hR.step.rel (.deferred (some []))
 have s2 := StepR.alloc s1.rel (.loop R0)
 have s12 : StepR E (look F0 st.H) w E (look F0 st.H) W1 := s1.trans s2
 have hD1 : W1.heap[D]? = some (.deferred (some [])) := (Go.RowKit.Below.heap_alloc _ _ _ (by simp [D])).trans (World.alloc_heap_new w _)
 have hl1 : W1.heap[D + 1]? = some (.loop R0) := by
  have := World.alloc_heap_new (w.alloc (.deferred (some []))) (.loop R0)
  rwa [World.size_alloc] at this
 let y : YRec := ⟨D + 1, R0, t0⟩
 have hy : InvY [y] E (look F0 st.H) W1 := by
  intro z hz
  simp only [List.mem_singleton] at hz
  subst hz
  have h0 := hR.tmps.mono s12.ext
  exact ⟨rfl, rfl, hl1, ⟨by rw [ht0]; exact h0.size, fun i v hv => h0.val i v (ht1 i v hv)⟩⟩
 have hic := hc y rfl rfl rfl rfl
 have hargs : VRl W1 (Zn E (look F0 st.H) W1) E (fl ++ [.fn (.yield y.l) [] []] ++ cl) (fl' ++ [Value.func (.yield y.l) #[] #[]] ++ cl') := by
  refine VRl.append (VRl.append (VRl.mono s12.ext _ _ hfl) ?_) (VRl.mono s12.ext _ _ hcl)
  simp only [VRl]
  exact ⟨_, _, rfl, by simp only [VR, VRl]; exact ⟨[], [], rfl, rfl, rfl⟩, rfl⟩
 have hland := hic _ (fun _ _ => rfl) E W1 _ s12.rel f2 hargs hy
 rw [callFunc_run hfn1 hfn2 hfn3] at hland
 have hcalls : Calls C.P f (fl' ++ [Value.func (.yield y.l) #[] #[]] ++ cl').toArray W1 fun e w'' => e = .panicked C.ch ∧ DGives E (look F0 st.H) W1 upd w'' := hland
 rw [← callsIn_wide (n := 0 - 1)] at hcalls
 refine ⟨D + 1, [mkD D], W1, { target := .fn (.func f) cl'.toArray, args := fl'.toArray ++ #[Value.func (.yield (D + 1)) #[] #[]] }, W1, f, (fl' ++ [Value.func (.yield y.l) #[] #[]] ++ cl').toArray, W1, run_enterLoop_outer _ _ _ _ _, ?_, fun _ _ => trivial, ?_, (fun hd => by cases hd), ?_⟩
 ·simp only [resolve, hge, Deferred.ofValue, Sem.run_pure]
  simp [Act.eval]
 ·simp only [invoke]
  rw [callFunc_run hfn1 hfn2 hfn3]
  congr 2
  apply Array.ext'
  simp [y]
 ·refine hcalls.mono ?_
  rintro e w3 ⟨rfl, E', g2, g3⟩
  have hD3 : w3.heap[D]? = some (.deferred (some [])) := (g2.keep _ (heap_lt hD1) (s12.rel.unowned (noData_deferred hD1))).trans hD1
  have hw0 : w0.heap.size ≤ D := hR.step.size
  refine ⟨⟨st.t, updH st.H upd, st.nx⟩, .inr ⟨hdi, rfl, hq⟩, E', ?_, ?_, ?_, ?_⟩
  ·rw [look_updH]; exact (hR.step.trans s12).trans g2
  ·rw [look_updH]; exact (hR.tmps.mono s12.ext).mono g2.ext
  ·rw [look_updH]
   refine marks_more hR.marks (fun D' h => h.1) hw0 (g2.rel.inZone (noData_deferred hD3) (heap_lt hD3)) hD3 fun D' z1 z2 z3 => ?_
   exact ⟨g2.ext.zone _ (s12.ext.zone _ z1), ((g2.ext.heap _ (s12.ext.zone _ z1)).trans (s12.ext.heap _ z1)).trans z3⟩
  ·intro n h1 h2
   cases he : E n with
   | none => exact absurd (g3 n he) h2
   | some x => exact hR.news n h1 (by rw [he]; simp)
def LoopVC (C : Cx) (F0 : SF) (v : St → (Exit → St → Prop) → Prop) (st : St) (Q : Exit → St → Prop) : Prop :=
 ∃ (ι : Type) (I : ι → St) (pre : ι → Prop) (μ : ι → Nat) (x0 : ι), pre x0 ∧ Sub C.L F0 st (I x0) ∧ ∀ x, pre x → v (I x) (thenQ (fun s => ∃ y, pre y ∧ μ y < μ x ∧ Sub C.L F0 s (I y)) Q)
def vcC (C : Cx) (F0 : SF) : Code → St → (Exit → St → Prop) → Prop
 | .skip, st, Q => Q .normal st
 | .ret, st, Q => Q .ret st
 | .exit id, st, Q => Q (.exit id) st
 | .seq a b, st, Q => vcC C F0 a st (thenQ (fun s => vcC C F0 b s Q) Q)
 | .cond c x y, st, Q => match evalT st.t c with | some (.bool g) => brB g true (vcC C F0 x st Q) (vcC C F0 y st Q) | _ => False
 | .block id c, st, Q => vcC C F0 c st (blockQ id Q)
 | .scope c, st, Q => vcC C F0 c st (noGotoQ Q)
 | .label _, st, Q => Q .normal st
 | .loop c, st, Q => LoopVC C F0 (vcC C F0 c) st Q
 | .region _ ⟨ops⟩ false, st, Q => dstOk ops st.t.length = true ∧ execS C F0 ops ops st.t st.H st.nx (fun t H nx => Q .normal ⟨t, H, nx⟩)
 | .region _ ⟨ops⟩ true, st, Q => RegVD C (RegVX C (RegX C F0 ops st Q) (okStatic ops st.t.length = true ∧ execR C F0 ops ops st.t st.H st.nx [] (fun t H nx fps => okDyn ops fps = true ∧ Q .normal ⟨t, H, nx⟩))) F0 ops st
 | .rangeFunc g ps assign body, st, Q => RangeVD C (RangeVC C F0 g ps assign body st Q) F0 g ps assign body st
 | _, _, _ => False
theorem Qd.of {C : Cx} {Q : Exit → St → Prop} {e : Exit} {s : St} (h : Q e s) : Qd C Q e s := .inl h
theorem vcC_ok' {C : Cx} {F0 : SF} {E0 : Env} {w0 : World} (hC : C.Ok) (hd : Dom0 C.L E0) (hy : InvY C.ys E0 F0 w0) (hR0 : HRel E0 F0 w0) : ∀ (c : Code) (st : St) (Q : Exit → St → Prop), vcC C F0 c st Q → Tp C F0 E0 w0 st c (Qd C Q) := by
 intro c
 induction c with
 | skip => intro st Q h; exact Tp.skip (.inl h)
 | ret => intro st Q h; exact Tp.ret (.inl h)
 | exit id => intro st Q h; exact Tp.exit (.inl h)
 | seq a b iha ihb =>
  intro st Q h
  refine Tp.seq ((iha st _ h).mono ?_)
  intro e s hs
  rcases hs with hs | ⟨h1, rfl, h2⟩
  ·cases e <;> first | exact ihb _ _ hs | exact .inl hs
  ·exact .inr ⟨h1, rfl, h2⟩
 | cond c x y ihx ihy =>
  intro st Q h
  simp only [vcC] at h
  split at h
  ·rename_i g hg
   exact Tp.cond hg (fun e => ihx _ _ (h.1 e)) (fun e => ihy _ _ (h.2 (by simp [e])))
  ·exact h.elim
 | block id c ih =>
  intro st Q h
  refine Tp.block ((ih _ _ h).mono ?_)
  intro e s hs
  rcases hs with hs | ⟨h1, rfl, h2⟩
  ·cases e with
   | exit id' => simp only [blockQ] at hs ⊢; split <;> rename_i hi <;> first | (rw [if_pos hi] at hs; exact .inl hs) | (rw [if_neg hi] at hs; exact .inl hs)
   | _ => exact .inl hs
  ·exact .inr ⟨h1, rfl, h2⟩
 | scope c ih =>
  intro st Q h
  refine Tp.scope ((ih _ _ h).mono ?_)
  intro e s hs
  rcases hs with hs | ⟨h1, rfl, h2⟩
  ·cases e <;> first | exact hs.elim | exact .inl hs
  ·exact .inr ⟨h1, rfl, h2⟩
 | label l => intro st Q h; exact Tp.label (.inl h)
 | loop c ih =>
  intro st Q h
  obtain ⟨ι, I, pre, μ, x0, h1, h2, h3⟩ := h
  refine Tp.loop hd I pre μ x0 h1 h2 fun x hx => (ih _ _ (h3 x hx)).mono ?_
  intro e s hs
  rcases hs with hs | ⟨h1, rfl, h2⟩
  ·cases e <;> first | exact hs | exact .inl hs
  ·exact .inr ⟨h1, rfl, h2⟩
 | region id ops draw =>
  intro st Q h
  obtain ⟨ops⟩ := ops
  cases draw with
  | false => exact Tp.region hC hd hy hR0 h.1 h.2
  | true =>
   rcases RegVD.cases h with h | ⟨h1, h2⟩
   ·rcases RegVX.cases h with h | h
    ·exact (Tp.regionD hC hd h.1 h.2).mono fun _ _ h => .inl h
    ·exact (Tp.regionX hC hd h).mono fun _ _ h => .inl h
   ·exact Tp.regionDie hC hd h1 h2
 | rangeFunc g ps assign body =>
  intro st Q h
  rcases RangeVD.cases h with h | ⟨h1, h2⟩
  ·exact (Tp.rangeFunc hd h).mono fun _ _ h => .inl h
  ·exact Tp.rangeDie hd h1 h2
 | _ => intro st Q h; simp only [vcC] at h
theorem vcC_ok {C : Cx} (hdi : C.dies = false) {F0 : SF} {E0 : Env} {w0 : World} (hC : C.Ok) (hd : Dom0 C.L E0) (hy : InvY C.ys E0 F0 w0) (hR0 : HRel E0 F0 w0) (c : Code) (st : St) (Q : Exit → St → Prop) (h : vcC C F0 c st Q) : Tp C F0 E0 w0 st c Q :=
 (vcC_ok' hC hd hy hR0 c st Q h).mono fun e s hs => hs.resolve_right fun h => by rw [hdi] at h; cases h.1
end Go.Tx
end
section
namespace Go.Tx
open Go.Sx (lt_of_get)
def resVal1 (T : Tys) (F : SF) (t : List (Option PV)) : ResultVar → Option (Prop × PV)
 | .tmp i => (t.getD i none).map fun v => (True, v)
 | .cell a ty => (t.getD a none).bind fun p => (semLoad T F ty p).map fun r => (r.vc, r.v)
def resVals (T : Tys) (F : SF) (t : List (Option PV)) : List ResultVar → Option (Prop × List PV)
 | [] => some (True, [])
 | x :: l => (resVal1 T F t x).bind fun q => (resVals T F t l).map fun qs => (q.1 ∧ qs.1, q.2 :: qs.2)
def one : List PV → PV
 | [v] => v
 | vs => .tup vs
def resVal (T : Tys) (F : SF) (t : List (Option PV)) (l : List ResultVar) : Option (Prop × PV) :=
 (resVals T F t l).map fun q => (q.1, one q.2)
section
variable {P : Program} {T : Tys} {E : Env} {F : SF} {w : World}
theorem run_results1 (hT : T.Ok P) (hR : HRel E F w) {t : List (Option PV)} {m : Nat} {a : Act} (ht : TRelF w (Zn E F w) E (TF t) m a.tmps) : ∀ {x : ResultVar} {p : Prop} {v : PV}, resVal1 T F t x = some (p, v) → p →
  ∃ v', (match x with | .tmp t => pure (a.tmps.getD t undef) | .cell b t => do loadVar t (← asAddr (a.tmps.getD b undef)) : Sem Value).run P w = .ok v' w ∧ VR w (Zn E F w) E v v' := by
 intro x p v h hp
 cases x with
 | tmp i =>
  simp only [resVal1, Option.map_eq_some_iff, Prod.mk.injEq] at h
  obtain ⟨u, h1, _, rfl⟩ := h
  obtain ⟨v', a1, a2⟩ := ht.val i u h1
  exact ⟨v', by simp [a1], a2⟩
 | cell b ty =>
  simp only [resVal1, Option.bind_eq_some_iff, Option.map_eq_some_iff, Prod.mk.injEq] at h
  obtain ⟨u, h1, r, h2, rfl, rfl⟩ := h
  obtain ⟨u', a1, a2⟩ := ht.val b u h1
  have hadd : ∃ q, u' = .pointer (some q) := by
   unfold semLoad at h2
   split at h2
   ·simp only [VR] at a2; obtain ⟨i, _, _, rfl⟩ := a2; exact ⟨_, rfl⟩
   ·simp only [VR] at a2; obtain ⟨_, _, _, _, _, rfl, _⟩ := a2; exact ⟨_, rfl⟩
   ·cases h2
  obtain ⟨q, rfl⟩ := hadd
  obtain ⟨v2, s1, s2⟩ := sound_load' (P := P) hT hR h2 hp a2
  refine ⟨v2, ?_, s2⟩
  simp only [Instr.loadAt, Instr.sureAddr, Sem.run_bind, Sem.run_pure, Result.andThen_ok] at s1
  have e : a.tmps.getD b undef = .pointer (some q) := by simp [a1]
  simp only [e, asAddr, Sem.run_bind, Sem.run_pure, Result.andThen_ok]
  exact s1
theorem run_results (hT : T.Ok P) (hR : HRel E F w) {t : List (Option PV)} {m : Nat} {a : Act} (ht : TRelF w (Zn E F w) E (TF t) m a.tmps) : ∀ {l : List ResultVar} {p : Prop} {vs : List PV}, resVals T F t l = some (p, vs) → p →
  ∃ vs', (l.mapM (fun | .tmp t => pure (a.tmps.getD t undef) | .cell b t => do loadVar t (← asAddr (a.tmps.getD b undef)) : ResultVar → Sem Value)).run P w = .ok vs' w ∧ VRl w (Zn E F w) E vs vs'
 | [], p, vs, h, _ => by
  simp only [resVals, Option.some.injEq, Prod.mk.injEq] at h
  obtain ⟨_, rfl⟩ := h
  exact ⟨[], by simp, by simp [VRl]⟩
 | x :: l, p, vs, h, hp => by
  simp only [resVals, Option.bind_eq_some_iff, Option.map_eq_some_iff, Prod.mk.injEq] at h
  obtain ⟨⟨p1, v1⟩, h1, ⟨p2, v2⟩, h2, rfl, rfl⟩ := h
  obtain ⟨v', a1, a2⟩ := run_results1 hT hR ht h1 hp.1
  obtain ⟨vs', b1, b2⟩ := run_results hT hR ht h2 hp.2
  refine ⟨v' :: vs', ?_, by simp only [VRl]; exact ⟨_, _, rfl, a2, b2⟩⟩
  simp only [List.mapM_cons, Sem.run_bind]
  cases x with
  | tmp t => simp only at a1; rw [a1]; simp only [Result.andThen_ok, b1, Sem.run_pure]
  | cell b t => simp only at a1; rw [a1]; simp only [Result.andThen_ok, b1, Sem.run_pure]
theorem run_res (hT : T.Ok P) (hR : HRel E F w) {t : List (Option PV)} {m : Nat} {a : Act} (ht : TRelF w (Zn E F w) E (TF t) m a.tmps) {fn : Func} {p : Prop} {v : PV} (h : resVal T F t fn.results.toList = some (p, v)) (hp : p) :
  ∃ v', (results fn a.tmps).run P w = .ok v' w ∧ VR w (Zn E F w) E v v' := by
 simp only [resVal, Option.map_eq_some_iff, Prod.mk.injEq] at h
 obtain ⟨⟨q, vs⟩, h1, rfl, rfl⟩ := h
 obtain ⟨vs', a1, a2⟩ := run_results hT hR ht h1 hp
 clear hp
 have hlen := (VRl.get a2).1
 have hrun : (fn.results.mapM (fun | .tmp t => pure (a.tmps.getD t undef) | .cell b t => do loadVar t (← asAddr (a.tmps.getD b undef)) : ResultVar → Sem Value)).run P w = .ok vs'.toArray w := by
  rw [Array.mapM_eq_mapM_toList, Sem.run_map, a1]; rfl
 have hres : (results fn a.tmps).run P w = .ok (if h : vs'.toArray.size = 1 then vs'.toArray[0] else .tuple vs'.toArray) w := by
  unfold results
  rw [Sem.run_bind]
  exact (congrArg (fun q : Result (Array Value) => q.andThen fun vs w' => Sem.run P (pure (if h : vs.size = 1 then vs[0] else .tuple vs)) w') (hrun : _)).trans rfl
 clear hrun a1 h1
 refine ⟨_, hres, ?_⟩
 match vs, vs', a2, hlen with
 | [], [], a2, _ => simp only [one, VR]; exact ⟨[], by simp, a2⟩
 | [u], [u'], a2, _ =>
  simp only [VRl] at a2
  obtain ⟨_, _, h, a2, _⟩ := a2
  injection h with h1 h2; subst h1
  simpa [one] using a2
 | u :: u2 :: l, u' :: u2' :: l', a2, _ =>
  simp only [one, VR]
  exact ⟨u' :: u2' :: l', by simp, a2⟩
 | [], _ :: _, _, h => simp at h
 | [_], [], _, h => simp at h
 | [_], _ :: _ :: _, _, h => simp at h
 | _ :: _ :: _, [], _, h => simp at h
 | _ :: _ :: _, [_], _, h => simp at h
mutual
theorem VR.back {w0 w : World} {Z0 Z : Nat → Prop} {E E' E'' : Env} (hE : ∀ n i, E n = some i → E' n = some i ∧ E'' n = some i) : ∀ (x : PV) (v0 v : Value), VR w0 Z0 E x v0 → VR w Z E' x v → VR w Z E'' x v
 | .bool _, _, v, _, h => by simpa [VR] using h
 | .int _ _, _, v, _, h => by simpa [VR] using h
 | .str _, _, v, _, h => by simpa [VR] using h
 | .nilP, _, v, _, h => by simpa [VR] using h
 | .nilS, _, v, _, h => by simpa [VR] using h
 | .nilM, _, v, _, h => by simpa [VR] using h
 | .nilF, _, v, _, h => by simpa [VR] using h
 | .nilI, _, v, _, h => by simpa [VR] using h
 | .ptr n _ _, _, v, h0, h => by
  simp only [VR] at h0 h ⊢
  obtain ⟨i, hi, _⟩ := h0
  obtain ⟨h1, h2⟩ := hE n i hi
  obtain ⟨j, hj, h⟩ := h
  rw [h1] at hj; injection hj with hj; subst hj
  exact ⟨i, h2, h⟩
 | .sl n _ _, _, v, h0, h => by
  simp only [VR] at h0 h ⊢
  obtain ⟨i, hi, _⟩ := h0
  obtain ⟨h1, h2⟩ := hE n i hi
  obtain ⟨j, hj, h⟩ := h
  rw [h1] at hj; injection hj with hj; subst hj
  exact ⟨i, h2, h⟩
 | .mp n, _, v, h0, h => by
  simp only [VR] at h0 h ⊢
  obtain ⟨i, hi, _⟩ := h0
  obtain ⟨h1, h2⟩ := hE n i hi
  obtain ⟨j, hj, h⟩ := h
  rw [h1] at hj; injection hj with hj; subst hj
  exact ⟨i, h2, h⟩
 | .fp _ _ _ _, _, v, _, h => by simp only [VR] at h ⊢; exact h
 | .fs _ _, _, v, _, h => by simp only [VR] at h ⊢; exact h
 | .fm _ _, _, v, _, h => by simp only [VR] at h ⊢; exact h
 | .fn f x y, _, v, h0, h => by
  simp only [VR] at h0 h ⊢
  obtain ⟨x0, y0, rfl, a1, a2⟩ := h0
  obtain ⟨x', y', rfl, b1, b2⟩ := h
  exact ⟨x', y', rfl, VRl.back hE x _ _ a1 b1, VRl.back hE y _ _ a2 b2⟩
 | .ifc t u, _, v, h0, h => by
  simp only [VR] at h0 h ⊢
  obtain ⟨u0, rfl, a1⟩ := h0
  obtain ⟨u', rfl, b1⟩ := h
  exact ⟨u', rfl, VR.back hE u _ _ a1 b1⟩
 | .agg l, _, v, h0, h => by
  simp only [VR] at h0 h ⊢
  obtain ⟨l0, rfl, _, a1⟩ := h0
  obtain ⟨l', rfl, b0, b1⟩ := h
  exact ⟨l', rfl, b0, VRl.back hE l _ _ a1 b1⟩
 | .tup l, _, v, h0, h => by
  simp only [VR] at h0 h ⊢
  obtain ⟨l0, rfl, a1⟩ := h0
  obtain ⟨l', rfl, b1⟩ := h
  exact ⟨l', rfl, VRl.back hE l _ _ a1 b1⟩
theorem VRl.back {w0 w : World} {Z0 Z : Nat → Prop} {E E' E'' : Env} (hE : ∀ n i, E n = some i → E' n = some i ∧ E'' n = some i) : ∀ (x : List PV) (v0 v : List Value), VRl w0 Z0 E x v0 → VRl w Z E' x v → VRl w Z E'' x v
 | [], _, v, _, h => by simpa [VRl] using h
 | x :: l, v0, v, h0, h => by
  simp only [VRl] at h0 h ⊢
  obtain ⟨u0, t0, rfl, a1, a2⟩ := h0
  obtain ⟨u, t, rfl, b1, b2⟩ := h
  exact ⟨u, t, rfl, VR.back hE x _ _ a1 b1, VRl.back hE l _ _ a2 b2⟩
end
theorem VRr.back {w0 w : World} {Z0 Z : Nat → Prop} {E E' E'' : Env} (hE : ∀ n i, E n = some i → E' n = some i ∧ E'' n = some i) {rs : List (List PV)} {wd o0 o : Nat} {cs0 cs : Array Value} (hl : ∀ row ∈ rs, row.length = wd)
  (h0 : VRr w0 Z0 E rs o0 cs0) (h : VRr w Z E' rs o cs) : VRr w Z E'' rs o cs := by
 refine (VRr_iff hl).2 fun r row c x hr hc => ?_
 obtain ⟨v0, _, _, a⟩ := (VRr_iff hl).1 h0 r row c x hr hc
 obtain ⟨v, b1, b2, b3⟩ := (VRr_iff hl).1 h r row c x hr hc
 exact ⟨v, b1, b2, VR.back hE x _ _ a b3⟩
theorem BRel.back {w0 w : World} {Z0 Z : Nat → Prop} {E E' E'' : Env} (hE : ∀ n i, E n = some i → E' n = some i ∧ E'' n = some i) {n : Nm} {b : SBlk} (h0 : BRel E w0 Z0 n b) (h : BRel E' w Z n b) : BRel E'' w Z n b := by
 have hEE : ∀ p : Bool, ∀ n i, EE E p n = some i → EE E' p n = some i ∧ EE E'' p n = some i := by
  intro p; cases p
  ·exact hE
  ·intro n i h; cases h
 cases b with
 | dead => trivial
 | rows e wd own p rs =>
  obtain ⟨i, hi, hor0⟩ := h0
  obtain ⟨j, hj, hor⟩ := h
  obtain ⟨q1, q2⟩ := hE n i hi
  rw [q1] at hj; injection hj with hj; subst hj
  refine ⟨i, q2, ?_⟩
  rcases hor with hz | ⟨hz, hR⟩
  ·exact .inl hz
  ·rcases hor0 with ⟨z0, _⟩ | ⟨_, hR0⟩
   ·rw [hz] at z0; cases z0
   refine .inr ⟨hz, hR.wd_eq, hR.o0, hR.wd_pos, hR.len, hR.le, hR.cap, ?_⟩
   obtain ⟨cs, fz, b1, b2, b3, b4⟩ := hR.cells
   obtain ⟨cs0, fz0, c1, c2, c3, c4⟩ := hR0.cells
   exact ⟨cs, fz, b1, b2, b3, VRr.back (hEE p) hR.len c4 b4⟩
 | map own p ks vs =>
  obtain ⟨i, hi, hz, ents0, clk0, hb0, hm0⟩ := h0
  obtain ⟨j, hj, _, ents, clk, hb, hm⟩ := h
  obtain ⟨q1, q2⟩ := hE n i hi
  rw [q1] at hj; injection hj with hj; subst hj
  exact ⟨i, q2, hz, ents, clk, hb, VRl.back (hEE p) _ _ _ hm0.1 hm.1, VRl.back (hEE p) _ _ _ hm0.2 hm.2⟩
end
end Go.Tx
end
