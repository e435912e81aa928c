/- Lemmas for the walk: T18, T19, T20, T21. -/
import Derived.Test.YtfhhbkehlfipgaaP06
import Derived.RangeFuncIn
import Derived.Scope
set_option linter.all false
section
namespace Go.Tx
open Go.Sx (lt_of_get)
structure YRec where
 l : Nat
 R : Loop
 t : List (Option PV)
structure Cx where
 P : Program
 T : Tys
 ms : Meths
 wr : Bool
 L : Nat
 ro : Option Nat
 ys : List YRec
structure Cx.Ok (C : Cx) : Prop where
 T : C.T.Ok C.P
 A : AllFields C.T
 mixed : C.P.follows .mixedOrders = true
 ms : C.ms.Ok C.P
def CallVC (P : Program) (f : FuncId) (args : List PV) (F : SF) (L nx : Nat) (K : PV → List (Nm × SBlk) → List Nm → Nat → Prop) : Prop :=
 (∃ args2 v, WkL F args args2 ∧ plainP v = true ∧ Con P f args2 (fun _ => none) L nx nx v [] [] ∧ K v [] (wkNL args args2) nx) ∨
 (∃ args2 v upd rd top, WkL F args args2 ∧ Con P f args2 (F.upd (unown F (wkNL args args2))) L nx top v upd rd ∧ K v (unown F (wkNL args args2) ++ upd) (wkNL args args2 ++ rd) top)
theorem CallVC.pure {P : Program} {f : FuncId} {args args2 : List PV} {F : SF} {L nx : Nat} {K : PV → List (Nm × SBlk) → List Nm → Nat → Prop} {v : PV} (hw : WkL F args args2) (hc : Con P f args2 (fun _ => none) L nx nx v [] []) (hp : plainP v = true) (hk : K v [] (wkNL args args2) nx) : CallVC P f args F L nx K := .inl ⟨_, _, hw, hp, hc, hk⟩
theorem CallVC.gen {P : Program} {f : FuncId} {args args2 : List PV} {F : SF} {L nx top : Nat} {K : PV → List (Nm × SBlk) → List Nm → Nat → Prop} {v : PV} {upd : List (Nm × SBlk)} {rd : List Nm} (hw : WkL F args args2)
  (hc : Con P f args2 (F.upd (unown F (wkNL args args2))) L nx top v upd rd) (hk : K v (unown F (wkNL args args2) ++ upd) (wkNL args args2 ++ rd) top) : CallVC P f args F L nx K := .inr ⟨_, _, _, _, _, hw, hc, hk⟩
abbrev FPs := List (List Nm × List Nm)
abbrev RK := List (Option PV) → List (Nm × SBlk) → Nat → FPs → Prop
def brB (g want : Bool) (A B : Prop) : Prop := (g = want → A) ∧ (g = !want → B)
def guardVal (ops : List Oper) (t : List (Option PV)) (j : Nat) : Option PV :=
 match ops[j]? with
 | some o => match o.dst with | some d => t.getD d none | none => none
 | none => none
def setG (ops : List Oper) (t : List (Option PV)) (j : Nat) (g : Bool) : List (Option PV) :=
 match ops[j]? with
 | some o => putT t o.dst (.bool g)
 | none => t
def opVC (C : Cx) (F0 : SF) (o : Oper) (t : List (Option PV)) (H : List (Nm × SBlk)) (nx : Nat) (fps : FPs) (K : RK) : Prop :=
 match o.op with
 | .call ⟨.value fo, args, _⟩ =>
  match evalT t fo, vals (evalT t) args.toList with
  | some (.fn (.func f) xs ys), some as => CallVC C.P f (xs ++ as ++ ys) (look F0 H) C.L nx (fun v upd rd nx' => K (putT t o.dst v) (updH H upd) nx' (fps ++ [(rd, keys upd)]))
  | _, _ => False
 | .call ⟨.invoke x name, args, _⟩ =>
  match evalT t x, vals (evalT t) args.toList with
  | some (.ifc ty v), some as =>
   match C.ms.get ty name with
   | some f => CallVC C.P f (v :: as) (look F0 H) C.L nx (fun v upd rd nx' => K (putT t o.dst v) (updH H upd) nx' (fps ++ [(rd, keys upd)]))
   | none => False
  | _, _ => False
 | op =>
  match semOp C.T C.wr (evalT t) (look F0 H) ⟨C.L, nx⟩ op with
  | some r => r.vc ∧ K (putT t o.dst r.v) (updH H r.upd) (nx + 32) (fps ++ [(r.rd, keys r.upd)])
  | none => False
def execR (C : Cx) (F0 : SF) (ops : List Oper) : List Oper → List (Option PV) → List (Nm × SBlk) → Nat → FPs → RK → Prop
 | [], t, H, nx, fps, K => K t H nx fps
 | o :: l, t, H, nx, fps, K =>
  match o.guard with
  | none => opVC C F0 o t H nx fps (fun t H nx fps => execR C F0 ops l t H nx fps K)
  | some (j, want) =>
   match guardVal ops t j with
   | some (.bool g) =>
    brB g want (opVC C F0 o (setG ops t j want) H nx fps (fun t H nx fps => execR C F0 ops l t H nx fps K))
     (execR C F0 ops l (putT (setG ops t j (!want)) o.dst undefP) H nx (fps ++ [([], [])]) K)
   | some (.tup []) => execR C F0 ops l (putT t o.dst undefP) H nx (fps ++ [([], [])]) K
   | _ => False
section
variable {C : Cx} {F0 : SF}
theorem setG_same {ops : List Oper} {t : List (Option PV)} {j : Nat} {g : Bool} (h : guardVal ops t j = some (.bool g)) : setG ops t j g = t := by
 unfold guardVal at h
 unfold setG
 cases ho : ops[j]? with
 | none => rfl
 | some o =>
  rw [ho] at h
  simp only at h ⊢
  cases hd : o.dst with
  | none => rfl
  | some d =>
   rw [hd] at h
   simp only at h
   simp only [putT]
   apply List.ext_getElem?
   intro k
   rw [List.getElem?_set]
   by_cases hk : d = k
   ·subst hk
    rw [if_pos rfl]
    rw [List.getD_eq_getElem?_getD] at h
    cases hx : t[d]? with
    | none => rw [hx] at h; cases h
    | some x =>
     rw [hx] at h; simp at h; subst h
     rw [if_pos (lt_of_get hx)]
   ·rw [if_neg hk]
theorem opVC_ok (hC : C.Ok) {o : Oper} {t : List (Option PV)} {H : List (Nm × SBlk)} {nx : Nat} {fps : FPs} {K : RK} (h : opVC C F0 o t H nx fps K) :
  ∃ r top, OpFact C.P (evalT t) (look F0 H) C.L nx top o r ∧ K (putT t o.dst r.v) (updH H r.upd) top (fps ++ [(r.rd, keys r.upd)]) := by
 unfold opVC at h
 split at h
 ·rename_i fo args ats ho
  split at h
  rotate_left
  ·exact h.elim
  rename_i f xs ys as hv has
  rcases h with ⟨args2, v, hw, hp, hc, hk⟩ | ⟨args2, v, upd, rd, top, hw, hc, hk⟩
  ·exact ⟨_, _, opFact_pure (isCall_value ho hv has) hw hp hc, hk⟩
  ·exact ⟨_, _, opFact_call (isCall_value ho hv has) hw hc, hk⟩
 ·rename_i x name args ats ho
  split at h
  rotate_left
  ·exact h.elim
  rename_i ty v as hv has
  split at h
  rotate_left
  ·exact h.elim
  rename_i f hg
  rcases h with ⟨args2, v, hw, hp, hc, hk⟩ | ⟨args2, v, upd, rd, top, hw, hc, hk⟩
  ·exact ⟨_, _, opFact_pure (isCall_invoke hC.ms ho hv has hg) hw hp hc, hk⟩
  ·exact ⟨_, _, opFact_call (isCall_invoke hC.ms ho hv has hg) hw hc, hk⟩
 ·split at h
  rotate_left
  ·exact h.elim
  rename_i r hr
  exact ⟨r, _, opFact_sem hC.T hC.A hr h.1, h.2⟩
theorem execR_tr (hC : C.Ok) {ops : List Oper} {m : Nat} {K : RK} (hd : ∀ o ∈ ops, ∀ d, o.dst = some d → d < m) : ∀ (l : List Oper) (t : List (Option PV)) (H : List (Nm × SBlk)) (nx : Nat) (fps : FPs), (∀ o ∈ l, o ∈ ops) → t.length = m → execR C F0 ops l t H nx fps K →
  ∃ rs ls t' H' nx', Tr C.P ops C.L m l (TF t) (look F0 H) nx rs ls (TF t') (look F0 H') nx' ∧ t'.length = m ∧ K t' H' nx' (fps ++ rs.map fpOf)
 | [], t, H, nx, fps, _, hm, h => ⟨[], [], t, H, nx, .nil _ _ _, hm, by simpa [execR] using h⟩
 | o :: l, t, H, nx, fps, hsub, hm, h => by
  have hdo : ∀ x, o.dst = some x → x < m := hd o (hsub o (by simp))
  have hsub' : ∀ o ∈ l, o ∈ ops := fun x hx => hsub x (by simp [hx])
  have run : (∀ j want, o.guard = some (j, want) → guardF ops (TF t) j = some (.bool want)) → opVC C F0 o t H nx fps (fun t H nx fps => execR C F0 ops l t H nx fps K) →
    ∃ rs ls t' H' nx', Tr C.P ops C.L m (o :: l) (TF t) (look F0 H) nx rs ls (TF t') (look F0 H') nx' ∧ t'.length = m ∧ K t' H' nx' (fps ++ rs.map fpOf) := by
   intro hg hop
   obtain ⟨r, top, h1, h2⟩ := opVC_ok hC hop
   obtain ⟨rs, ls, t', H', nx', h3, h4, h5⟩ := execR_tr hC hd l _ _ _ _ hsub' (by rw [putT_length]; exact hm) h2
   rw [evalT_eq] at h1
   refine ⟨some r :: rs, nx :: ls, t', H', nx', .run hg h1 ?_, h4, ?_⟩
   ·have e := TF_put (t := t) (o := o) (r := some r) (by rw [hm]; exact hdo)
    simp only at e
    rw [← e, ← look_updH]; exact h3
   ·simpa [fpOf, rdOf, hw] using h5
  have skip : ∀ j want, o.guard = some (j, want) → Off (guardF ops (TF t) j) want → execR C F0 ops l (putT t o.dst undefP) H nx (fps ++ [([], [])]) K →
    ∃ rs ls t' H' nx', Tr C.P ops C.L m (o :: l) (TF t) (look F0 H) nx rs ls (TF t') (look F0 H') nx' ∧ t'.length = m ∧ K t' H' nx' (fps ++ rs.map fpOf) := by
   intro j want hg hoff hk
   obtain ⟨rs, ls, t', H', nx', h3, h4, h5⟩ := execR_tr hC hd l _ _ _ _ hsub' (by rw [putT_length]; exact hm) hk
   refine ⟨none :: rs, nx :: ls, t', H', nx', .skip hg hoff ?_, h4, ?_⟩
   ·have e := TF_put (t := t) (o := o) (r := none) (by rw [hm]; exact hdo)
    simp only at e
    rw [← e]; exact h3
   ·simpa [fpOf, rdOf, hw, keys] using h5
  have hgv : ∀ j, guardF ops (TF t) j = guardVal ops t j := fun j => rfl
  simp only [execR] at h
  split at h
  ·rename_i hg
   exact run (fun j want he => by rw [hg] at he; cases he) h
  ·rename_i j want hg
   split at h
   ·rename_i g hb
    by_cases hgw : g = want
    ·subst hgw
     have h1 := h.1 rfl
     rw [setG_same hb] at h1
     refine run (fun j' want' he => ?_) h1
     rw [hg] at he
     simp only [Option.some.injEq, Prod.mk.injEq] at he
     obtain ⟨rfl, rfl⟩ := he
     rw [hgv]; exact hb
    ·have hgn : g = !want := by cases g <;> cases want <;> simp_all
     have h1 := h.2 hgn
     subst hgn
     rw [setG_same hb] at h1
     exact skip j want hg (.inl (by rw [hgv]; exact hb)) h1
   ·rename_i hb
    exact skip j want hg (.inr (by rw [hgv]; exact hb)) h
   ·exact h.elim
end
def InvY (ys : List YRec) (E : Env) (F : SF) (w : World) : Prop :=
 ∀ y ∈ ys, y.R.state = .ready ∧ y.R.pending = none ∧ w.heap[y.l]? = some (.loop y.R) ∧ TRelF w (Zn E F w) E (TF y.t) y.t.length y.R.tmps
theorem InvY.step {ys : List YRec} {E E' : Env} {F F' : SF} {w w' : World} (h : InvY ys E F w) (hR : HRel E F w) (hS : StepR E F w E' F' w') : InvY ys E' F' w' := fun y hy => by
 obtain ⟨a, b, c, d⟩ := h y hy
 exact ⟨a, b, (hS.keep _ (heap_lt c) (hR.unowned (noData_loop c))).trans c, d.mono hS.ext⟩
theorem InvY.nil {E : Env} {F : SF} {w : World} : InvY [] E F w := fun _ h => by cases h
def YCon (P : Program) (y : YRec) (args : List PV) (F : SF) (L nx top : Nat) (v : PV) (upd : List (Nm × SBlk)) (rd : List Nm) : Prop :=
 nx ≤ top ∧ ∀ (F2 : SF), (∀ n ∈ rd, F2 n = F n) → ∀ (E : Env) (w : World) (args' : List Value), HRel E F2 w → (∀ k, nx ≤ k → k < top → E ⟨L, k⟩ = none) → (∀ n : Nm, L < n.l → E n = none) →
  VRl w (Zn E F2 w) E args args' → InvY [y] E F2 w → args'.length = y.R.params.size ∧
   RoundIn (W none) 0 P y.l y.R.fn ((y.R.params.zip args'.toArray).foldl (fun tmps (t, a) => tmps.setIfInBounds t a) y.R.tmps) y.R.assign y.R.body w (fun e w' => ∃ v', e = .returned v' ∧ CGives E F2 w L nx top v upd v' w')
def YVC (P : Program) (ys : List YRec) (l : Nat) (as : List PV) (F : SF) (L nx : Nat) (K : PV → List (Nm × SBlk) → Nat → Prop) : Prop :=
 ∃ y ∈ ys, y.l = l ∧ ∃ v upd rd top, YCon P y as F L nx top v upd rd ∧ K v upd top
def nilL : Option PV → Option PV → Option Nat
 | some (.fs _ rs), some .nilS => some rs.length
 | some (.sl _ _ l), some .nilS => some l
 | _, _ => none
def nilT (T : Tys) (ρ : Operand → Option PV) : Op → Option (Bool × Nat)
 | .binOp .eql t x y _ => match T.get t with | some { k := .slice _, .. } => (nilL (ρ x) (ρ y)).map fun n => (true, n) | _ => none
 | .binOp .neq t x y _ => match T.get t with | some { k := .slice _, .. } => (nilL (ρ x) (ρ y)).map fun n => (false, n) | _ => none
 | _ => none
def nilB : Bool → Bool → Bool
 | true, b => b
 | false, b => !b
def yldT (ρ : Operand → Option PV) : Op → Option (Nat × List PV)
 | .call ⟨.value fo, args, _⟩ => match ρ fo, vals ρ args.toList with | some (.fn (.yield l) [] []), some as => some (l, as) | _, _ => none
 | _ => none
def cut3 (T : Tys) (F : SF) (ρ : Operand → Option PV) : Op → Option Prop
 | .slice t x (some lo) (some hi) (some mx) =>
  match T.get t with
  | some { k := .slice e, .. } => match T.get e, ρ x, ρ lo, ρ hi, ρ mx with
   | some _, some (.sl n 0 _), some (.int _ l), some (.int _ h), some (.int _ m) => match F n with
    | some (.rows _ _ _ _ rs) => some (0 ≤ l ∧ l ≤ h ∧ h ≤ m ∧ m ≤ rs.length)
    | _ => none
   | _, _, _, _, _ => none
  | _ => none
 | _ => none
def unsetT (t : List (Option PV)) : Option Nat → List (Option PV)
 | none => t
 | some d => t.set d none
abbrev SK := List (Option PV) → List (Nm × SBlk) → Nat → Prop
def seqK (K : SK) : RK := fun t H nx _ => K t H nx
def ycK (d : Option Nat) (t : List (Option PV)) (H : List (Nm × SBlk)) (K : SK) : PV → List (Nm × SBlk) → Nat → Prop := fun v upd nx => K (putT t d v) (updH H upd) nx
def nilK (b0 : Bool) (n : Nat) (d : Option Nat) (t : List (Option PV)) (H : List (Nm × SBlk)) (nx : Nat) (K : SK) : Prop := ∀ b : Bool, (b = true → n = 0) → K (putT t d (.bool (nilB b0 b))) H nx
def opVCs (C : Cx) (F0 : SF) (o : Oper) (t : List (Option PV)) (H : List (Nm × SBlk)) (nx : Nat) (K : SK) : Prop :=
 match nilT C.T (evalT t) o.op with
 | some (b0, n) => nilK b0 n o.dst t H nx K
 | none =>
  match yldT (evalT t) o.op with
  | some (l, as) => YVC C.P C.ys l as (look F0 H) C.L nx (ycK o.dst t H K)
  | none =>
   match cut3 C.T (look F0 H) (evalT t) o.op with
   | some p => p ∧ K (unsetT t o.dst) H nx
   | none => opVC C F0 o t H nx [] (seqK K)
def execS (C : Cx) (F0 : SF) (ops : List Oper) : List Oper → List (Option PV) → List (Nm × SBlk) → Nat → SK → Prop
 | [], t, H, nx, K => K t H nx
 | o :: l, t, H, nx, K =>
  match o.guard with
  | none => opVCs C F0 o t H nx (fun t H nx => execS C F0 ops l t H nx K)
  | some (j, want) =>
   match guardVal ops t j with
   | some (.bool g) =>
    brB g want (opVCs C F0 o (setG ops t j want) H nx (fun t H nx => execS C F0 ops l t H nx K))
     (execS C F0 ops l (putT (setG ops t j (!want)) o.dst undefP) H nx K)
   | some (.tup []) => execS C F0 ops l (putT t o.dst undefP) H nx K
   | _ => False
theorem run_nil {P : Program} {T : Tys} (hT : T.Ok P) {w : World} {Z : Nat → Prop} {E : Env} {ρ : Operand → Option PV} {ρ' : Operand → Value} (hρ : RRel w Z E ρ ρ') {o : Oper} {b0 : Bool} {n : Nat} (h : nilT T ρ o.op = some (b0, n)) :
  (∀ c, o.op ≠ .defer c) ∧ ∃ b : Bool, (b = true → n = 0) ∧ (execOp ρ' o).run P w = .ok (.value (.bool (nilB b0 b))) w := by
 have key : ∀ (x y : Option PV) (x' y' : Value) (m : Nat) (t : TypeId) (e : TypeId), nilL x y = some m → (∀ v, x = some v → VR w Z E v x') → (∀ v, y = some v → VR w Z E v y') → (underlying t).run P w = .ok (.slice e) w →
   ∃ b : Bool, (b = true → m = 0) ∧ (Op.equal t x' y').run P w = .ok b w ∧ (∃ a l c, x' = .slice a l c) ∧ y' = .slice none 0 0 := by
  intro x y x' y' m t e hl hx hy hd
  unfold nilL at hl
  split at hl
  ·rename_i wd rs
   injection hl with hl; subst hl
   have h1 := hx _ rfl
   have h2 := hy _ rfl
   simp only [VR] at h1 h2
   subst h2
   obtain ⟨a, cap, rfl, _, _, _, _, hor⟩ := h1
   cases a with
   | none =>
    refine ⟨true, fun _ => ?_, Sx.run_equal_of fun d => by simp [Op.equalIn, hd], ⟨_, _, _, rfl⟩, rfl⟩
    rcases hor with rfl | ⟨b, o, cs, e, fz, ha, _⟩
    ·rfl
    ·cases ha
   | some a => exact ⟨false, (fun h => by cases h), Sx.run_equal_of fun d => by simp [Op.equalIn, hd], ⟨_, _, _, rfl⟩, rfl⟩
  ·rename_i nn r l
   injection hl with hl; subst hl
   have h1 := hx _ rfl
   have h2 := hy _ rfl
   simp only [VR] at h1 h2
   subst h2
   obtain ⟨i, _, hor⟩ := h1
   rcases hor with ⟨_, rfl, rfl⟩ | ⟨_, rfl⟩
   ·cases hz : i.za with
    | none => exact ⟨true, fun _ => rfl, Sx.run_equal_of fun d => by simp [Op.equalIn, hd], ⟨_, _, _, rfl⟩, rfl⟩
    | some a => exact ⟨false, (fun h => by cases h), Sx.run_equal_of fun d => by simp [Op.equalIn, hd], ⟨_, _, _, rfl⟩, rfl⟩
   ·exact ⟨false, (fun h => by cases h), Sx.run_equal_of fun d => by simp [Op.equalIn, hd], ⟨_, _, _, rfl⟩, rfl⟩
  ·cases hl
 have hsl : ∀ (t : TypeId) (i : TI) (e : TypeId), T.get t = some i → i.k = .slice e → ∃ e', (underlying t).run P w = .ok (.slice e') w := by
  intro t i e h1 h2
  obtain ⟨z, hz⟩ := hT t i h1
  obtain ⟨d, hd, hk⟩ := hz.run_underlying w
  rw [h2] at hk
  obtain rfl := Sx.tk_slice hk
  exact ⟨_, hd⟩
 cases ho : o.op <;> rw [ho] at h <;> simp only [nilT] at h <;> try (cases h; done)
 rename_i op t x y yt
 refine ⟨(fun c hc => by cases hc), ?_⟩
 unfold execOp
 rw [ho]
 cases op <;> simp only [nilT] at h <;> try (cases h; done)
 all_goals
  split at h
  rotate_left
  ·cases h
  rename_i hti
  simp only [Option.map_eq_some_iff, Prod.mk.injEq] at h
  obtain ⟨m, h1, rfl, rfl⟩ := h
  obtain ⟨e', hd⟩ := hsl t _ _ hti rfl
  obtain ⟨b, q1, q2, ⟨a, l, c, q3⟩, q4⟩ := key _ _ (ρ' x) (ρ' y) _ t e' h1 (fun v hv => hρ _ _ hv) (fun v hv => hρ _ _ hv) hd
  refine ⟨b, q1, ?_⟩
  rw [q3, q4] at q2
  simp [q3, q4, eqGuard, binOp, q2, nilB]
theorem run_cut3 {P : Program} {T : Tys} (hT : T.Ok P) {w : World} {E : Env} {F : SF} (h0 : HRel E F w) {ρ : Operand → Option PV} {ρ' : Operand → Value} (hρ : RRel w (Zn E F w) E ρ ρ') {o : Oper} {p : Prop} (h : cut3 T F ρ o.op = some p) (hp : p) :
  (∀ c, o.op ≠ .defer c) ∧ ∃ v, (execOp ρ' o).run P w = .ok (.value v) w := by
 cases ho : o.op <;> rw [ho] at h <;> simp only [cut3] at h <;> try (cases h; done)
 rename_i t x lo hi mx
 refine ⟨(fun c hc => by cases hc), ?_⟩
 cases lo with
 | none => simp at h
 | some lo =>
 cases hi with
 | none => simp at h
 | some hi =>
 cases mx with
 | none => simp at h
 | some mx =>
 simp only at h
 split at h
 rotate_left
 ·cases h
 rename_i hti
 obtain ⟨z, ht⟩ := hT _ _ hti
 obtain ⟨d, hd, hk⟩ := ht.run_underlying w
 obtain rfl := Sx.tk_slice hk
 split at h
 rotate_left
 ·cases h
 rename_i ei n ln kl l kh hh km m hei hx hl hhi hm
 obtain ⟨z2, ht2⟩ := hT _ _ hei
 have hsz := ht2.run_sizeOf w
 split at h
 rotate_left
 ·cases h
 rename_i e wd own pp rs hF
 injection h with h; subst h
 obtain ⟨c1, c2, c3, c4⟩ := hp
 have vx := hρ _ _ hx
 have vl := hρ _ _ hl
 have vh := hρ _ _ hhi
 have vm := hρ _ _ hm
 simp only [VR] at vx vl vh vm
 have hcap : ∃ a len cap, ρ' x = .slice a len cap ∧ rs.length ≤ cap := by
  obtain ⟨i, hi, hor⟩ := vx
  rcases hor with ⟨hz, rfl, hv⟩ | ⟨hz, hv⟩
  ·refine ⟨_, _, _, hv, ?_⟩
   obtain ⟨j, hj, hq⟩ := h0.blk n _ hF
   rw [hi] at hj; injection hj with hj; subst hj
   rcases hq with ⟨_, q, _⟩ | ⟨q, _⟩
   ·rw [q]; simp
   ·rw [hz] at q; cases q
  ·exact ⟨_, _, _, hv, by have := (rowsRel_of h0 hF hi hz).le; omega⟩
 obtain ⟨a, len, cap, hv, hcp⟩ := hcap
 have b1 : ∀ code, (Instr.sliceBound (ρ' mx) cap code).run P w = .ok m.toNat w := fun code => by
  simp only [Instr.sliceBound, vm, asIntOf, Sem.run_bind, Sem.run_pure, Result.andThen_ok]
  rw [if_pos ⟨by omega, by omega⟩, Sem.run_pure]
 have b2 : ∀ code, (Instr.sliceBound (ρ' hi) m.toNat code).run P w = .ok hh.toNat w := fun code => by
  simp only [Instr.sliceBound, vh, asIntOf, Sem.run_bind, Sem.run_pure, Result.andThen_ok]
  rw [if_pos ⟨by omega, by omega⟩, Sem.run_pure]
 have b3 : ∀ code, (Instr.sliceBound (ρ' lo) hh.toNat code).run P w = .ok l.toNat w := fun code => by
  simp only [Instr.sliceBound, vl, asIntOf, Sem.run_bind, Sem.run_pure, Result.andThen_ok]
  rw [if_pos ⟨by omega, by omega⟩, Sem.run_pure]
 have b4 : (Instr.sliceBounds true len cap (some (ρ' lo)) (some (ρ' hi)) (some (ρ' mx))).run P w = .ok (l.toNat, hh.toNat, m.toNat) w := by
  simp only [Instr.sliceBounds, Sem.run_bind, b1, b2, b3, Result.andThen_ok, Sem.run_pure]
 refine ⟨.slice (if m.toNat = l.toNat then a else a.map (·.add (l.toNat * ei.size))) (hh.toNat - l.toNat) (m.toNat - l.toNat), ?_⟩
 unfold execOp
 rw [ho]
 simp only [Option.map_some, Instr.sliceAt, Sem.run_bind, hd, Result.andThen_ok, Instr.slice, hv, b4, hsz, Sem.run_pure]
theorem round_any {P : Program} {l : Nat} {f : FuncId} {tmps : Array Value} {assign body : Code} {w : World} {R : Ending → World → Prop} (ro : Option Nat) (n : Nat) (h : RoundIn (W none) 0 P l f tmps assign body w R) : RoundIn (W ro) n P l f tmps assign body w R :=
 ⟨trivial, fun c cs _ => h.2 c cs (room_wide _)⟩
theorem opVCs_run {C : Cx} {F0 : SF} (hC : C.Ok) {o : Oper} {t : List (Option PV)} {H : List (Nm × SBlk)} {nx : Nat} {K : SK} (h : opVCs C F0 o t H nx K) {E : Env} {a : Act} {w : World} (hR : HRel E (look F0 H) w) (hT : TRelF w (Zn E (look F0 H) w) E (TF t) t.length a.tmps)
  (hfr : ∀ k, nx ≤ k → E ⟨C.L, k⟩ = none) (hdp : ∀ n : Nm, C.L < n.l → E n = none) (hy : InvY C.ys E (look F0 H) w) (hd : ∀ d, o.dst = some d → d < t.length) {ro : Option Nat} {n : Nat} {next : Act → World → Prop} {Q : Exit → Act → World → Prop}
  (hK : ∀ t' H' nx' E' v w', t'.length = t.length → K t' H' nx' → nx ≤ nx' → StepR E (look F0 H) w E' (look F0 H') w' → TRelF w' (Zn E' (look F0 H') w') E' (TF t') t.length (a.put o.dst v).tmps → (∀ n, E n = none → E' n ≠ none → n.l = C.L ∧ nx ≤ n.i ∧ n.i < nx') → next (a.put o.dst v) w') :
  o.uponIn (W ro) n C.P a next Q ((o.semAt (W ro).round a.eval).run C.P w) := by
 have hev : RRel w (Zn E (look F0 H) w) E (evalT t) a.eval := by rw [evalT_eq]; exact hT.eval
 have fin : ∀ (v : PV) (upd : List (Nm × SBlk)) (top : Nat) (v' : Value) (w' : World) (E' : Env), K (putT t o.dst v) (updH H upd) top → nx ≤ top → VR w' (Zn E' ((look F0 H).upd upd) w') E' v v' → StepR E (look F0 H) w E' ((look F0 H).upd upd) w' → (∀ n, E n = none → E' n ≠ none → n.l = C.L ∧ nx ≤ n.i ∧ n.i < top) → next (a.put o.dst v') w' := by
  intro v upd top v' w' E' hk hle hv hs hn
  refine hK _ _ _ E' _ _ (putT_length _ _ _) hk hle (by rw [look_updH]; exact hs) ?_ hn
  have e := TF_put (t := t) (o := o) (r := some (mkRes True v)) hd
  simp only [mkRes] at e
  rw [e, look_updH]
  exact TRelF.putR (r := some (mkRes True v)) (hT.mono hs.ext) hv hd
 unfold opVCs at h
 split at h
 ·rename_i b0 m hn
  obtain ⟨hnd, b, q1, q2⟩ := run_nil (w := w) (P := C.P) hC.T hev hn
  rw [Oper.semAt_eq (W ro).round a.eval o hnd, q2]
  show next _ _
  refine fin _ [] nx _ _ E (h b q1) (Nat.le_refl _) (by simp [VR]) (StepR.refl hR) (fun n h1 h2 => absurd h1 h2)
 ·split at h
  ·rename_i l as hyl
   obtain ⟨y, hmem, rfl, v, upd, rd, top, ⟨hle, hc⟩, hk⟩ := h
   have hop : ∃ fo args ats, o.op = .call ⟨.value fo, args, ats⟩ ∧ evalT t fo = some (.fn (.yield y.l) [] []) ∧ vals (evalT t) args.toList = some as := by
    unfold yldT at hyl
    split at hyl
    ·rename_i fo args ats ho
     split at hyl
     ·rename_i l' as' h1 h2
      injection hyl with hyl; injection hyl with e1 e2; subst e1; subst e2
      exact ⟨fo, args, ats, ho, h1, h2⟩
     ·cases hyl
    ·cases hyl
   obtain ⟨fo, args, ats, ho, h1, h2⟩ := hop
   have hfv := hev _ _ h1
   simp only [VR, VRl] at hfv
   obtain ⟨fl', cl', he, rfl, rfl⟩ := hfv
   have hargs := vals_rel hev h2
   have hy1 : InvY [y] E (look F0 H) w := fun z hz => by simp only [List.mem_singleton] at hz; subst hz; exact hy z hmem
   obtain ⟨c1, c2⟩ := hc _ (fun _ _ => rfl) E w _ hR (fun k a _ => hfr k a) hdp hargs hy1
   have hheap := (hy y hmem).2.2.1
   rw [Oper.semAt_eq (W ro).round a.eval o (fun c hc => by rw [ho] at hc; cases hc)]
   have hrun : (execOp a.eval o).run C.P w = .ok (.round y.l y.R.fn ((y.R.params.zip (args.toList.map a.eval).toArray).foldl (fun tmps (t, a) => tmps.setIfInBounds t a) y.R.tmps) y.R.assign y.R.body) w := by
    unfold execOp
    rw [ho]
    simp only [resolve, he, Deferred.ofValue, Sem.run_bind, Sem.run_pure, Result.andThen_ok, invoke]
    rw [show (([] : List Value).toArray ++ args.map a.eval) = (args.toList.map a.eval).toArray from by apply Array.ext'; simp]
    exact run_yield hheap (by simpa using c1)
   rw [hrun]
   refine ⟨(fun hd => by cases hd), (round_any ro (n - 1) c2).mono ?_⟩
   rintro e w' ⟨v', rfl, E', g1, g2, g3⟩
   exact fin v upd top v' w' E' hk hle g1 g2 g3
  ·split at h
   ·rename_i p hc3
    obtain ⟨hp, hk⟩ := h
    obtain ⟨hnd, v, q2⟩ := run_cut3 (w := w) (P := C.P) hC.T hR hev hc3 hp
    rw [Oper.semAt_eq (W ro).round a.eval o hnd, q2]
    show next _ _
    refine hK _ _ _ E _ _ ?_ hk (Nat.le_refl _) (StepR.refl hR) ?_ (fun n h1 h2 => absurd h1 h2)
    ·cases o.dst <;> simp [unsetT]
    ·cases hod : o.dst with
     | none => simpa [unsetT, Act.put] using hT
     | some d =>
      simp only [unsetT, Act.put]
      refine ⟨by simpa using hT.size, fun i u hu => ?_⟩
      simp only [TF, List.getD_eq_getElem?_getD, List.getElem?_set] at hu
      by_cases hdi : d = i
      ·subst hdi
       rw [if_pos rfl] at hu
       split at hu <;> simp at hu
      ·rw [if_neg hdi] at hu
       obtain ⟨v', a1, a2⟩ := hT.val i u (by simpa [TF, List.getD_eq_getElem?_getD] using hu)
       exact ⟨v', by rw [Array.getElem?_setIfInBounds]; rw [if_neg hdi]; exact a1, a2⟩
   obtain ⟨r, top, hf, hk⟩ := opVC_ok hC h
   obtain ⟨hnd, hnt, hs⟩ := hf
   rw [Oper.semAt_eq (W ro).round a.eval o hnd]
   have hL := hs _ _ (fun _ _ => rfl) (fun _ _ => rfl) E w a.eval hR (fun k a _ => hfr k a) hdp hev
   refine lands_upon hL ?_
   rintro v w' ⟨E', hv', hstep, hfi⟩
   exact fin r.v r.upd top v w' E' hk hnt hv' hstep hfi
theorem seq_ok {C : Cx} {F0 : SF} (hC : C.Ok) {E0 : Env} {F1 : SF} {w0 : World} {ds : List Deferred} {m base : Nat} {ro : Option Nat} {n : Nat} {ops : List Oper} {Q : Exit → Act → World → Prop} {K : SK}
  (hds : ∀ o ∈ ops, ∀ d, o.dst = some d → d < m) (hR0 : HRel E0 F1 w0) (hfr : ∀ k, base ≤ k → E0 ⟨C.L, k⟩ = none) (hdp : ∀ n : Nm, C.L < n.l → E0 n = none) (hy : InvY C.ys E0 F1 w0)
  (hQ : ∀ t H nx E a w, K t H nx → t.length = m → base ≤ nx → StepR E0 F1 w0 E (look F0 H) w → TRelF w (Zn E (look F0 H) w) E (TF t) m a.tmps → a.defers = ds → (∀ n, E0 n = none → E n ≠ none → n.l = C.L ∧ base ≤ n.i ∧ n.i < nx) → Q .normal a w) :
  ∀ (l : List Oper) (i : Nat) (t : List (Option PV)) (H : List (Nm × SBlk)) (nx : Nat), ops.drop i = l → i ≤ ops.length → t.length = m → base ≤ nx → execS C F0 ops l t H nx K → ∀ (E : Env) (a : Act) (w : World), StepR E0 F1 w0 E (look F0 H) w → TRelF w (Zn E (look F0 H) w) E (TF t) m a.tmps → a.defers = ds →
   (∀ n, E0 n = none → E n ≠ none → n.l = C.L ∧ base ≤ n.i ∧ n.i < nx) → wpOpsIn (W ro) n C.P ops.toArray Q ((List.range ops.length).drop i) a w := by
 intro l
 induction l with
 | nil =>
  intro i t H nx hd hi hm hb h E a w hS hT hdf hn
  have hlen : i = ops.length := by
   have := List.drop_eq_nil_iff.1 hd
   omega
  subst hlen
  rw [List.drop_of_length_le (by simp)]
  exact hQ t H nx E a w h hm hb hS hT hdf hn
 | cons o l ih =>
  intro i t H nx hd hi hm hb h E a w hS hT hdf hn
  have hlt : i < ops.length := by
   rcases Nat.lt_or_ge i ops.length with h | h
   ·exact h
   ·rw [List.drop_of_length_le h] at hd; cases hd
  have hoi : ops[i]? = some o := by
   have := List.getElem?_drop (xs := ops) (i := i) (j := 0)
   rw [hd] at this
   simpa using this.symm
  have hdr : (List.range ops.length).drop i = i :: (List.range ops.length).drop (i + 1) := by
   rw [List.drop_eq_getElem_cons (by simpa using hlt)]; simp
  have hd' : ops.drop (i + 1) = l := by
   have := List.drop_eq_getElem_cons hlt
   rw [hd] at this
   injection this with _ h2
   exact h2.symm
  rw [hdr]
  simp only [wpOpsIn, List.getElem?_toArray, hoi]
  have hdo : ∀ d, o.dst = some d → d < m := hds o (List.mem_of_getElem? hoi)
  have run : (∀ j want, o.guard = some (j, want) → guardF ops (TF t) j = some (.bool want)) → opVCs C F0 o t H nx (fun t H nx => execS C F0 ops l t H nx K) →
    (if Region.wanted o (yielded ops.toArray a.tmps) = true then o.wpIn (W ro) n C.P a w (wpOpsIn (W ro) n C.P ops.toArray Q ((List.range ops.length).drop (i + 1))) Q
     else (∀ f, o.about C.P w a.eval = some f → (W ro).fn f) ∧ wpOpsIn (W ro) n C.P ops.toArray Q ((List.range ops.length).drop (i + 1)) (a.put o.dst undef) w) := by
   intro hg hop
   have hw : Region.wanted o (yielded ops.toArray a.tmps) = true := by
    cases hgd : o.guard with
    | none => simp [Region.wanted, hgd]
    | some jw =>
     obtain ⟨j, want⟩ := jw
     rw [guardF_wanted hT hgd (hg j want hgd)]
     simp
   rw [if_pos hw]
   refine ⟨fun _ _ => trivial, ?_⟩
   refine opVCs_run hC hop hS.rel (by rw [hm]; exact hT) (fun k hk => ?_) (fun q hq => ?_) (hy.step hR0 hS) (by rw [hm]; exact hdo) ?_
   ·cases he : E ⟨C.L, k⟩ with
    | none => rfl
    | some x => have := (hn ⟨C.L, k⟩ (hfr k (by omega)) (by rw [he]; simp)).2.2; simp only at this; omega
   ·cases he : E q with
    | none => rfl
    | some x => have := (hn q (hdp q hq) (by rw [he]; simp)).1; omega
   ·intro t' H' nx' E' v w' e1 e2 e3 e4 e5 e6
    refine ih (i + 1) t' H' nx' hd' (by omega) (by rw [e1]; exact hm) (by omega) e2 E' _ w' (hS.trans e4) (by rw [hm] at e5; exact e5) (by cases hdd : o.dst <;> simp [Act.put, hdf]) ?_
    intro q h1 h2
    cases he : E q with
    | none => have := e6 q he h2; exact ⟨this.1, by omega, this.2.2⟩
    | some x => have := hn q h1 (by rw [he]; simp); exact ⟨this.1, this.2.1, by omega⟩
  have skip : ∀ j want, o.guard = some (j, want) → Off (guardF ops (TF t) j) want → execS C F0 ops l (putT t o.dst undefP) H nx K →
    (if Region.wanted o (yielded ops.toArray a.tmps) = true then o.wpIn (W ro) n C.P a w (wpOpsIn (W ro) n C.P ops.toArray Q ((List.range ops.length).drop (i + 1))) Q
     else (∀ f, o.about C.P w a.eval = some f → (W ro).fn f) ∧ wpOpsIn (W ro) n C.P ops.toArray Q ((List.range ops.length).drop (i + 1)) (a.put o.dst undef) w) := by
   intro j want hg hoff hk
   rw [guardF_off hT hg hoff]
   simp only [Bool.false_eq_true, if_false]
   refine ⟨fun _ _ => trivial, ih (i + 1) _ H nx hd' (by omega) (by rw [putT_length]; exact hm) hb hk E _ w hS ?_ (by cases hdd : o.dst <;> simp [Act.put, hdf]) hn⟩
   have e := TF_put (t := t) (o := o) (r := none) (by rw [hm]; exact hdo)
   simp only at e
   rw [e]
   exact hT.putR (r := none) VR_undef hdo
  have hgv : ∀ j, guardF ops (TF t) j = guardVal ops t j := fun j => rfl
  simp only [execS] at h
  split at h
  ·rename_i hg
   exact run (fun j want he => by rw [hg] at he; cases he) h
  ·rename_i j want hg
   split at h
   ·rename_i g hb'
    by_cases hgw : g = want
    ·subst hgw
     have h1 := h.1 rfl
     rw [setG_same hb'] at h1
     exact run (fun j' want' he => by rw [hg] at he; injection he with he; injection he with e1 e2; subst e1; subst e2; rw [hgv]; exact hb') h1
    ·have hgn : g = !want := by cases g <;> cases want <;> first | rfl | exact absurd rfl hgw
     have h1 := h.2 hgn
     subst hgn
     rw [setG_same hb'] at h1
     exact skip j want hg (.inl (by rw [hgv]; exact hb')) h1
   ·rename_i hb'
    exact skip j want hg (.inr (by rw [hgv]; exact hb')) h
   ·exact h.elim
theorem callFunc_run {P : Program} {w : World} {f : FuncId} {fn : Func} {args : Array Value} (h1 : P.funcs[f]? = some fn) (h2 : fn.body.isNone = false) (h3 : (fn.name == "runtime.NumGoroutine") = false) : (callFunc f args).run P w = .ok (.enter f args) w := by
 simp [callFunc, program, Sem.run, h1]
 rw [if_neg (by simpa using h3)]
 simp only [Option.isNone_eq_false_iff] at h2
 obtain ⟨b, hb⟩ := Option.isSome_iff_exists.1 h2
 simp [hb]
def ICon (P : Program) (ys : List YRec) (f : FuncId) (args : List PV) (F : SF) (L nx top : Nat) (v : PV) (upd : List (Nm × SBlk)) (rd : List Nm) : Prop :=
 nx ≤ top ∧ ∀ (F2 : SF), (∀ n ∈ rd, F2 n = F n) → ∀ (E : Env) (w : World) (args' : List Value), HRel E F2 w → (∀ k, nx ≤ k → k < top → E ⟨L, k⟩ = none) → (∀ n : Nm, L < n.l → E n = none) →
  VRl w (Zn E F2 w) E args args' → InvY ys E F2 w → Lands P (CGives E F2 w L nx top v upd) ((callFunc f args'.toArray).run P w)
end Go.Tx
end
section
namespace Go.Tx
open Go.Sx (lt_of_get)
def Tp (C : Cx) (F0 : SF) (E0 : Env) (w0 : World) (st : St) (c : Code) (Q : Exit → St → Prop) : Prop :=
 ∀ a w E, Rel C.L F0 E0 w0 E st a w → c.wpIn (W C.ro) 0 C.P (fun e a' w' => ∃ st', Q e st' ∧ ∃ E', Rel C.L F0 E0 w0 E' st' a' w') a w
section
variable {C : Cx} {F0 : SF} {E0 : Env} {w0 : World} {st : St} {Q : Exit → St → Prop}
theorem Tp.mono {c : Code} {Q' : Exit → St → Prop} (h : Tp C F0 E0 w0 st c Q) (hq : ∀ e s, Q e s → Q' e s) : Tp C F0 E0 w0 st c Q' :=
 fun a w E ha => wpIn_mono (h a w E ha) fun _ _ _ ⟨s, h1, h2⟩ => ⟨s, hq _ _ h1, h2⟩
theorem Tp.skip (h : Q .normal st) : Tp C F0 E0 w0 st .skip Q := fun _ _ E ha => wpIn_skip ⟨st, h, E, ha⟩
theorem Tp.ret (h : Q .ret st) : Tp C F0 E0 w0 st .ret Q := fun _ _ E ha => wpIn_ret ⟨st, h, E, ha⟩
theorem Tp.exit {id : Nat} (h : Q (.exit id) st) : Tp C F0 E0 w0 st (.exit id) Q := fun _ _ E ha => wpIn_exit ⟨st, h, E, ha⟩
def thenQ (R : St → Prop) (Q : Exit → St → Prop) : Exit → St → Prop
 | .normal, s => R s
 | e, s => Q e s
theorem Tp.seq {x y : Code} (h : Tp C F0 E0 w0 st x (thenQ (fun s => Tp C F0 E0 w0 s y Q) Q)) : Tp C F0 E0 w0 st (.seq x y) Q := by
 intro a w E ha
 refine wpIn_seq (wpIn_mono (h a w E ha) ?_)
 rintro e a' w' ⟨s, h1, E', h2⟩
 cases e <;> first | exact h1 a' w' E' h2 | exact ⟨s, h1, E', h2⟩
theorem Tp.cond {c : Operand} {x y : Code} {g : Bool} (hc : evalT st.t c = some (.bool g)) (ht : g = true → Tp C F0 E0 w0 st x Q) (hf : g = false → Tp C F0 E0 w0 st y Q) : Tp C F0 E0 w0 st (.cond c x y) Q := by
 intro a w E ha
 have hd := ha.tmps.eval c (.bool g) (by rw [← evalT_eq]; exact hc)
 simp only [VR] at hd
 exact wpIn_cond_split hd (fun h => ht h a w E ha) (fun h => hf h a w E ha)
def blockQ (id : Nat) (Q : Exit → St → Prop) : Exit → St → Prop
 | .exit id', s => if id' = id then Q .normal s else Q (.exit id') s
 | e, s => Q e s
theorem Tp.block {id : Nat} {c : Code} (h : Tp C F0 E0 w0 st c (blockQ id Q)) : Tp C F0 E0 w0 st (.block id c) Q := by
 intro a w E ha
 refine wpIn_block (wpIn_mono (h a w E ha) ?_)
 rintro e a' w' ⟨s, h1, h2⟩
 cases e with
 | exit id' =>
  simp only [blockQ] at h1
  simp only [Exit.inBlock]
  split
  ·rename_i hi; rw [if_pos hi] at h1; exact ⟨s, h1, h2⟩
  ·rename_i hi; rw [if_neg hi] at h1; exact ⟨s, h1, h2⟩
 | _ => exact ⟨s, h1, h2⟩
theorem wpIn_scope {F : Fence} {n : Nat} {P : Program} {Q : Exit → Act → World → Prop} {a : Act} {w : World} {c : Code} (h : c.wpIn F n P (Exit.noGoto Q) a w) : (Code.scope c).wpIn F n P Q a w := by
 intro b k cs hro hb hr
 have h0 : (lone (b.atR a (.code (.scope c) :: k)) cs w).fenced P F := fenced_calm hb hr rfl
 have s0 : step P (lone (b.atR a (.code (.scope c) :: k)) cs w) = .next (lone (b.atR a (.code c :: .inScope c :: k)) cs w) := step_lone_go (by simp [stepG, stepG.exec, Frame.atR])
 have s1 : ∀ a w, step P (lone (b.atR a (.inScope c :: k)) cs w) = .next (lone (b.atR a k) cs w) := fun a w => step_lone_go (by simp [stepG, stepG.exec, Frame.atR])
 obtain ⟨e, a₁, w₁, hq, harr⟩ := h b (.inScope c :: k) cs hro hb hr
 cases e with
 | normal => exact ⟨.normal, a₁, w₁, hq, .head h0 s0 (StepsIn.trans harr (.one (fenced_calm hb hr rfl) (s1 _ _)))⟩
 | exit id' =>
  have hx : exitTo id' (.inScope c :: k) = exitTo id' k := by simp [exitTo]
  exact ⟨.exit id', a₁, w₁, hq, fun k' hk => .head h0 s0 (harr.1 k' (by rw [hx]; exact hk)),
   fun hr' hk => let ⟨k₁, h1, h2⟩ := harr.2 hr' (by rw [hx]; exact hk); ⟨k₁, h1, .head h0 s0 h2⟩⟩
 | goto l => exact hq.elim
 | ret => exact ⟨_, a₁, w₁, hq, .of_steps (.one h0 s0) harr⟩
 | panic ch => exact ⟨_, a₁, w₁, hq, .of_steps (.one h0 s0) harr⟩
 | outgrown => exact ⟨_, a₁, w₁, hq, .of_steps (.one h0 s0) harr⟩
def noGotoQ (Q : Exit → St → Prop) : Exit → St → Prop
 | .goto _, _ => False
 | e, s => Q e s
theorem Tp.scope {c : Code} (h : Tp C F0 E0 w0 st c (noGotoQ Q)) : Tp C F0 E0 w0 st (.scope c) Q := by
 intro a w E ha
 refine wpIn_scope (wpIn_mono (h a w E ha) ?_)
 rintro e a' w' ⟨s, h1, h2⟩
 cases e <;> first | exact h1.elim | exact ⟨s, h1, h2⟩
theorem Tp.label {l : Nat} (h : Q .normal st) : Tp C F0 E0 w0 st (.label l) Q := fun _ _ E ha => wpIn_label ⟨st, h, E, ha⟩
def dstOk (ops : List Oper) (m : Nat) : Bool := ops.all fun o => o.dst.all fun d => decide (d < m)
theorem dstOk_spec {ops : List Oper} {m : Nat} (h : dstOk ops m = true) : ∀ o ∈ ops, ∀ d, o.dst = some d → d < m := by
 intro o ho d hd
 unfold dstOk at h
 rw [List.all_eq_true] at h
 have := h o ho
 rw [hd] at this
 simpa using this
theorem Tp.region (hC : C.Ok) (hd0 : Dom0 C.L E0) (hy : InvY C.ys E0 F0 w0) (hR0 : HRel E0 F0 w0) {id : Nat} {ops : List Oper} (hds : dstOk ops st.t.length = true) (h : execS C F0 ops ops st.t st.H st.nx (fun t H nx => Q .normal ⟨t, H, nx⟩)) : Tp C F0 E0 w0 st (.region id ops.toArray false) Q := by
 intro a w E hR
 refine wpIn_region ?_
 obtain ⟨f1, f2⟩ := hR.fresh hd0
 have := seq_ok (C := C) (F0 := F0) (E0 := E) (F1 := look F0 st.H) (w0 := w) (ds := a.defers) (m := st.t.length) (base := st.nx) (ro := C.ro) (n := 0) (Q := fun e a' w' => ∃ st', Q e st' ∧ ∃ E', Rel C.L F0 E0 w0 E' st' a' w') hC (dstOk_spec hds) hR.step.rel f1 f2 (hy.step hR0 hR.step)
  (fun t H nx E' a' w' q1 q2 q3 q4 q5 q6 q7 => ⟨_, q1, E', hR.step.trans q4, by rw [q2]; exact q5, by rw [q6]; exact hR.marks.mono q4.ext, fun n g1 g2 => by
   cases he : E n with
   | none => have := q7 n he g2; exact ⟨this.1, this.2.2⟩
   | some x => have := hR.news n g1 (by rw [he]; simp); exact ⟨this.1, by simp only; omega⟩⟩)
  ops 0 st.t st.H st.nx rfl (by omega) rfl (Nat.le_refl _) h E a w (StepR.refl hR.step.rel) hR.tmps rfl (fun n h1 h2 => absurd h1 h2)
 simpa using this
theorem okDyn_dyn {ops : List Oper} {rs : List (Option Res)} (h : okDyn ops (rs.map fpOf) = true) : DynOk ops rs := by
 intro i j ri rj hi hj hu k hk hl
 unfold okDyn at h
 rw [List.all_eq_true] at h
 have h4 := h (fpOf ri, i) (by rw [List.mem_zipIdx_iff_getElem?]; simp [hi])
 rw [List.all_eq_true] at h4
 have h5 := h4 (fpOf rj, j) (by rw [List.mem_zipIdx_iff_getElem?]; simp [hj])
 simp only [hu, Bool.not_true, Bool.false_or] at h5
 exact disj_spec h5 (by simpa [fpOf] using hk) (by simpa [fpOf] using hl)
theorem Tp.regionD (hC : C.Ok) (hd0 : Dom0 C.L E0) {id : Nat} {ops : List Oper} (hst : okStatic ops st.t.length = true)
  (h : execR C F0 ops ops st.t st.H st.nx [] (fun t H nx fps => okDyn ops fps = true ∧ Q .normal ⟨t, H, nx⟩)) : Tp C F0 E0 w0 st (.region id ops.toArray true) Q := by
 intro a w E hR
 have hds := (okStatic_spec hst).2.1
 obtain ⟨rs, ls, t', H', nx', h1, h2, h3, h4⟩ := execR_tr hC hds ops st.t st.H st.nx [] (fun _ h => h) rfl h
 simp only [List.nil_append] at h3
 obtain ⟨f1, f2⟩ := hR.fresh hd0
 refine wpIn_region_any hC.mixed ?_
 have hlo := (tr_lo h1).2.1
 have hle : st.nx ≤ nx' := by
  have := lo_mono (tr_lo h1).2.2 (show 0 ≤ ops.length by omega)
  rw [hlo] at this
  simpa [lo, ← (tr_lo h1).1] using this
 have hd := tr_draw (P := C.P) (E0 := E) (F0 := look F0 st.H) (w0 := { w with drawn := w.drawn + 1 }) (ro := C.ro) (n := 0) h1 hst (okDyn_dyn h3) (ds := a.defers) (Q := fun e a' w' => ∃ st', Q e st' ∧ ∃ E', Rel C.L F0 E0 w0 E' st' a' w')
  (fun E' a' w' q1 q2 q3 q4 => ⟨_, h4, E', hR.step.drew.trans q1, by rw [h2]; exact q2, by rw [q3]; exact (hR.marks.mono (StepR.drew (StepR.refl hR.step.rel)).ext).mono q1.ext, fun n g1 g2 => by
   cases he : E n with
   | none => have := q4 n he g2; exact ⟨this.1, this.2.2⟩
   | some x => have := hR.news n g1 (by rw [he]; simp); exact ⟨this.1, by simp only; omega⟩⟩)
 have hnone : ∀ i, (Array.replicate ops.length false).getD i false = false := by
  intro i
  simp only [Array.getD]
  split <;> simp
 have hs : ops.toArray.size = ops.length := by simp
 rw [hs]
 have e1 : appl (fun i => (Array.replicate ops.length false).getD i false) 0 (rs.map hw) (look F0 st.H) = look F0 st.H := by
  funext k; exact appl_none _ (fun j x _ hs => by rw [hnone] at hs; cases hs)
 have e2 : appl (fun i => (Array.replicate ops.length false).getD i false) 0 (twL ops rs) (TF st.t) = TF st.t := by
  funext k; exact appl_none _ (fun j x _ hs => by rw [hnone] at hs; cases hs)
 refine hd ops.length (Array.replicate ops.length false) E a _ (by simp) ?_ ?_ ⟨?_, ?_, rfl, ?_, ?_, f2⟩
 ·exact Nat.le_trans List.countP_le_length (by simp)
 ·intro q k hq; rw [hnone] at hq; cases hq
 ·rw [e1]; exact StepR.refl (StepR.drew (StepR.refl hR.step.rel)).rel
 ·rw [e1, e2]; exact hR.tmps.mono (StepR.drew (StepR.refl hR.step.rel)).ext
 ·intro k hk _ hne
  rw [hlo] at hk
  exact absurd (f1 k hk) hne
 ·intro n h1 h2; exact absurd h1 h2
def Sub (L : Nat) (F0 : SF) (st st' : St) : Prop := ∀ (E0 : Env) (w0 : World) (E : Env) (a : Act) (w : World), Dom0 L E0 → Rel L F0 E0 w0 E st a w → ∃ E', Rel L F0 E0 w0 E' st' a w
theorem Sub.refl (L : Nat) (F0 : SF) (st : St) : Sub L F0 st st := fun _ _ E _ _ _ h => ⟨E, h⟩
theorem Tp.sub (hd : Dom0 C.L E0) {st' : St} {c : Code} (hs : Sub C.L F0 st st') (h : Tp C F0 E0 w0 st' c Q) : Tp C F0 E0 w0 st c Q := fun a w E ha => let ⟨E', ha'⟩ := hs _ _ E a w hd ha; h a w E' ha'
theorem Tp.loop (hd : Dom0 C.L E0) {c : Code} {ι : Type} (I : ι → St) (pre : ι → Prop) (μ : ι → Nat) (x0 : ι) (h0 : pre x0) (hs : Sub C.L F0 st (I x0))
  (round : ∀ x, pre x → Tp C F0 E0 w0 (I x) c (thenQ (fun s => ∃ y, pre y ∧ μ y < μ x ∧ Sub C.L F0 s (I y)) Q)) : Tp C F0 E0 w0 st (.loop c) Q := by
 intro a w E ha b k cs hro hb hr
 have key : ∀ (m : Nat) (x : ι) (a : Act) (w : World) (E : Env), μ x = m → pre x → Rel C.L F0 E0 w0 E (I x) a w →
   ∃ e a' w', (∃ st', Q e st' ∧ ∃ E', Rel C.L F0 E0 w0 E' st' a' w') ∧ ArrivesIn (Machine.fenced C.P (W C.ro)) C.P (lone (b.atR a (.code c :: .inLoop c :: k)) cs w) b k cs e a' w' := by
  intro m
  induction m using Nat.strongRecOn with
  | _ m ih =>
   intro x a w E hm hx hH
   obtain ⟨e, a₁, w₁, ⟨s, hq, E1, hs⟩, harr⟩ := round x hx a w E hH b (.inLoop c :: k) cs hro hb hr
   cases e with
   | normal =>
    obtain ⟨y, hy, hlt, hsub⟩ := hq
    obtain ⟨E2, hs2⟩ := hsub _ _ _ _ _ hd hs
    obtain ⟨e₂, a₂, w₂, hq₂, harr₂⟩ := ih (μ y) (hm ▸ hlt) y a₁ w₁ E2 rfl hy hs2
    exact ⟨e₂, a₂, w₂, hq₂, .of_steps (StepsIn.trans harr (.one (fenced_calm hb hr rfl) stepR_inLoop)) harr₂⟩
   | exit id => exact ⟨_, a₁, w₁, ⟨s, hq, E1, hs⟩, .pass (x := .inLoop c) rfl (fun _ _ => .inl (by simp)) harr⟩
   | goto l => exact ⟨_, a₁, w₁, ⟨s, hq, E1, hs⟩, .pass (x := .inLoop c) rfl (fun _ _ => .inl (by simp)) harr⟩
   | ret => exact ⟨_, a₁, w₁, ⟨s, hq, E1, hs⟩, .pass (x := .inLoop c) rfl (fun _ _ => .inl (by simp)) harr⟩
   | panic ch => exact ⟨_, a₁, w₁, ⟨s, hq, E1, hs⟩, .pass (x := .inLoop c) rfl (fun _ _ => .inl (by simp)) harr⟩
   | outgrown => exact ⟨_, a₁, w₁, ⟨s, hq, E1, hs⟩, .pass (x := .inLoop c) rfl (fun _ _ => .inl (by simp)) harr⟩
 obtain ⟨E', ha'⟩ := hs _ _ _ _ _ hd ha
 obtain ⟨e, a', w', hq, harr⟩ := key _ x0 a w E' rfl h0 ha'
 exact ⟨e, a', w', hq, .of_steps (.one (fenced_calm hb hr rfl) stepR_loop) harr⟩
end
def RangeVC (C : Cx) (F0 : SF) (g : Operand) (ps : Array Tmp) (assign body : Code) (st : St) (Q : Exit → St → Prop) : Prop :=
 match evalT st.t g with
 | some (.fn (.func f) fl cl) => C.ro = none ∧ (∃ fn, C.P.funcs[f]? = some fn ∧ fn.body.isNone = false ∧ (fn.name == "runtime.NumGoroutine") = false) ∧
  ∃ t0 v upd rd top, (t0.length = st.t.length ∧ ∀ i v, TF t0 i = some v → TF st.t i = some v) ∧ (∀ y : YRec, y.R.params = ps → y.R.assign = assign → y.R.body = body → y.t = t0 → ICon C.P [y] f (fl ++ [.fn (.yield y.l) [] []] ++ cl) (look F0 st.H) C.L st.nx top v upd rd) ∧ Q .normal ⟨st.t, updH st.H upd, top⟩
 | _ => False
theorem Tp.rangeFunc {C : Cx} {F0 : SF} {E0 : Env} {w0 : World} (hd : Dom0 C.L E0) {g : Operand} {ps : Array Tmp} {assign body : Code} {st : St} {Q : Exit → St → Prop} (h : RangeVC C F0 g ps assign body st Q) : Tp C F0 E0 w0 st (.rangeFunc g ps assign body) Q := by
 intro a w E hR
 unfold RangeVC at h
 split at h
 rotate_left
 ·exact h.elim
 rename_i f fl cl hg
 obtain ⟨hro, ⟨fn, hfn1, hfn2, hfn3⟩, t0, v, upd, rd, top, ⟨ht0, ht1⟩, hc, hq⟩ := h
 have hgv := hR.tmps.eval g _ (by rw [← evalT_eq]; exact hg)
 simp only [VR] at hgv
 obtain ⟨fl', cl', hge, hfl, hcl⟩ := hgv
 obtain ⟨f1, f2⟩ := hR.fresh hd
 rw [hro]
 refine wpIn_rangeFunc ?_
 intro fnn _
 let D := w.heap.size
 let R0 : Loop := { state := .ready, pending := none, fn := fnn, tmps := a.tmps, params := ps, assign, body, defers := D }
 let W1 := (w.alloc (.deferred (some []))).alloc (.loop R0)
 have s1 := StepR.alloc hR.step.rel (.deferred (some []))
 have s2 := StepR.alloc s1.rel (.loop R0)
 have s12 : StepR E (look F0 st.H) w E (look F0 st.H) W1 := s1.trans s2
 have hD1 : W1.heap[D]? = some (.deferred (some [])) := (Go.RowKit.Below.heap_alloc _ _ _ (by simp [D])).trans (World.alloc_heap_new w _)
 have hl1 : W1.heap[D + 1]? = some (.loop R0) := by
  have := World.alloc_heap_new (w.alloc (.deferred (some []))) (.loop R0)
  rwa [World.size_alloc] at this
 let y : YRec := ⟨D + 1, R0, t0⟩
 have hy : InvY [y] E (look F0 st.H) W1 := by
  intro z hz
  simp only [List.mem_singleton] at hz
  subst hz
  have h0 := hR.tmps.mono s12.ext
  exact ⟨rfl, rfl, hl1, ⟨by rw [ht0]; exact h0.size, fun i v hv => h0.val i v (ht1 i v hv)⟩⟩
 have hic := hc y rfl rfl rfl rfl
 have hargs : VRl W1 (Zn E (look F0 st.H) W1) E (fl ++ [.fn (.yield y.l) [] []] ++ cl) (fl' ++ [Value.func (.yield y.l) #[] #[]] ++ cl') := by
  refine VRl.append (VRl.append (VRl.mono s12.ext _ _ hfl) ?_) (VRl.mono s12.ext _ _ hcl)
  simp only [VRl]
  exact ⟨_, _, rfl, by simp only [VR, VRl]; exact ⟨[], [], rfl, rfl, rfl⟩, rfl⟩
 have hland := hic.2 _ (fun _ _ => rfl) E W1 _ s12.rel (fun k h1 _ => f1 k h1) f2 hargs hy
 rw [callFunc_run hfn1 hfn2 hfn3] at hland
 have hcalls : Calls C.P f (fl' ++ [Value.func (.yield y.l) #[] #[]] ++ cl').toArray W1 fun e w'' => ∃ v', e = .returned v' ∧ CGives E (look F0 st.H) W1 C.L st.nx top v upd v' w'' := hland
 rw [← callsIn_wide (n := 0 - 1)] at hcalls
 refine ⟨D + 1, [mkD D], W1, { target := .fn (.func f) cl'.toArray, args := fl'.toArray ++ #[Value.func (.yield (D + 1)) #[] #[]] }, W1, f, (fl' ++ [Value.func (.yield y.l) #[] #[]] ++ cl').toArray, W1, run_enterLoop_outer _ _ _ _ _, ?_, fun _ _ => trivial, ?_, (fun hd => by cases hd), ?_⟩
 ·simp only [resolve, hge, Deferred.ofValue, Sem.run_pure]
  simp [Act.eval]
 ·simp only [invoke]
  rw [callFunc_run hfn1 hfn2 hfn3]
  congr 2
  apply Array.ext'
  simp [y]
 ·refine hcalls.mono ?_
  rintro e w3 ⟨v', rfl, E', g1, g2, g3⟩
  have hl3 : w3.heap[D + 1]? = some (.loop R0) := (g2.keep _ (heap_lt hl1) (s12.rel.unowned (noData_loop hl1))).trans hl1
  have hD3 : w3.heap[D]? = some (.deferred (some [])) := (g2.keep _ (heap_lt hD1) (s12.rel.unowned (noData_deferred hD1))).trans hD1
  have ht := turn_put w3 (D + 1) (.loop { R0 with state := .exhausted })
  have hno := noData_loop hl3
  have hw0 : w0.heap.size ≤ D := hR.step.size
  have S3 := (hR.step.trans s12).trans g2
  have S4 := S3.turn hno ht (by omega)
  have hx := s12.ext
  refine ⟨none, _, run_endLoop hl3 (by simp [R0]), ⟨st.t, updH st.H upd, top⟩, hq, E', ?_, ?_, ?_, ?_⟩
  ·rw [look_updH]; exact S4
  ·rw [look_updH]
   refine ⟨hR.tmps.size, fun i x hxv => ?_⟩
   obtain ⟨x', a1, a2⟩ := hR.tmps.val i x hxv
   exact ⟨x', a1, VR.turn hno ht (VR.mono g2.ext _ _ (VR.mono s12.ext _ _ a2))⟩
  ·rw [look_updH]
   obtain ⟨Ds, d1, d2, d3⟩ := (hR.marks.mono s12.ext).mono g2.ext
   have hDs : ∀ D' ∈ Ds, D' < D := by
    intro D' h'
    obtain ⟨Ds2, e1, e2, e3⟩ := hR.marks
    have : Ds2 = Ds := by
     have hinj : ∀ x y : Nat, mkD x = mkD y → x = y := fun x y h => by simp [mkD] at h; exact h
     exact (List.map_inj_right (fun x y h => hinj x y h)).1 (e2.symm.trans d2)
    exact (e3 D' (this ▸ h')).2.1.1
   refine ⟨D :: Ds, ?_, by rw [List.map_cons, ← d2]; rfl, fun D' h' => ?_⟩
   ·simp only [List.nodup_cons]; exact ⟨fun h => by have := hDs D h; omega, d1⟩
   ·simp only [List.mem_cons] at h'
    rcases h' with rfl | h'
    ·have hz := g2.rel.inZone (noData_deferred hD3) (heap_lt hD3)
     exact ⟨hw0, ⟨by rw [ht.size]; exact hz.1, hz.2⟩, (ht.keep _ (by omega)).trans hD3⟩
    ·obtain ⟨c1, c2, c3⟩ := d3 D' h'
     have := hDs D' h'
     exact ⟨c1, ⟨by rw [ht.size]; exact c2.1, c2.2⟩, (ht.keep _ (by omega)).trans c3⟩
  ·intro n h1 h2
   cases he : E n with
   | none => have := g3 n he h2; exact ⟨this.1, this.2.2⟩
   | some x => have := hR.news n h1 (by rw [he]; simp); have := hic.1; exact ⟨(hR.news n h1 (by rw [he]; simp)).1, by simp only; omega⟩
def LoopVC (C : Cx) (F0 : SF) (v : St → (Exit → St → Prop) → Prop) (st : St) (Q : Exit → St → Prop) : Prop :=
 ∃ (ι : Type) (I : ι → St) (pre : ι → Prop) (μ : ι → Nat) (x0 : ι), pre x0 ∧ Sub C.L F0 st (I x0) ∧ ∀ x, pre x → v (I x) (thenQ (fun s => ∃ y, pre y ∧ μ y < μ x ∧ Sub C.L F0 s (I y)) Q)
def vcC (C : Cx) (F0 : SF) : Code → St → (Exit → St → Prop) → Prop
 | .skip, st, Q => Q .normal st
 | .ret, st, Q => Q .ret st
 | .exit id, st, Q => Q (.exit id) st
 | .seq a b, st, Q => vcC C F0 a st (thenQ (fun s => vcC C F0 b s Q) Q)
 | .cond c x y, st, Q => match evalT st.t c with | some (.bool g) => brB g true (vcC C F0 x st Q) (vcC C F0 y st Q) | _ => False
 | .block id c, st, Q => vcC C F0 c st (blockQ id Q)
 | .scope c, st, Q => vcC C F0 c st (noGotoQ Q)
 | .label _, st, Q => Q .normal st
 | .loop c, st, Q => LoopVC C F0 (vcC C F0 c) st Q
 | .region _ ⟨ops⟩ false, st, Q => dstOk ops st.t.length = true ∧ execS C F0 ops ops st.t st.H st.nx (fun t H nx => Q .normal ⟨t, H, nx⟩)
 | .region _ ⟨ops⟩ true, st, Q => okStatic ops st.t.length = true ∧ execR C F0 ops ops st.t st.H st.nx [] (fun t H nx fps => okDyn ops fps = true ∧ Q .normal ⟨t, H, nx⟩)
 | .rangeFunc g ps assign body, st, Q => RangeVC C F0 g ps assign body st Q
 | _, _, _ => False
theorem vcC_ok {C : Cx} {F0 : SF} {E0 : Env} {w0 : World} (hC : C.Ok) (hd : Dom0 C.L E0) (hy : InvY C.ys E0 F0 w0) (hR0 : HRel E0 F0 w0) : ∀ (c : Code) (st : St) (Q : Exit → St → Prop), vcC C F0 c st Q → Tp C F0 E0 w0 st c Q := by
 intro c
 induction c with
 | skip => intro st Q h; exact Tp.skip h
 | ret => intro st Q h; exact Tp.ret h
 | exit id => intro st Q h; exact Tp.exit h
 | seq a b iha ihb =>
  intro st Q h
  refine Tp.seq ((iha st _ h).mono ?_)
  intro e s hs
  cases e <;> first | exact ihb _ _ hs | exact hs
 | cond c x y ihx ihy =>
  intro st Q h
  simp only [vcC] at h
  split at h
  ·rename_i g hg
   exact Tp.cond hg (fun e => ihx _ _ (h.1 e)) (fun e => ihy _ _ (h.2 (by simp [e])))
  ·exact h.elim
 | block id c ih => intro st Q h; exact Tp.block (ih _ _ h)
 | scope c ih => intro st Q h; exact Tp.scope (ih _ _ h)
 | label l => intro st Q h; exact Tp.label h
 | loop c ih =>
  intro st Q h
  obtain ⟨ι, I, pre, μ, x0, h1, h2, h3⟩ := h
  exact Tp.loop hd I pre μ x0 h1 h2 fun x hx => ih _ _ (h3 x hx)
 | region id ops draw =>
  intro st Q h
  obtain ⟨ops⟩ := ops
  cases draw with
  | false => exact Tp.region hC hd hy hR0 h.1 h.2
  | true => exact Tp.regionD hC hd h.1 h.2
 | rangeFunc g ps assign body => intro st Q h; exact Tp.rangeFunc hd h
 | _ => intro st Q h; simp only [vcC] at h
end Go.Tx
end
section
namespace Go.Tx
open Go.Sx (lt_of_get)
def resVal1 (T : Tys) (F : SF) (t : List (Option PV)) : ResultVar → Option (Prop × PV)
 | .tmp i => (t.getD i none).map fun v => (True, v)
 | .cell a ty => (t.getD a none).bind fun p => (semLoad T F ty p).map fun r => (r.vc, r.v)
def resVals (T : Tys) (F : SF) (t : List (Option PV)) : List ResultVar → Option (Prop × List PV)
 | [] => some (True, [])
 | x :: l => (resVal1 T F t x).bind fun q => (resVals T F t l).map fun qs => (q.1 ∧ qs.1, q.2 :: qs.2)
def one : List PV → PV
 | [v] => v
 | vs => .tup vs
def resVal (T : Tys) (F : SF) (t : List (Option PV)) (l : List ResultVar) : Option (Prop × PV) :=
 (resVals T F t l).map fun q => (q.1, one q.2)
section
variable {P : Program} {T : Tys} {E : Env} {F : SF} {w : World}
theorem run_results1 (hT : T.Ok P) (hR : HRel E F w) {t : List (Option PV)} {m : Nat} {a : Act} (ht : TRelF w (Zn E F w) E (TF t) m a.tmps) : ∀ {x : ResultVar} {p : Prop} {v : PV}, resVal1 T F t x = some (p, v) → p →
  ∃ v', (match x with | .tmp t => pure (a.tmps.getD t undef) | .cell b t => do loadVar t (← asAddr (a.tmps.getD b undef)) : Sem Value).run P w = .ok v' w ∧ VR w (Zn E F w) E v v' := by
 intro x p v h hp
 cases x with
 | tmp i =>
  simp only [resVal1, Option.map_eq_some_iff, Prod.mk.injEq] at h
  obtain ⟨u, h1, _, rfl⟩ := h
  obtain ⟨v', a1, a2⟩ := ht.val i u h1
  exact ⟨v', by simp [a1], a2⟩
 | cell b ty =>
  simp only [resVal1, Option.bind_eq_some_iff, Option.map_eq_some_iff, Prod.mk.injEq] at h
  obtain ⟨u, h1, r, h2, rfl, rfl⟩ := h
  obtain ⟨u', a1, a2⟩ := ht.val b u h1
  have hadd : ∃ q, u' = .pointer (some q) := by
   unfold semLoad at h2
   split at h2
   ·simp only [VR] at a2; obtain ⟨i, _, _, rfl⟩ := a2; exact ⟨_, rfl⟩
   ·simp only [VR] at a2; obtain ⟨_, _, _, _, _, rfl, _⟩ := a2; exact ⟨_, rfl⟩
   ·cases h2
  obtain ⟨q, rfl⟩ := hadd
  obtain ⟨v2, s1, s2⟩ := sound_load' (P := P) hT hR h2 hp a2
  refine ⟨v2, ?_, s2⟩
  simp only [Instr.loadAt, Instr.sureAddr, Sem.run_bind, Sem.run_pure, Result.andThen_ok] at s1
  have e : a.tmps.getD b undef = .pointer (some q) := by simp [a1]
  simp only [e, asAddr, Sem.run_bind, Sem.run_pure, Result.andThen_ok]
  exact s1
theorem run_results (hT : T.Ok P) (hR : HRel E F w) {t : List (Option PV)} {m : Nat} {a : Act} (ht : TRelF w (Zn E F w) E (TF t) m a.tmps) : ∀ {l : List ResultVar} {p : Prop} {vs : List PV}, resVals T F t l = some (p, vs) → p →
  ∃ vs', (l.mapM (fun | .tmp t => pure (a.tmps.getD t undef) | .cell b t => do loadVar t (← asAddr (a.tmps.getD b undef)) : ResultVar → Sem Value)).run P w = .ok vs' w ∧ VRl w (Zn E F w) E vs vs'
 | [], p, vs, h, _ => by
  simp only [resVals, Option.some.injEq, Prod.mk.injEq] at h
  obtain ⟨_, rfl⟩ := h
  exact ⟨[], by simp, by simp [VRl]⟩
 | x :: l, p, vs, h, hp => by
  simp only [resVals, Option.bind_eq_some_iff, Option.map_eq_some_iff, Prod.mk.injEq] at h
  obtain ⟨⟨p1, v1⟩, h1, ⟨p2, v2⟩, h2, rfl, rfl⟩ := h
  obtain ⟨v', a1, a2⟩ := run_results1 hT hR ht h1 hp.1
  obtain ⟨vs', b1, b2⟩ := run_results hT hR ht h2 hp.2
  refine ⟨v' :: vs', ?_, by simp only [VRl]; exact ⟨_, _, rfl, a2, b2⟩⟩
  simp only [List.mapM_cons, Sem.run_bind]
  cases x with
  | tmp t => simp only at a1; rw [a1]; simp only [Result.andThen_ok, b1, Sem.run_pure]
  | cell b t => simp only at a1; rw [a1]; simp only [Result.andThen_ok, b1, Sem.run_pure]
theorem run_res (hT : T.Ok P) (hR : HRel E F w) {t : List (Option PV)} {m : Nat} {a : Act} (ht : TRelF w (Zn E F w) E (TF t) m a.tmps) {fn : Func} {p : Prop} {v : PV} (h : resVal T F t fn.results.toList = some (p, v)) (hp : p) :
  ∃ v', (results fn a.tmps).run P w = .ok v' w ∧ VR w (Zn E F w) E v v' := by
 simp only [resVal, Option.map_eq_some_iff, Prod.mk.injEq] at h
 obtain ⟨⟨q, vs⟩, h1, rfl, rfl⟩ := h
 obtain ⟨vs', a1, a2⟩ := run_results hT hR ht h1 hp
 clear hp
 have hlen := (VRl.get a2).1
 have hrun : (fn.results.mapM (fun | .tmp t => pure (a.tmps.getD t undef) | .cell b t => do loadVar t (← asAddr (a.tmps.getD b undef)) : ResultVar → Sem Value)).run P w = .ok vs'.toArray w := by
  rw [Array.mapM_eq_mapM_toList, Sem.run_map, a1]; rfl
 have hres : (results fn a.tmps).run P w = .ok (if h : vs'.toArray.size = 1 then vs'.toArray[0] else .tuple vs'.toArray) w := by
  unfold results
  rw [Sem.run_bind]
  exact (congrArg (fun q : Result (Array Value) => q.andThen fun vs w' => Sem.run P (pure (if h : vs.size = 1 then vs[0] else .tuple vs)) w') (hrun : _)).trans rfl
 clear hrun a1 h1
 refine ⟨_, hres, ?_⟩
 match vs, vs', a2, hlen with
 | [], [], a2, _ => simp only [one, VR]; exact ⟨[], by simp, a2⟩
 | [u], [u'], a2, _ =>
  simp only [VRl] at a2
  obtain ⟨_, _, h, a2, _⟩ := a2
  injection h with h1 h2; subst h1
  simpa [one] using a2
 | u :: u2 :: l, u' :: u2' :: l', a2, _ =>
  simp only [one, VR]
  exact ⟨u' :: u2' :: l', by simp, a2⟩
 | [], _ :: _, _, h => simp at h
 | [_], [], _, h => simp at h
 | [_], _ :: _ :: _, _, h => simp at h
 | _ :: _ :: _, [], _, h => simp at h
 | _ :: _ :: _, [_], _, h => simp at h
mutual
theorem VR.back {w0 w : World} {Z0 Z : Nat → Prop} {E E' E'' : Env} (hE : ∀ n i, E n = some i → E' n = some i ∧ E'' n = some i) : ∀ (x : PV) (v0 v : Value), VR w0 Z0 E x v0 → VR w Z E' x v → VR w Z E'' x v
 | .bool _, _, v, _, h => by simpa [VR] using h
 | .int _ _, _, v, _, h => by simpa [VR] using h
 | .str _, _, v, _, h => by simpa [VR] using h
 | .nilP, _, v, _, h => by simpa [VR] using h
 | .nilS, _, v, _, h => by simpa [VR] using h
 | .nilM, _, v, _, h => by simpa [VR] using h
 | .nilF, _, v, _, h => by simpa [VR] using h
 | .nilI, _, v, _, h => by simpa [VR] using h
 | .ptr n _ _, _, v, h0, h => by
  simp only [VR] at h0 h ⊢
  obtain ⟨i, hi, _⟩ := h0
  obtain ⟨h1, h2⟩ := hE n i hi
  obtain ⟨j, hj, h⟩ := h
  rw [h1] at hj; injection hj with hj; subst hj
  exact ⟨i, h2, h⟩
 | .sl n _ _, _, v, h0, h => by
  simp only [VR] at h0 h ⊢
  obtain ⟨i, hi, _⟩ := h0
  obtain ⟨h1, h2⟩ := hE n i hi
  obtain ⟨j, hj, h⟩ := h
  rw [h1] at hj; injection hj with hj; subst hj
  exact ⟨i, h2, h⟩
 | .mp n, _, v, h0, h => by
  simp only [VR] at h0 h ⊢
  obtain ⟨i, hi, _⟩ := h0
  obtain ⟨h1, h2⟩ := hE n i hi
  obtain ⟨j, hj, h⟩ := h
  rw [h1] at hj; injection hj with hj; subst hj
  exact ⟨i, h2, h⟩
 | .fp _ _ _ _, _, v, _, h => by simp only [VR] at h ⊢; exact h
 | .fs _ _, _, v, _, h => by simp only [VR] at h ⊢; exact h
 | .fm _ _, _, v, _, h => by simp only [VR] at h ⊢; exact h
 | .fn f x y, _, v, h0, h => by
  simp only [VR] at h0 h ⊢
  obtain ⟨x0, y0, rfl, a1, a2⟩ := h0
  obtain ⟨x', y', rfl, b1, b2⟩ := h
  exact ⟨x', y', rfl, VRl.back hE x _ _ a1 b1, VRl.back hE y _ _ a2 b2⟩
 | .ifc t u, _, v, h0, h => by
  simp only [VR] at h0 h ⊢
  obtain ⟨u0, rfl, a1⟩ := h0
  obtain ⟨u', rfl, b1⟩ := h
  exact ⟨u', rfl, VR.back hE u _ _ a1 b1⟩
 | .agg l, _, v, h0, h => by
  simp only [VR] at h0 h ⊢
  obtain ⟨l0, rfl, _, a1⟩ := h0
  obtain ⟨l', rfl, b0, b1⟩ := h
  exact ⟨l', rfl, b0, VRl.back hE l _ _ a1 b1⟩
 | .tup l, _, v, h0, h => by
  simp only [VR] at h0 h ⊢
  obtain ⟨l0, rfl, a1⟩ := h0
  obtain ⟨l', rfl, b1⟩ := h
  exact ⟨l', rfl, VRl.back hE l _ _ a1 b1⟩
theorem VRl.back {w0 w : World} {Z0 Z : Nat → Prop} {E E' E'' : Env} (hE : ∀ n i, E n = some i → E' n = some i ∧ E'' n = some i) : ∀ (x : List PV) (v0 v : List Value), VRl w0 Z0 E x v0 → VRl w Z E' x v → VRl w Z E'' x v
 | [], _, v, _, h => by simpa [VRl] using h
 | x :: l, v0, v, h0, h => by
  simp only [VRl] at h0 h ⊢
  obtain ⟨u0, t0, rfl, a1, a2⟩ := h0
  obtain ⟨u, t, rfl, b1, b2⟩ := h
  exact ⟨u, t, rfl, VR.back hE x _ _ a1 b1, VRl.back hE l _ _ a2 b2⟩
end
theorem VRr.back {w0 w : World} {Z0 Z : Nat → Prop} {E E' E'' : Env} (hE : ∀ n i, E n = some i → E' n = some i ∧ E'' n = some i) {rs : List (List PV)} {wd o0 o : Nat} {cs0 cs : Array Value} (hl : ∀ row ∈ rs, row.length = wd)
  (h0 : VRr w0 Z0 E rs o0 cs0) (h : VRr w Z E' rs o cs) : VRr w Z E'' rs o cs := by
 refine (VRr_iff hl).2 fun r row c x hr hc => ?_
 obtain ⟨v0, _, _, a⟩ := (VRr_iff hl).1 h0 r row c x hr hc
 obtain ⟨v, b1, b2, b3⟩ := (VRr_iff hl).1 h r row c x hr hc
 exact ⟨v, b1, b2, VR.back hE x _ _ a b3⟩
theorem BRel.back {w0 w : World} {Z0 Z : Nat → Prop} {E E' E'' : Env} (hE : ∀ n i, E n = some i → E' n = some i ∧ E'' n = some i) {n : Nm} {b : SBlk} (h0 : BRel E w0 Z0 n b) (h : BRel E' w Z n b) : BRel E'' w Z n b := by
 have hEE : ∀ p : Bool, ∀ n i, EE E p n = some i → EE E' p n = some i ∧ EE E'' p n = some i := by
  intro p; cases p
  ·exact hE
  ·intro n i h; cases h
 cases b with
 | dead => trivial
 | rows e wd own p rs =>
  obtain ⟨i, hi, hor0⟩ := h0
  obtain ⟨j, hj, hor⟩ := h
  obtain ⟨q1, q2⟩ := hE n i hi
  rw [q1] at hj; injection hj with hj; subst hj
  refine ⟨i, q2, ?_⟩
  rcases hor with hz | ⟨hz, hR⟩
  ·exact .inl hz
  ·rcases hor0 with ⟨z0, _⟩ | ⟨_, hR0⟩
   ·rw [hz] at z0; cases z0
   refine .inr ⟨hz, hR.wd_eq, hR.o0, hR.wd_pos, hR.len, hR.le, hR.cap, ?_⟩
   obtain ⟨cs, fz, b1, b2, b3, b4⟩ := hR.cells
   obtain ⟨cs0, fz0, c1, c2, c3, c4⟩ := hR0.cells
   exact ⟨cs, fz, b1, b2, b3, VRr.back (hEE p) hR.len c4 b4⟩
 | map own p ks vs =>
  obtain ⟨i, hi, hz, ents0, clk0, hb0, hm0⟩ := h0
  obtain ⟨j, hj, _, ents, clk, hb, hm⟩ := h
  obtain ⟨q1, q2⟩ := hE n i hi
  rw [q1] at hj; injection hj with hj; subst hj
  exact ⟨i, q2, hz, ents, clk, hb, VRl.back (hEE p) _ _ _ hm0.1 hm.1, VRl.back (hEE p) _ _ _ hm0.2 hm.2⟩
end
end Go.Tx
end
section
namespace Go.Tx
open Go.Sx (lt_of_get)
def initT (args : List PV) (n : Nat) : List (Option PV) := args.map some ++ List.replicate (n - args.length) (some undefP)
def WkLL (F : SF) : List (List PV) → List (List PV) → Prop
 | [], [] => True
 | x :: l, y :: l' => WkL F x y ∧ WkLL F l l'
 | _, _ => False
def wkNLL : List (List PV) → List (List PV) → List Nm
 | x :: l, y :: l' => wkNL x y ++ wkNLL l l'
 | _, _ => []
def BW (L : Nat) (G : SF) : Option SBlk → SBlk → Prop
 | some (.rows e wd o p rs), .rows e' wd' o' p' rs' => e = e' ∧ wd = wd' ∧ (o' = true → o = true) ∧ p' = true ∧ ((p = true ∧ rs = rs') ∨ (WkLL G rs rs' ∧ (∀ n ∈ wkNLL rs rs', n.l = L + 1) ∧ rs'.all nfl = true))
 | some (.map o p ks vs), .map o' p' ks' vs' => (o' = true → o = true) ∧ p' = true ∧ p = true ∧ ks = ks' ∧ vs = vs'
 | _, .dead => True
 | _, _ => False
def UpdIn (L : Nat) (G : SF) : List (Nm × SBlk) → Prop
 | [] => True
 | (n, b) :: l => n.l ≤ L ∧ BW L G (G n) b ∧ UpdIn L G l
def UpdAll (L : Nat) (ks : List Nm) : List (Nm × SBlk) → Prop
 | [] => True
 | (n, _) :: l => (n.l = L + 1 ∨ n ∈ ks) ∧ UpdAll L ks l
structure PostF (T : Tys) (F : SF) (rl : List ResultVar) (L : Nat) (v : PV) (upd : List (Nm × SBlk)) (e : Exit) (st : St) : Prop where
 e : e = .normal ∨ e = .ret
 res : ∃ p v0, resVal T (look F st.H) st.t rl = some (p, v0) ∧ p ∧ Wk (look F st.H) v0 v ∧ (∀ n ∈ wkN v0 v, n.l = L + 1)
 nf : nf v = true
 ok : UpdIn L (look F st.H) upd
 all : UpdAll L (keys upd) st.H
theorem UpdIn.mem {L : Nat} {G : SF} {n : Nm} {b : SBlk} : ∀ {l : List (Nm × SBlk)}, UpdIn L G l → (n, b) ∈ l → n.l ≤ L ∧ BW L G (G n) b
 | (m, c) :: l, h, hm => by
  rcases List.mem_cons.1 hm with hm | hm
  ·injection hm with h1 h2; subst h1; subst h2; exact ⟨h.1, h.2.1⟩
  ·exact UpdIn.mem h.2.2 hm
theorem UpdAll.look {L : Nat} {ks : List Nm} {F : SF} {n : Nm} (hn : n.l ≤ L) (hk : n ∉ ks) : ∀ {H : List (Nm × SBlk)}, UpdAll L ks H → look F H n = F n
 | [], _ => rfl
 | (m, c) :: l, h => by
  simp only [Tx.look]
  split
  ·rename_i he; subst he
   rcases h.1 with h | h
   ·omega
   ·exact absurd h hk
  ·exact UpdAll.look hn hk h.2
theorem wkLL_get {F : SF} : ∀ {rs rs' : List (List PV)}, WkLL F rs rs' → rs.length = rs'.length ∧ ∀ (r : Nat) (row row' : List PV), rs[r]? = some row → rs'[r]? = some row' → WkL F row row' ∧ ∀ n ∈ wkNL row row', n ∈ wkNLL rs rs'
 | [], [], _ => ⟨rfl, by intro r row row' h; cases h⟩
 | x :: l, y :: l', h => by
  obtain ⟨h1, h2⟩ := wkLL_get h.2
  refine ⟨by simp [h1], fun r row row' hr hr' => ?_⟩
  cases r with
  | zero =>
   simp at hr hr'; subst hr; subst hr'
   exact ⟨h.1, fun n hn => by simp [wkNLL, hn]⟩
  | succ r =>
   obtain ⟨q1, q2⟩ := h2 r row row' (by simpa using hr) (by simpa using hr')
   exact ⟨q1, fun n hn => by simp [wkNLL, q2 n hn]⟩
 | [], _ :: _, h => by simp [WkLL] at h
 | _ :: _, [], h => by simp [WkLL] at h
theorem wkL_get {F : SF} : ∀ {l l' : List PV}, WkL F l l' → l.length = l'.length ∧ ∀ (c : Nat) (x y : PV), l[c]? = some x → l'[c]? = some y → Wk F x y ∧ ∀ n ∈ wkN x y, n ∈ wkNL l l'
 | [], [], _ => ⟨rfl, by intro r row row' h; cases h⟩
 | x :: l, y :: l', h => by
  simp only [WkL] at h
  obtain ⟨h1, h2⟩ := wkL_get h.2
  refine ⟨by simp [h1], fun r a b hr hr' => ?_⟩
  cases r with
  | zero =>
   simp at hr hr'; subst hr; subst hr'
   exact ⟨h.1, fun n hn => by simp [wkNL, hn]⟩
  | succ r =>
   obtain ⟨q1, q2⟩ := h2 r a b (by simpa using hr) (by simpa using hr')
   exact ⟨q1, fun n hn => by simp [wkNL, q2 n hn]⟩
 | [], _ :: _, h => by simp [WkL] at h
 | _ :: _, [], h => by simp [WkL] at h
theorem nfl_get : ∀ {l : List PV}, nfl l = true → ∀ x ∈ l, nf x = true
 | [], _, x, hx => by cases hx
 | a :: l, h, x, hx => by
  simp only [nfl, Bool.and_eq_true] at h
  rcases List.mem_cons.1 hx with rfl | hx
  ·exact h.1
  ·exact nfl_get h.2 x hx
theorem marks_out {P : Program} {E0 E' : Env} {F0 G : SF} {w0 : World} {f : Nat → Option PV} {m : Nat} {tm : Array Value} {F : Fence} {n : Nat} {fn : Func} {R : Ending → World → Prop} : ∀ (Ds : List Nat) (w' : World), Ds.Nodup → (∀ D ∈ Ds, w0.heap.size ≤ D ∧ w'.heap[D]? = some (.deferred (some []))) →
  StepR E0 F0 w0 E' G w' → TRelF w' (Zn E' G w') E' f m tm → (∀ w'', StepR E0 F0 w0 E' G w'' → TRelF w'' (Zn E' G w'') E' f m tm → LeavesIn F n P fn tm R [] .returning w'') → LeavesInM F n P fn tm R (Ds.map mkD) .returning w'
 | [], w', _, _, h1, h2, h => h w' h1 h2
 | D :: Ds, w', hnd, hD, h1, h2, h => by
  obtain ⟨g1, g2⟩ := hD D (by simp)
  have hno := noData_deferred g2
  have ht := turn_put w' D (.deferred none)
  simp only [List.nodup_cons] at hnd
  refine ⟨by simp, .inl ⟨D, w'.putObj D (.deferred none), rfl, run_takeDeferred g2, ?_⟩⟩
  refine marks_out Ds _ hnd.2 (fun D' h' => ?_) (h1.turn hno ht g1) ⟨h2.size, fun i v hv => ?_⟩ h
  ·have := hD D' (by simp [h'])
   exact ⟨this.1, (ht.keep _ (fun e => hnd.1 (e ▸ h'))).trans this.2⟩
  ·obtain ⟨v', a1, a2⟩ := h2.val i v hv
   exact ⟨v', a1, a2.turn hno ht⟩
section
variable {C : Cx}
theorem Con.body (hC : C.Ok) (hro : C.ro = none) (hys : C.ys = []) {f : FuncId} {fn : Func} {c : Code} (hf : C.P.funcs[f]? = some fn) (hb : fn.body = some c) (hnum : (fn.name == "runtime.NumGoroutine") = false) {args : List PV} {F : SF} {L nx : Nat} (hL : C.L = L + 1) {v : PV} {upd : List (Nm × SBlk)} {rd : List Nm} (hrd : ∀ n ∈ rd, n.l ≤ L)
  (H : ∀ F3 : SF, (∀ n ∈ rd, F3 n = F n) → (∀ n : Nm, L < n.l → F3 n = none) → vcC C F3 c ⟨initT args fn.ntmps, [], 0⟩ (PostF C.T F3 fn.results.toList L v upd)) : Con C.P f args F L nx nx v upd rd := by
 refine ⟨Nat.le_refl _, fun F2 hF2 E w args' hR _ hdp hargs => ?_⟩
 let F3 : SF := fun n => if n.l ≤ L then F2 n else none
 have h3 : SLe F3 F2 := by
  intro n b hb
  simp only [F3] at hb
  split at hb
  ·exact .inr (.inl hb)
  ·cases hb
 have hS0 := StepR.less hR h3
 have hvc := H F3 (fun n hn => by simp only [F3]; rw [if_pos (hrd n hn)]; exact hF2 n hn) (fun n hn => by simp only [F3]; rw [if_neg (by omega)])
 have hdom : Dom0 C.L E := fun n hn => hdp n (by omega)
 have htp := vcC_ok (w0 := w) hC hdom (by rw [hys]; exact InvY.nil) hS0.rel c _ _ hvc
 have hargs3 := VRl.mono hS0.ext _ _ hargs
 obtain ⟨hlen, hget⟩ := VRl.get hargs3
 have hrel : Rel C.L F3 E w E ⟨initT args fn.ntmps, [], 0⟩ { tmps := args'.toArray ++ Array.replicate (fn.ntmps - args'.toArray.size) undef, defers := [] } w := by
  refine ⟨StepR.refl hS0.rel, ⟨by simp [initT, hlen], fun i x hx => ?_⟩, MarksOk.nil, fun n h1 h2 => absurd h1 h2⟩
  simp only [TF, initT] at hx
  rw [List.getD_eq_getElem?_getD] at hx
  by_cases hi : i < args.length
  ·rw [List.getElem?_append_left (by simpa using hi)] at hx
   simp only [List.getElem?_map] at hx
   cases hy : args[i]? with
   | none => rw [hy] at hx; cases hx
   | some y =>
    rw [hy] at hx; simp at hx; subst hx
    obtain ⟨v', a1, a2⟩ := hget i y hy
    refine ⟨v', ?_, a2⟩
    rw [Array.getElem?_append_left (by simp; omega)]
    simpa using a1
  ·rw [List.getElem?_append_right (by simp; omega)] at hx
   simp only [List.length_map, List.getElem?_replicate] at hx
   split at hx
   rotate_left
   ·cases hx
   rename_i hlt
   simp at hx; subst hx
   refine ⟨undef, ?_, VR_undef⟩
   rw [Array.getElem?_append_right (by simp; omega)]
   simp only [List.size_toArray, Array.getElem?_replicate]
   rw [if_pos (by omega)]
 have hcall : Calls C.P f args'.toArray w fun e w' => ∃ v', e = .returned v' ∧ CGives E F2 w L nx nx v upd v' w' := by
  rw [← callsIn_wide (n := 0)]
  refine callsIn_of_wp_marks hf hb trivial ?_
  have hW : W C.ro = Fence.wide := by rw [hro]; rfl
  rw [← hW]
  refine wpIn_mono (htp _ _ E hrel) ?_
  rintro e a w1 ⟨st, hP, E', hRl1⟩
  obtain ⟨Ds, d1, d2, d3⟩ := hRl1.marks
  have key : LeavesInM (W C.ro) 0 C.P fn a.tmps (fun e w' => ∃ v', e = .returned v' ∧ CGives E F2 w L nx nx v upd v' w') a.defers .returning w1 := by
   rw [d2]
   refine marks_out Ds w1 d1 (fun D hD => ⟨(d3 D hD).1, (d3 D hD).2.2⟩) hRl1.step hRl1.tmps fun w' s1 s2 => ?_
   have hRl : Rel C.L F3 E w E' st { tmps := a.tmps, defers := [] } w' := ⟨s1, s2, MarksOk.nil, hRl1.news⟩
   obtain ⟨p, v0, q1, q2, q3, q4⟩ := hP.res
   obtain ⟨v', r1, r2⟩ := run_res hC.T hRl.step.rel hRl.tmps q1 q2
   let G := look F3 st.H
   let Fm : SF := fun n => if n.l ≤ L then G n else none
   have hm : SLe Fm G := by
    intro n b hb
    simp only [Fm] at hb
    split at hb
    ·exact .inr (.inl hb)
    ·cases hb
   have hSm := StepR.less hRl.step.rel hm
   let E2 : Env := fun n => if n.l ≤ L then E' n else none
   have hEE : ∀ n i, E n = some i → E' n = some i ∧ E2 n = some i := by
    intro n i hi
    have h1 := hRl.step.le n i hi
    have hl : n.l ≤ L := by
     rcases Nat.lt_or_ge L n.l with h | h
     ·rw [hdp n h] at hi; cases hi
     ·exact h
    exact ⟨h1, by simp only [E2]; rw [if_pos hl]; exact h1⟩
   have hE2 : ∀ n, E2 n ≠ none → n.l ≤ L ∧ E n = E2 n ∧ E' n = E2 n := by
    intro n hn
    have hl : n.l ≤ L := by
     rcases Nat.lt_or_ge L n.l with h | h
     ·simp only [E2] at hn; rw [if_neg (by omega)] at hn; exact absurd rfl hn
     ·exact h
    have e1 : E2 n = E' n := by simp only [E2]; rw [if_pos hl]
    refine ⟨hl, ?_, e1.symm⟩
    cases he : E n with
    | none =>
     have := (hRl.news n he (by rw [← e1]; exact hn)).1
     omega
    | some i => rw [(hEE n i he).2]
   let F' := F2.upd upd
   have hF' : ∀ n b, F' n = some b → b.live = true → n.l ≤ L ∧ ((n ∈ keys upd ∧ BW L G (G n) b) ∨ (n ∉ keys upd ∧ F2 n = some b ∧ G n = some b)) := by
    intro n b hn hl
    have hn' : setAll F2 upd n = some b := by rw [← upd_eq]; exact hn
    by_cases hk : n ∈ keys upd
    ·rcases setAll_get upd F2 n with h | ⟨u, h1, h2⟩
     ·-- the key is written
      have gen : ∀ (x : List (Nm × SBlk)) (f : SF), n ∈ keys x → ∃ u, (n, u) ∈ x ∧ setAll f x n = some u := by
       intro x
       induction x with
       | nil => intro f h; cases h
       | cons a x ih =>
        intro f h
        obtain ⟨m, u⟩ := a
        simp only [setAll]
        by_cases hx : n ∈ keys x
        ·obtain ⟨u', q1, q2⟩ := ih (fun q => if q = m then some u else f q) hx
         exact ⟨u', by simp [q1], q2⟩
        ·simp only [keys, List.map_cons, List.mem_cons] at h
         rcases h with h | h
         ·subst h; exact ⟨u, by simp, by rw [setAll_not hx]; simp⟩
         ·exact absurd h hx
      obtain ⟨u, u1, u2⟩ := gen upd F2 hk
      rw [hn'] at u2; injection u2 with u2; subst u2
      obtain ⟨c1, c2⟩ := hP.ok.mem u1
      exact ⟨c1, .inl ⟨hk, c2⟩⟩
     ·rw [hn'] at h2; injection h2 with h2; subst h2
      obtain ⟨c1, c2⟩ := hP.ok.mem h1
      exact ⟨c1, .inl ⟨hk, c2⟩⟩
    ·rw [setAll_not hk] at hn'
     obtain ⟨i, hi⟩ := (hR.blk n b hn').def_ hl
     have hll : n.l ≤ L := by
      rcases Nat.lt_or_ge L n.l with h | h
      ·rw [hdp n h] at hi; cases hi
      ·exact h
     refine ⟨hll, .inr ⟨hk, hn', ?_⟩⟩
     show look F3 st.H n = some b
     rw [hP.all.look hll hk]
     simp only [F3]; rw [if_pos hll]; exact hn'
   have hBlive : ∀ {n : Nm} {b : SBlk}, BW L G (G n) b → b.live = true → ∃ b0, G n = some b0 ∧ b0.live = true ∧ (b.own = true → b0.own = true) := by
    intro n b hb hl
    cases hg : G n with
    | none => rw [hg] at hb; cases b <;> first | exact (show False from hb).elim | (cases hl; done)
    | some b0 =>
     rw [hg] at hb
     refine ⟨b0, rfl, ?_⟩
     cases b0 <;> cases b <;> first | exact (show False from hb).elim | (cases hl; done) | skip
     ·exact ⟨rfl, hb.2.2.1⟩
     ·exact ⟨rfl, hb.1⟩
   have hFm : ∀ n b, F' n = some b → b.live = true → n.l ≤ L ∧ ∃ b0, Fm n = some b0 ∧ G n = some b0 ∧ b0.live = true ∧ (b.own = true → b0.own = true) := by
    intro n b hn hl
    obtain ⟨h1, h2⟩ := hF' n b hn hl
    refine ⟨h1, ?_⟩
    have e : Fm n = G n := by simp only [Fm]; rw [if_pos h1]
    rw [e]
    rcases h2 with ⟨_, h2⟩ | ⟨_, _, h2⟩
    ·obtain ⟨b0, c1, c2, c3⟩ := hBlive h2 hl
     exact ⟨b0, c1, c1, c2, c3⟩
    ·exact ⟨b, h2, h2, hl, id⟩
   have hzone : ∀ k, Zn E' Fm w' k → Zn E2 F' w' k := by
    rintro k ⟨k1, k2⟩
    refine ⟨k1, fun n b i hn ho hi hz he => ?_⟩
    obtain ⟨h1, b0, c1, _, _, c3⟩ := hFm n b hn (live_of_own ho)
    have e := (hE2 n (by rw [hi]; simp)).2.2
    exact k2 n b0 i c1 (c3 ho) (by rw [e]; exact hi) hz he
   have hzone' : ∀ k, Zn E' G w' k → Zn E2 F' w' k := fun k hk => hzone k (hSm.ext.zone k hk)
   have hEx : Ext Env.no w' (Zn E' Fm w') Env.no w' (Zn E2 F' w') := ⟨Env.le.refl _, hzone, fun _ _ => rfl⟩
   have hwk : ∀ (x y : PV) (u : Value), Wk G x y → (∀ n ∈ wkN x y, n.l = L + 1) → Tx.nf y = true → VR w' (Zn E' G w') E' x u → VR w' (Zn E2 F' w') Env.no y u := by
    intro x y u h1 h2 h3 h4
    have := wk_vr hRl.step.rel hm x y u h1 (fun n hn b hb => by
     have := h2 n hn
     simp only [Fm] at hb
     rw [if_neg (by omega)] at hb; cases hb) h4
    exact VR.mono hEx _ _ (VR.nf y u h3 this)
   have hback : ∀ n b, F2 n = some b → G n = some b → b.live = true → BRel E2 w' (Zn E2 F' w') n b := by
    intro n b h1 h2 hl
    have := BRel.back hEE (hR.blk n b h1) (hRl.step.rel.blk n b h2)
    exact this.mono ⟨Env.le.refl _, hzone', fun _ _ => rfl⟩ fun _ _ _ => rfl
   have hrelF : HRel E2 F' w' := by
    refine ⟨fun n b hn => ?_, fun n m b d i j hn hm' hnm ho hl hi hj hin hjn => ?_⟩
    ·by_cases hl : b.live = true
     rotate_left
     ·cases b <;> first | trivial | exact absurd rfl hl
     obtain ⟨h1, h2⟩ := hF' n b hn hl
     rcases h2 with ⟨hk, h2⟩ | ⟨hk, h2, h3⟩
     rotate_left
     ·exact hback n b h2 h3 hl
     have h2' := h2
     obtain ⟨b0, g1, g2, g3⟩ := hBlive h2 hl
     have hb0 := hRl.step.rel.blk n b0 g1
     have eE : E2 n = E' n := by simp only [E2]; rw [if_pos h1]
     rw [g1] at h2
     cases b0 <;> cases b <;> first | exact (show False from h2).elim | (cases hl; done) | skip
     ·rename_i e wd o p rs e' wd' o' p' rs'
      obtain ⟨rfl, rfl, ho, rfl, hrs⟩ := h2
      obtain ⟨i, hi, hor⟩ := hb0
      refine ⟨i, by rw [eE]; exact hi, ?_⟩
      rcases hor with ⟨z1, rfl, z3, z4⟩ | ⟨hz, hRr⟩
      ·refine .inl ⟨z1, ?_, z3, z4⟩
       rcases hrs with ⟨_, rfl⟩ | ⟨hrs, _, _⟩
       ·rfl
       ·cases rs' with
        | nil => rfl
        | cons a l => simp [WkLL] at hrs
      ·refine .inr ⟨hz, ?_⟩
       obtain ⟨cs, fz, b1, b2, b3, b4⟩ := hRr.cells
       rcases hrs with ⟨rfl, rfl⟩ | ⟨hrs, hns, hnf⟩
       ·exact ⟨hRr.wd_eq, hRr.o0, hRr.wd_pos, hRr.len, hRr.le, hRr.cap, cs, fz, b1, b2, fun h => b3 (ho h), VRr.mono ⟨Env.le.refl _, hzone', fun _ _ => rfl⟩ _ _ _ b4⟩
       ·obtain ⟨l1, l2⟩ := wkLL_get hrs
        have hlen' : ∀ row ∈ rs', row.length = wd := by
         intro row hrow
         obtain ⟨r, hr⟩ := List.getElem?_of_mem hrow
         have hlt := lt_of_get hr
         have hr0 := List.getElem?_eq_getElem (l := rs) (i := r) (by omega)
         obtain ⟨k1, _⟩ := l2 r _ row hr0 hr
         rw [← (wkL_get k1).1]
         exact hRr.len _ (List.mem_of_getElem? hr0)
        refine ⟨hRr.wd_eq, hRr.o0, hRr.wd_pos, hlen', by rw [← l1]; exact hRr.le, hRr.cap, cs, fz, b1, b2, fun h => b3 (ho h), (VRr_iff hlen').2 fun r row' c y hr' hc' => ?_⟩
        have hlt := lt_of_get hr'
        have hr0 := List.getElem?_eq_getElem (l := rs) (i := r) (by omega)
        obtain ⟨k1, k2⟩ := l2 r _ row' hr0 hr'
        obtain ⟨k3, k4⟩ := wkL_get k1
        have hct := lt_of_get hc'
        have hc0 := List.getElem?_eq_getElem (l := rs[r]) (i := c) (by omega)
        obtain ⟨k5, k6⟩ := k4 c _ y hc0 hc'
        obtain ⟨u, a1, a2, a3⟩ := (VRr_iff hRr.len).1 b4 r _ c _ hr0 hc0
        rw [List.all_eq_true] at hnf
        exact ⟨u, a1, a2, hwk _ y u k5 (fun n hn => hns n (k2 n (k6 n hn))) (nfl_get (hnf row' (List.mem_of_getElem? hr')) y (List.mem_of_getElem? hc')) (VR.up a3)⟩
     ·rename_i o p ks vs o' p' ks' vs'
      obtain ⟨ho, rfl, rfl, rfl, rfl⟩ := h2
      obtain ⟨i, hi, hz, ents, clk, hb, hmr⟩ := hb0
      have hX0 : Ext Env.no w' (Zn E' G w') Env.no w' (Zn E2 F' w') := ⟨Env.le.refl _, hzone', fun _ _ => rfl⟩
      exact ⟨i, by rw [eE]; exact hi, hz, ents, clk, hb, VRl.mono hX0 _ _ hmr.1, VRl.mono hX0 _ _ hmr.2⟩
    ·obtain ⟨_, b0, _, c1, _, c3⟩ := hFm n b hn (live_of_own ho)
     obtain ⟨_, d0, _, d1, d2, _⟩ := hFm m d hm' hl
     have e1 := (hE2 n (by rw [hi]; simp)).2.2
     have e2 := (hE2 m (by rw [hj]; simp)).2.2
     exact hRl.step.rel.sep n m b0 d0 i j c1 d1 hnm (c3 ho) d2 (by rw [e1]; exact hi) (by rw [e2]; exact hj) hin hjn
   have hstep : StepR E F2 w E2 F' w' := by
    refine ⟨fun n i hi => (hEE n i hi).2, hrelF, hRl.step.os, hRl.step.tape, hRl.step.output, hRl.step.size, fun k hk hno => ?_, fun n b i hn ho hi hin => ?_⟩
    ·refine hRl.step.keep k hk fun n b i hn ho hi hin => hno n b i (h3.own hn ho) ho hi hin
    ·obtain ⟨_, b0, _, c1, _, c3⟩ := hFm n b hn (live_of_own ho)
     have e1 := (hE2 n (by rw [hi]; simp)).2.2
     rcases hRl.step.own n b0 i c1 (c3 ho) (by rw [e1]; exact hi) hin with h | ⟨m, d, j, m1, m2, m3, m4, m5⟩
     ·exact .inl h
     ·exact .inr ⟨m, d, j, h3.own m1 m2, m2, m3, m4, m5⟩
   have hres : CGives E F2 w L nx nx v upd v' w' := by
    refine ⟨E2, ?_, hstep, fun n h1 h2 => ?_⟩
    ·exact VR.mono ⟨Env.no_le _, fun _ h => h, fun _ _ => rfl⟩ _ _ (hwk v0 v v' q3 q4 hP.nf r2)
    ·have := (hE2 n h2).2.1; rw [h1] at this; exact absurd this.symm h2
   exact ⟨v', r1, v', rfl, hres⟩
  rcases hP.e with rfl | rfl
  ·exact key
  ·exact key
 have hrun : (callFunc f args'.toArray).run C.P w = .ok (.enter f args'.toArray) w := callFunc_run hf (by rw [hb]; rfl) hnum
 rw [hrun]
 exact hcall
end
end Go.Tx
end
