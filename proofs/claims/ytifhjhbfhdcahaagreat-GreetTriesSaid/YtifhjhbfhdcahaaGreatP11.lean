/- Lemmas for the walk: U38, U39, U40, GK1, GK2, GC1, GC2, GC3, GC4, GC5, GC6, GC7, GC8, GC0, GC10, GC12, GK3, GC13, GK4, GC14, GC15, GK11, GK12, GK13, GK14, GK15. -/
import Derived.Test.YtifhjhbfhdcahaaGreatP10
import Derived.RecoverIn
import Derived.Test.YtifhjhbfhdcahaaGreatTxTab
import Derived.Tactics
import Derived.Recover
set_option linter.all false
section
namespace Go.Tx
open Go.Sx (lt_of_get)
def Cx.catching (C : Cx) (L : Nat) (B : List Deferred) (ch : List PanicEntry) (dq : St → Prop) : Cx := ⟨C.P, C.T, C.ms, C.wr, L, C.ro, C.ys, B, true, ch, dq⟩
section
variable (C : Cx) (L : Nat) (B : List Deferred) (ch : List PanicEntry) (dq : St → Prop)
theorem catching_P : (C.catching L B ch dq).P = C.P := rfl
theorem catching_ch : (C.catching L B ch dq).ch = ch := rfl
theorem catching_T : (C.catching L B ch dq).T = C.T := rfl
theorem catching_ms : (C.catching L B ch dq).ms = C.ms := rfl
theorem catching_wr : (C.catching L B ch dq).wr = C.wr := rfl
theorem catching_L : (C.catching L B ch dq).L = L := rfl
theorem catching_ro : (C.catching L B ch dq).ro = C.ro := rfl
theorem catching_ys : (C.catching L B ch dq).ys = C.ys := rfl
end
theorem catching_VX (C : Cx) (L : Nat) (B : List Deferred) (ch : List PanicEntry) (dq : St → Prop) (x p : Prop) : RegVX (C.catching L B ch dq) x p = p := rfl
attribute [go_sem ↓] catching_VX
attribute [go_sem] catching_ch
attribute [go_sem] catching_P catching_T catching_ms catching_wr catching_L catching_ro catching_ys
end Go.Tx
end
section
namespace Go.Tx
open Go.Sx (lt_of_get)
section
variable (C : Cx) (F0 : SF)
def restD (ops : List Oper) (d : Nat) (nv : List Nat) (l : List Oper) (i : Nat) (K : DK) : RK := fun t H nx fps => execD C F0 ops d nv l i t H nx fps K
theorem restD_app (ops : List Oper) (d : Nat) (nv : List Nat) (l : List Oper) (i : Nat) (K : DK) (a : Option PV) (t : List (Option PV)) (H : List (Nm × SBlk)) (nx : Nat) (fps : FPs) : restD C F0 ops d nv l i K (a :: t) H nx fps = execD C F0 ops d nv l i (a :: t) H nx fps K := propext ⟨fun h => h, fun h => h⟩
def dieK (ops : List Oper) (d : Nat) (nv : List Nat) (l : List Oper) (i : Nat) (dst : Option Nat) (t : List (Option PV)) (H : List (Nm × SBlk)) (nx : Nat) (fps : FPs) (K : DK) : List (Nm × SBlk) → List Nm → Prop :=
 fun upd rd => execD C F0 ops d nv l i (putT t dst undefP) H nx (fps ++ [(rd, [])]) (fun _ => K upd)
theorem dieK_app (ops : List Oper) (d : Nat) (nv : List Nat) (l : List Oper) (i : Nat) (dst : Option Nat) (t : List (Option PV)) (H : List (Nm × SBlk)) (nx : Nat) (fps : FPs) (K : DK) (upd : List (Nm × SBlk)) (rd : List Nm) :
  dieK C F0 ops d nv l i dst t H nx fps K upd rd = execD C F0 ops d nv l i (putT t dst undefP) H nx (fps ++ [(rd, [])]) (fun _ => K upd) := propext ⟨fun h => h, fun h => h⟩
theorem xd_nil (ops : List Oper) (d : Nat) (nv : List Nat) (i : Nat) (t : List (Option PV)) (H : List (Nm × SBlk)) (nx : Nat) (fps : FPs) (K : DK) : execD C F0 ops d nv [] i t H nx fps K = K [] t H nx fps := propext ⟨fun h => h, fun h => h⟩
theorem xd_cons (ops : List Oper) (d : Nat) (nv : List Nat) (o : Oper) (l : List Oper) (i : Nat) (t : List (Option PV)) (H : List (Nm × SBlk)) (nx : Nat) (fps : FPs) (K : DK) : execD C F0 ops d nv (o :: l) i t H nx fps K =
  (if i = d then guardMet ops t o.guard ∧ dieOp C F0 o t H (dieK C F0 ops d nv l (i + 1) o.dst t H nx fps K)
  else if nv.contains i = true then execD C F0 ops d nv l (i + 1) (putT t o.dst undefP) H nx (fps ++ [([], [])]) K
  else match o.guard with
  | none => opVK C F0 o t H nx fps (restD C F0 ops d nv l (i + 1) K)
  | some (j, want) =>
   match guardVal ops t j with
   | some (.bool g) =>
    brB g want (opVK C F0 o (setG ops t j want) H nx fps (restD C F0 ops d nv l (i + 1) K))
     (execD C F0 ops d nv l (i + 1) (putT (setG ops t j (!want)) o.dst undefP) H nx (fps ++ [([], [])]) K)
   | some (.tup []) => execD C F0 ops d nv l (i + 1) (putT t o.dst undefP) H nx (fps ++ [([], [])]) K
   | _ => False) := propext ⟨fun h => h, fun h => h⟩
theorem gm_none (ops : List Oper) (t : List (Option PV)) : guardMet ops t none = True := propext ⟨fun _ => trivial, fun _ => trivial⟩
theorem gm_some (ops : List Oper) (t : List (Option PV)) (j : Nat) (want : Bool) : guardMet ops t (some (j, want)) = (guardVal ops t j = some (.bool want)) := propext ⟨fun h => h, fun h => h⟩
def dieX (f : FuncId) (asx : List PV) (H : List (Nm × SBlk)) (K : List (Nm × SBlk) → List Nm → Prop) : Prop := DieXC C.P C.ch f asx (look F0 H) C.L K
theorem dieOp_eq (o : Oper) (t : List (Option PV)) (H : List (Nm × SBlk)) (K : List (Nm × SBlk) → List Nm → Prop) : dieOp C F0 o t H K =
  (match o.op with
  | .call ⟨.value fo, args, _⟩ =>
   match evalT t fo, vals (evalT t) args.toList with
   | some (.fn (.func f) xs ys), some asx => dieX C F0 f (xs ++ asx ++ ys) H K
   | _, _ => False
  | _ => False) := propext ⟨fun h => h, fun h => h⟩
def dieE (ops : List Oper) (m : Nat) (H0 : List (Nm × SBlk)) : DK := fun du _ _ _ fps => okDyn ops fps = true ∧ ∀ nz, DeadAll C m H0 (fps.flatMap (·.2) ++ keys du) nz
theorem dieE_app (ops : List Oper) (m : Nat) (H0 : List (Nm × SBlk)) (du : List (Nm × SBlk)) (a : Option PV) (t : List (Option PV)) (H : List (Nm × SBlk)) (nx : Nat) (fps : FPs) :
  dieE C ops m H0 du (a :: t) H nx fps = (okDyn ops fps = true ∧ ∀ nz, DeadAll C m H0 (fps.flatMap (·.2) ++ keys du) nz) := propext ⟨fun h => h, fun h => h⟩
end
attribute [go_sem ↓] restD_app dieK_app xd_nil xd_cons dieE_app dieOp_eq gm_none gm_some
theorem dieX.same {C : Cx} {F0 : SF} {f : FuncId} {asx : List PV} {H : List (Nm × SBlk)} {K : List (Nm × SBlk) → List Nm → Prop} {upd : List (Nm × SBlk)} {rd : List Nm} (hc : DCon C.P C.ch f asx (look F0 H) C.L upd rd) (hk : K upd rd) : dieX C F0 f asx H K := by
 obtain ⟨h1, h2⟩ := wkL_refl (look F0 H) asx
 refine ⟨asx, upd, rd, h1, ?_, ?_⟩
 ·rw [h2]; exact hc
 ·rw [h2]; exact hk
theorem updAll_set {L : Nat} {ks : List Nm} {n : Nm} {b : SBlk} (hn : n.l = L + 1 ∨ n ∈ ks) : ∀ {H : List (Nm × SBlk)}, UpdAll L ks H → UpdAll L ks (setH H n b)
 | [], _ => ⟨hn, trivial⟩
 | (m, c) :: l, h => by
  simp only [setH]
  split
  ·exact ⟨hn, h.2⟩
  ·exact ⟨h.1, updAll_set hn h.2⟩
theorem updAll_upd {L : Nat} {ks : List Nm} : ∀ {l H : List (Nm × SBlk)}, (∀ n ∈ keys l, n.l = L + 1 ∨ n ∈ ks) → UpdAll L ks H → UpdAll L ks (updH H l)
 | [], _, _, h => h
 | (n, b) :: l, H, hl, h => by
  simp only [updH]
  exact updAll_upd (fun m hm => hl m (by simp [keys] at hm ⊢; exact .inr hm)) (updAll_set (hl n (by simp [keys])) h)
theorem updN_dead {L nx : Nat} {news : List Nat} {G : SF} : ∀ {ns : List Nm}, (∀ n ∈ ns, n.l ≤ L) → UpdN L nx news G (ns.map fun n => (n, .dead))
 | [], _ => trivial
 | n :: l, h => by
  refine ⟨h n (by simp), ?_, updN_dead fun m hm => h m (by simp [hm])⟩
  cases G (kp L nx news n) with
  | none => trivial
  | some b => cases b <;> trivial
theorem keys_dead (ns : List Nm) : keys (ns.map fun n => (n, SBlk.dead)) = ns := by
 induction ns with
 | nil => rfl
 | cons n l ih => simp only [List.map_cons, keys] at ih ⊢; rw [ih]
abbrev deads (ns : List Nm) : List (Nm × SBlk) := ns.map fun n => (n, SBlk.dead)
theorem PostD.dead {F : SF} {L : Nat} {ns : List Nm} {st : St} (h1 : ∀ n ∈ ns, n.l ≤ L) (h2 : UpdAll L ns st.H) : PostD F L (deads ns) st :=
 ⟨updN_dead h1, by rw [keys_dead]; exact h2⟩
theorem PostD.all {C : Cx} {F : SF} {L m nz : Nat} {ns W : List Nm} {H : List (Nm × SBlk)} (hq : C.dq = PostD F L (deads ns)) (h1 : ∀ n ∈ ns, n.l ≤ L) (h2 : UpdAll L ns H) (h3 : ∀ n ∈ W, n.l = L + 1 ∨ n ∈ ns) : DeadAll C m H W nz := by
 intro H' hk
 rw [hq]
 exact .dead h1 (updAll_upd (fun n hn => h3 n (hk n hn)) h2)
end Go.Tx
end
section
namespace Go.Tx
open Go.Sx (lt_of_get)
theorem DGives.none {E : Env} {F : SF} {w : World} (h : HRel E F w) : DGives E F w [] w := ⟨E, StepR.refl h, fun _ h => h⟩
end Go.Tx
end
section
namespace Go.Proofs.YtifhjhbfhdcahaaGreat
open Go.Tx
set_option maxRecDepth 100000
set_option maxHeartbeats 16000000
def chM : List PanicEntry := [{ v := .iface 204 (.agg #[]), recovered := false }]
theorem capR_chM (T : Tys) (ρ : Operand → Option PV) (F : SF) (nx : Nm) (op : Op) : capR chM T ρ F nx op = none := rfl
theorem twoT_chM (op : Op) : twoT chM op = false := rfl
attribute [go_sem] capR_chM twoT_chM
theorem hta (w : World) : (Instr.typeAssert (.iface 204 (.agg #[])) 20 204 true).run Tryz.prog w = .ok (.tuple #[.agg #[], .bool true]) w := by kernel_rfl
theorem kp_nil (L nx : Nat) (n : Nm) : kp L nx [] n = n := by
 unfold kp
 rw [if_neg]
 rintro ⟨_, h1, h2⟩
 simp at h2
 omega
def rdB (s : List UInt8) (p : Nat) : SBlk := .rows 178 2 true true [[.str s, .int .i64 p]]
end Go.Proofs.YtifhjhbfhdcahaaGreat
end
section
namespace Go.Proofs.YtifhjhbfhdcahaaGreat
open Go.Tx
set_option maxRecDepth 100000
def lead (x y b : Int) : Int := if (x - y) % 2 ^ b.toNat / 2 ^ (b - 1).toNat = 1 then (x - y) % 2 ^ b.toNat - 2 ^ b.toNat else (x - y) % 2 ^ b.toNat
def serB (b x : Int) : Bool := decide (0 ≤ x) && decide (x < 2 ^ b.toNat)
def okAt (xs : List Int) (n : Int) (i : Nat) : Bool := decide (0 ≤ xs.getD i 0) && decide (xs.getD i 0 < n) && (i == 0 || decide (xs.getD (i - 1) 0 < xs.getD i 0))
def listedB (xs : List Int) (n : Int) : Bool := (List.range xs.length).all (okAt xs n)
end Go.Proofs.YtifhjhbfhdcahaaGreat
end
section
namespace Go.Proofs.YtifhjhbfhdcahaaGreat
open Go.Tx
set_option maxRecDepth 100000
set_option maxHeartbeats 16000000
theorem BN_dead {L nx : Nat} {news : List Nat} {G : SF} {ob : Option SBlk} : BN L nx news G ob .dead := by
 cases ob with
 | none => trivial
 | some b => cases b <;> trivial
theorem nB {i k : Nat} (h : k < 10000) : (10000 * (i + 1) = k) = False := by apply eq_false; omega
theorem PostF.same {T : Tys} {F : SF} {rl : List ResultVar} {L : Nat} {v : PV} {e : Exit} {st : St} {p : Prop} (he : e = .normal ∨ e = .ret) (h : resVal T (Tx.look F st.H) st.t rl = some (p, v)) (hp : p) (hf : Tx.nf v = true) (ha : UpdAll L [] st.H) : PostF T F rl L v [] e st :=
 .of he h hp (wk_refl _ v).1 (by intro n hn; rw [(wk_refl F v).2] at hn; cases hn) hf trivial ha
theorem kp_out {L nx : Nat} {news : List Nat} {n : Nm} (h : n.l < L ∨ n.i < nx ∨ news = []) : kp L nx news n = n := by
 unfold kp
 rw [if_neg]
 rintro ⟨h1, h2, h3⟩
 rcases h with h | h | h
 ·omega
 ·omega
 ·subst h; simp at h3; omega
theorem kp_nil2 {L nx : Nat} {n : Nm} : kp L nx [] n = n := kp_out (.inr (.inr rfl))
theorem sg_out {L nx : Nat} {news : List Nat} {n : Nm} (h : n.l ≤ L) : sg L nx news n = n := by unfold sg; rw [if_neg (by omega)]
theorem noEscape_ok {F : SF} {L nx : Nat} (n : Nm) (r c : Nat) : Con Tryz.prog 132 [.ptr n r c] F L nx nx (.ptr n r c) [] [] := by
 refine ⟨Nat.le_refl _, fun F2 h2 E w args' hR hf hd hv => ?_⟩
 simp only [VRl] at hv
 obtain ⟨v, t, rfl, h1, rfl⟩ := hv
 have hr : (callFunc 132 [v].toArray).run Tryz.prog w = .ok (.value v) w := by rfl
 rw [hr]
 exact ⟨E, h1, StepR.refl hR, fun n a b => absurd a b⟩
theorem copyCheck0_ok {F : SF} {L nx : Nat} (n : Nm) (e : TypeId) (he : e = 213 ∨ e = 133) (p : Bool) (hn : n.l ≤ L) (hF : F n = some (.rows e 2 true p [[.nilP, .nilS]])) :
  Con Tryz.prog 112 [.ptr n 0 0] F L nx nx (.tup []) [(n, .rows e 2 true false [[.ptr n 0 0, .nilS]])] [n] := by
 show Con Tryz.prog 112 _ F L nx (nx + 0) _ _ _
 refine bdyN Tryz.f112 (hrd := (by simp [hn])) ?_
 intro F3 hF1 hF2
 have hFn := (hF1 n (by simp)).trans hF
 rcases he with rfl | rfl
 all_goals
  simp only [Tryz.f112, cx, hFn, Nat.add_zero, go_sem, meths]
  refine CallVC.same (noEscape_ok n 0 0) ?_
  simp only [hFn, Nat.add_zero, go_sem]
  refine .now (PostN.val [] (.inl rfl) List.nodup_nil (p := True) (v0 := .tup []) rfl trivial (by trivial) rfl ⟨hn, ?_, trivial⟩ (by simp [UpdAll, keys]))
  rw [kp_nil2]
  exact .ren (by simp [Tx.look]; rfl) (by simp [rowsNm, nmA, nmAL, Dn, hn]) (by simp [Tx.rn, Tx.rnL, sg_out hn])
theorem copyCheck1_ok {F : SF} {L nx : Nat} (n : Nm) (e : TypeId) (he : e = 213 ∨ e = 133) (buf : PV) (hn : n.l ≤ L) (hF : F n = some (.rows e 2 true false [[.ptr n 0 0, buf]])) :
  Con Tryz.prog 112 [.ptr n 0 0] F L nx nx (.tup []) [] [n] := by
 show Con Tryz.prog 112 _ F L nx (nx + 0) _ _ _
 refine bdyN Tryz.f112 (hrd := (by simp [hn])) ?_
 intro F3 hF1 hF2
 have hFn := (hF1 n (by simp)).trans hF
 rcases he with rfl | rfl
 all_goals
  simp only [Tryz.f112, cx, hFn, Nat.add_zero, go_sem, meths]
  exact .now (PostN.val [] (.inl rfl) List.nodup_nil (p := True) (v0 := .tup []) rfl trivial (by trivial) rfl trivial (by simp [UpdAll]))
def bldF (F : SF) (n : Nm) (e : TypeId) (b : Option Nm) (t : List UInt8) : Prop :=
 match b with
 | none => t = [] ∧ ∃ p, F n = some (.rows e 2 true p [[.nilP, .nilS]])
 | some m => t ≠ [] ∧ F n = some (.rows e 2 true false [[.ptr n 0 0, .sl m 0 t.length]]) ∧ F m = some (.rows 5 1 true true (t.map rowB)) ∧ m ≠ n
def bldU (n : Nm) (e : TypeId) (m : Nm) (t : List UInt8) : List (Nm × SBlk) :=
 [(n, .rows e 2 true false [[.ptr n 0 0, .sl m 0 t.length]]), (m, .rows 5 1 true true (t.map rowB))]
theorem writeString0_ok {F : SF} {L nx : Nat} (n : Nm) (e : TypeId) (he : e = 213 ∨ e = 133) (hn : n.l < L ∨ (n.l = L ∧ n.i < nx)) (s : List UInt8) (hs : s ≠ []) (hsl : s.length ≤ 1000000) (hb : bldF F n e none []) :
  Con Tryz.prog 61 [.ptr n 0 0, .str s] F L nx (nx + 1) (.tup [.int .i64 s.length, .nilI]) (bldU n e ⟨L, nx⟩ s) [n] := by
 refine bdyN Tryz.f61 (hrd := (by simp; omega)) ?_
 intro F3 hF1 hF2
 obtain ⟨_, p, hbp⟩ := hb
 have hFn := (hF1 n (by simp)).trans hbp
 have n1 : ∀ k, (n = (⟨L + 1, k⟩ : Nm)) = False := nm_out (by omega)
 have n2 : ∀ k, ((⟨L + 1, k⟩ : Nm) = n) = False := nm_out' (by omega)
 simp only [Tryz.f61, cx, go_sem, meths]
 refine CallVC.same (copyCheck0_ok n e he p (by omega) (by simp [hFn])) ?_
 simp only [hFn, n1, n2, go_sem]
 have e1 : List.map (fun b : UInt8 => [PV.int .u8 b.toNat]) s = s.map rowB := rfl
 rw [e1, List.length_map]
 refine ⟨⟨by omega, by omega⟩, ?_⟩
 refine .now (PostN.val [288] (.inr rfl) (by simp) (p := True) (v0 := .tup [.int .i64 s.length, .nilI]) ?_ trivial ?_ ?_ ⟨by omega, ?_, Nat.le_refl _, ?_, trivial⟩ ?_)
 ·simp only [resVal, resVals, resVal1, one, go_sem]
 ·simp [nmA, nmAL]
 ·simp [Tx.rn, Tx.rnL]
 ·rw [kp_out (hn.imp id fun h => .inl h.2)]
  exact .ren (by simp [Tx.look]; rfl) (by simp [rowsNm, nmA, nmAL, Dn]; omega) (by simp [Tx.rn, Tx.rnL, sg_out (show n.l ≤ L by omega)]; simp [sg])
 ·rw [kp_at0 (by simp)]
  exact .pure (by simp [Tx.look, n2])
 ·simp [UpdAll, keys, bldU]
theorem writeString1_ok {F : SF} {L nx : Nat} (n : Nm) (e : TypeId) (he : e = 213 ∨ e = 133) (hn : n.l < L ∨ (n.l = L ∧ n.i < nx)) (m : Nm) (hm : m.l < L ∨ (m.l = L ∧ m.i < nx)) (t s : List UInt8) (hs : s ≠ []) (hsl : t.length + s.length ≤ 1000000) (hb : bldF F n e (some m) t) :
  Con Tryz.prog 61 [.ptr n 0 0, .str s] F L nx (nx + 1) (.tup [.int .i64 s.length, .nilI]) ((m, .dead) :: bldU n e ⟨L, nx⟩ (t ++ s)) [n, m] := by
 refine bdyN Tryz.f61 (hrd := (by simp; omega)) ?_
 intro F3 hF1 hF2
 obtain ⟨ht, hb1, hb2, hmn⟩ := hb
 have hFn := (hF1 n (by simp)).trans hb1
 have hFm := (hF1 m (by simp)).trans hb2
 have n1 : ∀ k, (n = (⟨L + 1, k⟩ : Nm)) = False := nm_out (by omega)
 have n2 : ∀ k, ((⟨L + 1, k⟩ : Nm) = n) = False := nm_out' (by omega)
 have n3 : ∀ k, (m = (⟨L + 1, k⟩ : Nm)) = False := nm_out (by omega)
 have n4 : ∀ k, ((⟨L + 1, k⟩ : Nm) = m) = False := nm_out' (by omega)
 have n5 : (m = n) = False := by simp [hmn]
 have n6 : (n = m) = False := by simp [Ne.symm hmn]
 simp only [Tryz.f61, cx, go_sem, meths]
 refine CallVC.same (copyCheck1_ok n e he _ (by omega) (by simp [hFn]; rfl)) ?_
 simp only [hFn, hFm, n1, n4, n6, go_sem]
 have e1 : List.map (fun b : UInt8 => [PV.int .u8 b.toNat]) s = s.map rowB := rfl
 rw [e1]
 simp only [List.length_map]
 refine ⟨⟨trivial, by omega, by omega⟩, ?_⟩
 refine .now (PostN.val [288] (.inr rfl) (by simp) (p := True) (v0 := .tup [.int .i64 s.length, .nilI]) ?_ trivial ?_ ?_ ⟨by omega, ?_, by omega, ?_, Nat.le_refl _, ?_, trivial⟩ ?_)
 ·simp only [resVal, resVals, resVal1, one, go_sem]
 ·simp [nmA, nmAL]
 ·simp [Tx.rn, Tx.rnL]
 ·exact BN_dead
 ·rw [kp_out (hn.imp id fun h => .inl h.2)]
  exact .ren (by simp [Tx.look, n1, n6]; rfl) (by simp [rowsNm, nmA, nmAL, Dn]; omega) (by simp [Tx.rn, Tx.rnL, sg_out (show n.l ≤ L by omega)]; simp [sg])
 ·rw [kp_at0 (by simp)]
  exact .pure (by simp [Tx.look, n4])
 ·simp [UpdAll, keys, bldU]
theorem rowB_bytes (t : List UInt8) : bytesP (t.map rowB) = t := by
 simp only [bytesP, List.map_map]
 conv => rhs; rw [← List.map_id t]
 apply List.map_congr_left
 intro x _
 simp [byteP, rowB]
theorem bString_ok {F : SF} {L nx : Nat} (n : Nm) (e : TypeId) (hn : n.l < L ∨ (n.l = L ∧ n.i < nx)) (m : Nm) (hm : m.l ≤ L) (t : List UInt8) (hsl : t.length ≤ 1000000) (hb : bldF F n e (some m) t) :
  Con Tryz.prog 63 [.ptr n 0 0] F L nx nx (.str t) [(m, .rows 5 1 false true (t.map rowB))] [n, m] := by
 refine bdy Tryz.f63 (hrd := (by simp; omega)) ?_
 intro F3 hF1 hF2
 obtain ⟨ht, hb1, hb2, hmn⟩ := hb
 have hFn := (hF1 n (by simp)).trans hb1
 have hFm := (hF1 m (by simp)).trans hb2
 have hl : 0 < t.length := List.length_pos_iff.2 ht
 have n5 : (m = n) = False := by simp [hmn]
 have n6 : (n = m) = False := by simp [Ne.symm hmn]
 have e2 : (t.map rowB).take t.length = t.map rowB := List.take_of_length_le (by simp)
 simp only [Tryz.f63, cx, hFn, hFm, e2, rowB_bytes, List.length_map, go_sem, meths]
 refine ⟨by kernel_rfl, ⟨by omega, by omega⟩, ⟨by omega, by omega⟩, okDyn_num (fun x => if x = m then 1 else 0) (by simp only [numF, List.map, n6, if_true, if_false]; kernel_rfl), ?_⟩
 exact PostF.of (p := True) (v0 := .str t) (.inr rfl) (by simp only [resVal, resVals, resVal1, one, go_sem]) trivial (by simp only [Wk]) (by simp [wkN]) rfl ⟨hm, by simp [BW, Tx.look], trivial⟩ (by simp [UpdAll, keys])
def putB (n v : Nat) : List UInt8 := (List.range n).map fun i => UInt8.ofNat (v / 256 ^ (n - 1 - i) % 256)
theorem putB_len (n v : Nat) : (putB n v).length = n := by simp [putB]
def putR (n v i : Nat) : List (List PV) := (List.range n).map fun j => [.int .u8 (if j < i then (v / 256 ^ (n - 1 - j) % 256 : Nat) else 0)]
theorem shrN (v k : Nat) {b : Int} (hb : b = 8 * k) (hk : k ≤ 7) : (v : Int).fdiv (2 ^ min b.toNat 64) = ((v / 256 ^ k : Nat) : Int) := by
 rw [shr_eq (v : Int) (by omega) (by omega)]
 have : b.toNat = 8 * k := by omega
 rw [this, Int.pow_mul]
 simp
theorem putR_set (n v i : Nat) (h : i < n) : (putR n v i).set i (PV.int .u8 (IntKind.u8.wrap ((v / 256 ^ (n - 1 - i) : Nat) : Int)) :: List.drop 1 ((putR n v i).getD i [])) = putR n v (i + 1) := by
 have hg : List.drop 1 ((putR n v i).getD i []) = [] := by simp [putR, List.getD_eq_getElem?_getD, h]
 rw [hg]
 apply List.ext_getElem?
 intro k
 rw [List.getElem?_set]
 by_cases hk : i = k
 ·subst hk
  simp only [if_true, putR, List.length_map, List.length_range, h, List.getElem?_map, List.getElem?_range h, Option.map_some]
  have : i < i + 1 := by omega
  simp only [this, if_true, IntKind.wrap_u8]
  congr 3
 ·rw [if_neg hk]
  simp only [putR, List.getElem?_map]
  cases hr : (List.range n)[k]? with
  | none => rfl
  | some j =>
   have : j = k := by
    obtain ⟨h1, h2⟩ := List.getElem?_eq_some_iff.1 hr
    simpa using h2.symm
   subst this
   have e : (j < i) = (j < i + 1) := by apply propext; omega
   simp only [Option.map_some, e]
theorem putR_str (n v : Nat) : bytesP (putR n v n) = putB n v := by
 simp only [bytesP, putR, putB, List.map_map]
 apply List.map_congr_left
 intro j hj
 simp only [List.mem_range] at hj
 simp only [Function.comp, hj, if_true, byteP, Int.toNat_natCast]
theorem put_ok {F : SF} {L nx : Nat} (n v : Nat) (h1 : 1 ≤ n) (h2 : n ≤ 7) (hv : v < 256 ^ n) :
  Con Tryz.prog 126 [.int .i64 n, .int .i64 v] F L nx nx (.tup [.str (putB n v), .int .i64 0]) [] [] := by
 refine bdy Tryz.f126 ?_
 intro F3 hF1 hF2
 have f1 : decide ((n : Int) < 1) = false := dF (by omega)
 have f2 : decide ((7 : Int) < (n : Int)) = false := dF (by omega)
 have f3 : decide ((v : Int) < 0) = false := dF (by omega)
 have f4 : ((v : Int).fdiv (2 ^ min ((8 : Int) * (n : Int)).toNat 64) != 0) = false := by
  rw [shrN v n rfl h2, Nat.div_eq_of_lt hv]; rfl
 simp only [Tryz.f126, cx, f1, f2, f3, f4, go_sem, meths]
 repeat refine sd1 ?_
 refine loopK.intro _ _ (I := fun i : Nat => ⟨[some (.int .i64 n), some (.int .i64 v), none, none, none, none, some (.sl ⟨L + 1, 640⟩ 0 n), none, none, none, none, none, none, none, none, none, none, none, none, none, none, none, none, none, none, none, none, none, some (.int .i64 n), some (.int .i64 i)] ++ oz 16,
  [(⟨L + 1, 640⟩, .rows 5 1 true true (putR n v i))], 1000 * (i + 1)⟩) (pre := fun i => i ≤ n) (μ := fun i => n - i) 0 (by omega) ?_ ?_
 ·refine Sub.of (hfz hF2) (by simp only [go_sem, subT, and_self, Int.natCast_zero]) ?_ (by simp only [go_sem, subK, and_self, true_or, or_true, List.not_mem_nil, List.mem_cons]) (by simp)
  simp [subH, Tx.look, putR, List.map_const']
 ·intro i hi
  have lr : (putR n v i).length = n := by simp [putR]
  by_cases hlt : i < n
  ·have f5 : decide ((i : Int) < (n : Int)) = true := dT (by omega)
   have f6 : (v : Int).fdiv (2 ^ min ((8 : Int) * ((n : Int) - 1 - (i : Int))).toNat 64) = ((v / 256 ^ (n - 1 - i) : Nat) : Int) := shrN v (n - 1 - i) (by omega) (by omega)
   simp only [f5, f6, lr, putR_set _ _ _ hlt, go_sem]
   repeat refine sd1 ?_
   refine ⟨i + 1, by omega, by omega, ?_⟩
   refine Sub.of (hfz hF2) (by simp only [go_sem, subT, and_self, Int.natCast_succ]) ?_ (by simp only [go_sem, subK, and_self, true_or, or_true, List.not_mem_nil, List.mem_cons]) (by simp; omega)
   simp [subH, Tx.look]
  ·have f5 : decide ((i : Int) < (n : Int)) = false := dF (by omega)
   have e : i = n := by omega
   subst e
   have e2 : List.take i (putR i v i) = putR i v i := List.take_of_length_le (by omega)
   simp only [f5, lr, e2, putR_str, go_sem]
   refine ⟨⟨by omega, fun row hr => ?_⟩, ?_⟩
   ·simp only [putR, List.mem_map] at hr
    obtain ⟨j, _, rfl⟩ := hr
    exact ⟨_, rfl⟩
   ·exact PostF.same (p := True) (.inr rfl) (by simp only [resVal, resVals, resVal1, one, go_sem]) trivial (by simp [Tx.nf, nfl]) (by simp [UpdAll])
def getB (l : List UInt8) : Nat := l.foldl (fun v c => v * 256 + c.toNat) 0
theorem or_nat {a b : Nat} (ha : a < 2 ^ 63) (hb : b < 2 ^ 63) : Sx.ibits .or .i64 (a : Int) (b : Int) = ((a ||| b : Nat) : Int) := by
 show IntKind.i64.wrap ((BitVec.ofInt 64 (a : Int) ||| BitVec.ofInt 64 (b : Int)).toNat : Int) = _
 rw [BitVec.ofInt_natCast, BitVec.ofInt_natCast, BitVec.toNat_or, BitVec.toNat_ofNat, BitVec.toNat_ofNat, Nat.mod_eq_of_lt (by omega), Nat.mod_eq_of_lt (by omega)]
 have := Nat.or_lt_two_pow ha hb
 apply Sx.wrap_i64
 simp only [Sx.inI64]; omega
theorem getB_lt (l : List UInt8) : getB l < 256 ^ l.length := by
 have : ∀ (l : List UInt8) (a k : Nat), a < 256 ^ k → l.foldl (fun v c => v * 256 + c.toNat) a < 256 ^ (k + l.length) := by
  intro l
  induction l with
  | nil => intro a k h; simpa using h
  | cons c l ih =>
   intro a k h
   have hc := c.toNat_lt
   have := ih (a * 256 + c.toNat) (k + 1) (by rw [Nat.pow_succ]; omega)
   simpa [Nat.add_assoc, Nat.add_comm 1] using this
 simpa [getB] using this l 0 0 (by simp)
theorem getB_succ (s : List UInt8) {i : Nat} (h : i < s.length) : getB (s.take (i + 1)) = getB (s.take i) * 256 + (s.getD i 0).toNat := by
 rw [List.take_add_one, getB, List.foldl_append, List.getD_eq_getElem?_getD, List.getElem?_eq_getElem h]
 rfl
theorem shl8_or {a : Nat} (ha : a < 256 ^ 6) (c : UInt8) : Sx.ibits .or .i64 (IntKind.i64.wrap ((a : Int) * 2 ^ min 8 64)) (c.toNat : Int) = ((a * 256 + c.toNat : Nat) : Int) := by
 have hc := c.toNat_lt
 have e1 : IntKind.i64.wrap ((a : Int) * 2 ^ min 8 64) = ((a * 256 : Nat) : Int) := by
  rw [Sx.wrap_i64]
  ·simp
  ·simp only [Sx.inI64]; simp; omega
 rw [e1, or_nat (by omega) (by omega)]
 congr 1
 have := Nat.shiftLeft_add_eq_or_of_lt (i := 8) (b := c.toNat) (by omega) a
 rw [Nat.shiftLeft_eq] at this
 exact this.symm
def rdP (s : List UInt8) (p : Int) : PV := .agg [.str s, .int .i64 p]
theorem oRead_ok {F : SF} {L nx : Nat} (s : List UInt8) (p : Int) (h0 : 0 ≤ p) (hp : p ≤ s.length) : Con Tryz.prog 140 [rdP s p] F L nx nx (.tup [rdP s p, .int .i64 0]) [] [] := by
 refine bdy Tryz.f140 ?_
 intro F3 hF1 hF2
 have f1 : decide (p < 0) = false := dF (by omega)
 have f2 : decide (p > (s.length : Int)) = false := dF (by omega)
 simp only [Tryz.f140, cx, rdP, f1, f2, Nat.add_zero, go_sem, meths]
 exact PostF.rs (v0 := .tup [.agg [.str s, .int .i64 p], .int .i64 0]) (.inr rfl)
theorem oTake1_ok {F : SF} {L nx : Nat} (s : List UInt8) : Con Tryz.prog 142 [.str s] F L nx nx (.str s) [] [] := by
 refine bdy Tryz.f142 ?_
 intro F3 hF1 hF2
 simp only [Tryz.f142, cx, go_sem, meths]
 exact PostF.rs (v0 := .str s) (.inr rfl)
theorem must_ok {F : SF} {L nx : Nat} : Con Tryz.prog 91 [.bool true] F L nx nx (.tup []) [] [] := by
 refine bdy Tryz.f91 ?_
 intro F3 hF1 hF2
 simp only [Tryz.f91, cx, go_sem, meths]
 exact PostF.of (p := True) (v0 := .tup []) (.inl rfl) (by simp only [resVal, resVals, one, go_sem]) trivial (by simp [Wk, WkL]) (by simp [wkN, wkNL]) (by simp [Tx.nf, nfl]) trivial (by simp [UpdAll])
theorem must_die {F : SF} {L : Nat} : DCon Tryz.prog chM 91 [.bool false] F L [] [] := by
 refine DCon.body (cxOk (L + 1)) rfl rfl (fn := Tryz.f91) (c := Tryz.f91.body.getD .skip) (by kernel_rfl) (by rfl) (by kernel_rfl) rfl (by simp) ?_
 intro F3 hF1 hF2
 simp only [Tryz.f91, cx, go_sem, meths]
 apply panicK.intro (ty := 204)
 ·rfl
 ·rfl
 ·rfl
 ·exact .dead (ns := []) (by simp) (by simp [UpdAll])
theorem oUint1_ok {F : SF} {L nx : Nat} (s : List UInt8) (hs : s.length ≤ 7) : Con Tryz.prog 124 [.str s] F L nx nx (.int .i64 (getB s)) [] [] := by
 refine bdy Tryz.f124 ?_
 intro F3 hF1 hF2
 have e1 : List.map (fun b : UInt8 => [PV.int .u8 b.toNat]) s = s.map rowB := rfl
 simp only [Tryz.f124, cx, go_sem, meths]
 refine ⟨by omega, ?_⟩
 refine loopK.intro _ _ (I := fun i : Nat => ⟨[none, none, none, some (.int .i64 (getB (s.take i))), none, none, none, some (.sl ⟨L + 1, 96⟩ 0 s.length), some (.int .i64 s.length), some (.int .i64 i)] ++ oz 10, [(⟨L + 1, 96⟩, .rows 5 1 true true (s.map rowB))], 1000 * (i + 1)⟩) (pre := fun i => i ≤ s.length) (μ := fun i => s.length - i) 0 (by omega) ?_ ?_
 ·exact Sub.of (hfz hF2) (by simp [subT, getB]) (by simp [subH, Tx.look]) (by simp [subK, keys]) (by simp)
 ·intro i hi
  by_cases hlt : i < s.length
  ·have f1 : decide ((i : Int) < (s.length : Int)) = true := dT (by omega)
   have r0 : (s.map rowB).getD i [] = rowB (s.getD i 0) := by simp [hlt, List.getD_eq_getElem?_getD]
   simp only [f1, r0, rowB, List.length_map, go_sem]
   have hci := (s.getD i 0).toNat_lt
   have hg : getB (s.take i) < 256 ^ 6 := Nat.lt_of_lt_of_le (getB_lt _) (Nat.pow_le_pow_right (by omega) (by simp; omega))
   have e3 : Sx.ibits .or .i64 (IntKind.i64.wrap ((getB (s.take i) : Nat) * 2 ^ min 8 64)) ((s.getD i 0).toNat : Int) = ((getB (s.take (i + 1)) : Nat) : Int) := by
    rw [shl8_or hg, getB_succ s hlt]
   repeat refine sd1 ?_
   rw [e3]
   exact ⟨i + 1, by omega, by omega, Sub.of (hfz hF2) (by simp [subT]) (by simp [subH, Tx.look]) (by simp [subK, keys]) (by simp; omega)⟩
  ·have f1 : decide ((i : Int) < (s.length : Int)) = false := dF (by omega)
   have e2 : s.take i = s := List.take_of_length_le (by omega)
   simp only [f1, e2, go_sem]
   exact PostF.rs (v0 := .int .i64 (getB s)) (.inr rfl)
theorem oNextStr_ok {F : SF} {L nx : Nat} (s : List UInt8) (p n m : Int) (h0 : 0 ≤ p) (hn : 0 ≤ n) (hm : n ≤ m) (hp : p + n ≤ s.length) (hl : s.length ≤ 1000000) : Con Tryz.prog 141 [rdP s p, .int .i64 n, .int .i64 0, .int .i64 m, .fn (.func 142) [] []] F L nx nx (.tup [.str ((s.drop p.toNat).take n.toNat), rdP s (p + n), .int .i64 0]) [] [] := by
 refine bdy Tryz.f141 ?_
 intro F3 hF1 hF2
 have f1 : decide (n < 0) = false := dF (by omega)
 have f2 : decide (n > m) = false := dF (by omega)
 have f3 : decide ((s.length : Int) - p < n) = false := dF (by omega)
 have e1 : (p + n).toNat - p.toNat = n.toNat := by omega
 simp only [Tryz.f141, cx, rdP, go_sem, meths]
 refine CallVC.pure (args2 := [rdP s p]) (by simp [Wk, WkL, rdP]) (oRead_ok s p h0 (by omega)) (by simp [plainP, plainPL, rdP]) ?_
 simp only [f1, f2, f3, rdP, Nat.add_zero, go_sem]
 repeat refine sd1 ?_
 refine CallVC.sameP (oTake1_ok _) rfl ?_
 simp only [e1, Nat.add_zero, go_sem]
 repeat refine sd1 ?_
 exact PostF.rs (v0 := .tup [.str ((s.drop p.toNat).take n.toNat), .agg [.str s, .int .i64 (p + n)], .int .i64 0]) (.inr rfl)
theorem oNextInt_ok {F : SF} {L nx : Nat} (s : List UInt8) (p n m : Int) (h0 : 0 ≤ p) (hn : 1 ≤ n) (hm : n ≤ m) (h7 : m ≤ 7) (hp : p + n ≤ s.length) (hl : s.length ≤ 1000000) : Con Tryz.prog 123 [rdP s p, .int .i64 n, .int .i64 1, .int .i64 m, .fn (.func 124) [] []] F L nx nx (.tup [.int .i64 (getB ((s.drop p.toNat).take n.toNat)), rdP s (p + n), .int .i64 0]) [] [] := by
 refine bdy Tryz.f123 ?_
 intro F3 hF1 hF2
 have f1 : decide (n < 1) = false := dF (by omega)
 have f2 : decide (n > m) = false := dF (by omega)
 have f3 : decide ((s.length : Int) - p < n) = false := dF (by omega)
 have e1 : (p + n).toNat - p.toNat = n.toNat := by omega
 simp only [Tryz.f123, cx, rdP, go_sem, meths]
 refine CallVC.pure (args2 := [rdP s p]) (by simp [Wk, WkL, rdP]) (oRead_ok s p h0 (by omega)) (by simp [plainP, plainPL, rdP]) ?_
 simp only [f1, f2, f3, rdP, Nat.add_zero, go_sem]
 repeat refine sd1 ?_
 refine CallVC.sameP (oUint1_ok _ (by simp; omega)) rfl ?_
 simp only [e1, Nat.add_zero, go_sem]
 repeat refine sd1 ?_
 exact PostF.rs (v0 := .tup [.int .i64 (getB ((s.drop p.toNat).take n.toNat)), .agg [.str s, .int .i64 (p + n)], .int .i64 0]) (.inr rfl)
theorem oNextInt_short {F : SF} {L nx : Nat} (s : List UInt8) (p n m : Int) (h0 : 0 ≤ p) (hps : p ≤ s.length) (hn : 1 ≤ n) (hm : n ≤ m) (hp : s.length < p + n) (hl : s.length ≤ 1000000) : Con Tryz.prog 123 [rdP s p, .int .i64 n, .int .i64 1, .int .i64 m, .fn (.func 124) [] []] F L nx nx (.tup [.int .i64 0, rdP [] 0, .int .i64 7]) [] [] := by
 refine bdy Tryz.f123 ?_
 intro F3 hF1 hF2
 have f1 : decide (n < 1) = false := dF (by omega)
 have f2 : decide (n > m) = false := dF (by omega)
 have f3 : decide ((s.length : Int) - p < n) = true := dT (by omega)
 simp only [Tryz.f123, cx, rdP, go_sem, meths]
 refine CallVC.pure (args2 := [rdP s p]) (by simp [Wk, WkL, rdP]) (oRead_ok s p h0 (by omega)) (by simp [plainP, plainPL, rdP]) ?_
 simp only [f1, f2, f3, rdP, Nat.add_zero, go_sem]
 repeat refine sd1 ?_
 exact PostF.rs (v0 := .tup [.int .i64 0, .agg [.str [], .int .i64 0], .int .i64 7]) (.inr rfl)
theorem oUint_ok {F : SF} {L nx : Nat} (s : List UInt8) (p n : Int) (h0 : 0 ≤ p) (hn : 1 ≤ n) (h7 : n ≤ 7) (hp : p + n ≤ s.length) (hl : s.length ≤ 1000000) : Con Tryz.prog 92 [rdP s p, .int .i64 n] F L nx nx (.tup [.int .i64 (getB ((s.drop p.toNat).take n.toNat)), rdP s (p + n), .int .i64 0]) [] [] := by
 refine bdy Tryz.f92 ?_
 intro F3 hF1 hF2
 simp only [Tryz.f92, cx, rdP, go_sem, meths]
 repeat refine sd1 ?_
 refine CallVC.sameP (oNextInt_ok s p n 7 h0 hn (by omega) (by omega) hp hl) (by simp [plainP, plainPL, rdP]) ?_
 simp only [rdP, go_sem]
 repeat refine sd1 ?_
 exact PostF.rs (v0 := .tup [.int .i64 (getB ((s.drop p.toNat).take n.toNat)), .agg [.str s, .int .i64 (p + n)], .int .i64 0]) (.inr rfl)
theorem oUint_short {F : SF} {L nx : Nat} (s : List UInt8) (p n : Int) (h0 : 0 ≤ p) (hps : p ≤ s.length) (hn : 1 ≤ n) (h7 : n ≤ 7) (hp : s.length < p + n) (hl : s.length ≤ 1000000) : Con Tryz.prog 92 [rdP s p, .int .i64 n] F L nx nx (.tup [.int .i64 0, rdP [] 0, .int .i64 7]) [] [] := by
 refine bdy Tryz.f92 ?_
 intro F3 hF1 hF2
 simp only [Tryz.f92, cx, rdP, go_sem, meths]
 repeat refine sd1 ?_
 refine CallVC.sameP (oNextInt_short s p n 7 h0 hps hn (by omega) hp hl) (by simp [plainP, plainPL, rdP]) ?_
 simp only [rdP, go_sem]
 repeat refine sd1 ?_
 exact PostF.rs (v0 := .tup [.int .i64 0, .agg [.str [], .int .i64 0], .int .i64 7]) (.inr rfl)
theorem oTake_ok {F : SF} {L nx : Nat} (s : List UInt8) (p n : Int) (h0 : 0 ≤ p) (hn : 0 ≤ n) (hp : p + n ≤ s.length) (hl : s.length ≤ 1000000) : Con Tryz.prog 125 [rdP s p, .int .i64 n] F L nx nx (.tup [.str ((s.drop p.toNat).take n.toNat), rdP s (p + n), .int .i64 0]) [] [] := by
 refine bdy Tryz.f125 ?_
 intro F3 hF1 hF2
 have fm : max n 0 = n := by omega
 simp only [Tryz.f125, cx, rdP, fm, go_sem, meths]
 repeat refine sd1 ?_
 refine CallVC.sameP (oNextStr_ok s p n n h0 hn (by omega) hp hl) (by simp [plainP, plainPL, rdP]) ?_
 simp only [rdP, go_sem]
 repeat refine sd1 ?_
 exact PostF.rs (v0 := .tup [.str ((s.drop p.toNat).take n.toNat), .agg [.str s, .int .i64 (p + n)], .int .i64 0]) (.inr rfl)
theorem number_ok {F : SF} {L nx : Nat} (r : Nm) (hr : r.l ≤ L) (s : List UInt8) (p n : Nat) (k : Int) (hk : k = n) (h1 : 1 ≤ n) (h7 : n ≤ 7) (hp : p + n ≤ s.length) (hl : s.length ≤ 1000000) (hF : F r = some (rdB s p)) : Con Tryz.prog 47 [.ptr r 0 0, .int .i64 k] F L nx nx (.int .i64 (getB ((s.drop p).take n))) [(r, rdB s (p + n))] [r] := by
 subst hk
 refine bdy Tryz.f47 (hrd := (by simp; omega)) ?_
 intro F3 hF1 hF2
 have hF3 : F3 r = some (.rows 178 2 true true [[.str s, .int .i64 p]]) := (hF1 r (by simp)).trans hF
 have n1 : ∀ k, (r = (⟨L + 1, k⟩ : Nm)) = False := nm_out hr
 have n2 : ∀ k, ((⟨L + 1, k⟩ : Nm) = r) = False := nm_out' hr
 simp only [Tryz.f47, cx, hF3, Nat.add_zero, go_sem, meths]
 repeat refine sd1 ?_
 refine CallVC.sameP (oUint_ok s p n (by omega) (by omega) (by omega) (by omega) hl) (by simp [plainP, plainPL, rdP]) ?_
 simp only [rdP, go_sem]
 repeat refine sd1 ?_
 refine CallVC.sameP must_ok rfl ?_
 simp only [n1, hF3, Nat.add_zero, go_sem]
 repeat refine sd1 ?_
 exact PostF.of (p := True) (v0 := .int .i64 (getB ((s.drop p).take n))) (.inr rfl) (by simp only [resVal, resVals, resVal1, one, go_sem]) trivial (by simp [Wk]) (by simp [wkN]) (by simp [Tx.nf]) ⟨hr, by simp [BW, Tx.look, rdB, n1], trivial⟩ (by simp [UpdAll, keys])
theorem number_die {F : SF} {L : Nat} (r : Nm) (hr : r.l ≤ L) (s : List UInt8) (p n : Nat) (k : Int) (hk : k = n) (h1 : 1 ≤ n) (h7 : n ≤ 7) (hps : p ≤ s.length) (hp : s.length < p + n) (hl : s.length ≤ 1000000) (hF : F r = some (rdB s p)) : DCon Tryz.prog chM 47 [.ptr r 0 0, .int .i64 k] F L [(r, .dead)] [r] := by
 subst hk
 refine DCon.body (cxOk (L + 1)) rfl rfl (fn := Tryz.f47) (c := Tryz.f47.body.getD .skip) (by kernel_rfl) (by rfl) (by kernel_rfl) rfl  (by simp; omega) ?_
 intro F3 hF1 hF2
 have hF3 : F3 r = some (.rows 178 2 true true [[.str s, .int .i64 p]]) := (hF1 r (by simp)).trans hF
 have n1 : ∀ k, (r = (⟨L + 1, k⟩ : Nm)) = False := nm_out hr
 have n2 : ∀ k, ((⟨L + 1, k⟩ : Nm) = r) = False := nm_out' hr
 simp only [Tryz.f47, cx, hF3, Nat.add_zero, go_sem, meths]
 repeat refine sd1 ?_
 refine CallVD.live (CallVC.sameP (oUint_short s p n (by omega) (by omega) (by omega) (by omega) (by omega) hl) (by simp [plainP, plainPL, rdP]) ?_)
 simp only [rdP, go_sem]
 repeat refine sd1 ?_
 refine CallVD.same rfl must_die ?_
 exact .dead (ns := [r]) (by simpa using hr) (by simp [UpdAll, updH])
theorem rtake_ok {F : SF} {L nx : Nat} (r : Nm) (hr : r.l ≤ L) (s : List UInt8) (p n : Nat) (k : Int) (hk : k = n) (hp : p + n ≤ s.length) (hl : s.length ≤ 1000000) (hF : F r = some (rdB s p)) : Con Tryz.prog 93 [.ptr r 0 0, .int .i64 k] F L nx nx (.str ((s.drop p).take n)) [(r, rdB s (p + n))] [r] := by
 subst hk
 refine bdy Tryz.f93 (hrd := (by simp; omega)) ?_
 intro F3 hF1 hF2
 have hF3 : F3 r = some (.rows 178 2 true true [[.str s, .int .i64 p]]) := (hF1 r (by simp)).trans hF
 have n1 : ∀ k, (r = (⟨L + 1, k⟩ : Nm)) = False := nm_out hr
 have n2 : ∀ k, ((⟨L + 1, k⟩ : Nm) = r) = False := nm_out' hr
 simp only [Tryz.f93, cx, hF3, Nat.add_zero, go_sem, meths]
 repeat refine sd1 ?_
 refine CallVC.sameP (oTake_ok s p n (by omega) (by omega) (by omega) hl) (by simp [plainP, plainPL, rdP]) ?_
 simp only [rdP, go_sem]
 repeat refine sd1 ?_
 refine CallVC.sameP must_ok rfl ?_
 simp only [n1, hF3, Nat.add_zero, go_sem]
 repeat refine sd1 ?_
 exact PostF.of (p := True) (v0 := .str ((s.drop p).take n)) (.inr rfl) (by simp only [resVal, resVals, resVal1, one, go_sem]) trivial (by simp [Wk]) (by simp [wkN]) (by simp [Tx.nf]) ⟨hr, by simp [BW, Tx.look, rdB, n1], trivial⟩ (by simp [UpdAll, keys])
def eN (v : Nat) : List PV := [.int .i64 v]
def bldD : Option Nm → List (Nm × SBlk)
 | none => []
 | some m => [(m, .dead)]
def bldR (n : Nm) : Option Nm → List Nm
 | none => [n]
 | some m => [n, m]
def bldL (L nx : Nat) : Option Nm → Prop
 | none => True
 | some m => m.l < L ∨ (m.l = L ∧ m.i < nx)
theorem writeString_ok {F : SF} {L nx : Nat} (n : Nm) (e : TypeId) (he : e = 213 ∨ e = 133) (hn : n.l < L ∨ (n.l = L ∧ n.i < nx)) (b : Option Nm) (hm : bldL L nx b) (t s : List UInt8) (hs : s ≠ []) (hsl : t.length + s.length ≤ 1000000) (hb : bldF F n e b t) :
  Con Tryz.prog 61 [.ptr n 0 0, .str s] F L nx (nx + 1) (.tup [.int .i64 s.length, .nilI]) (bldD b ++ bldU n e ⟨L, nx⟩ (t ++ s)) (bldR n b) := by
 cases b with
 | none =>
  have := hb.1
  subst this
  exact writeString0_ok n e he hn s hs (by simpa using hsl) hb
 | some m => exact writeString1_ok n e he hn m hm t s hs hsl hb
theorem flat_len (k : Nat) : ∀ l : List Nat, (l.flatMap (putB k)).length = l.length * k
 | [] => by simp
 | x :: l => by simp only [List.flatMap_cons, List.length_append, putB_len, List.length_cons, flat_len k l, Nat.succ_mul]; omega
theorem bput_ok {F : SF} {L nx : Nat} (n : Nm) (hn : n.l < L ∨ (n.l = L ∧ n.i < nx)) (b : Option Nm) (hm : bldL L nx b) (t : List UInt8) (k : Nat) (hk1 : 1 ≤ k) (hk2 : k ≤ 7) (vs : List Nat) (hv : ∀ v ∈ vs, v < 256 ^ k) (hv0 : vs ≠ []) (hvl : t.length + vs.length * 7 ≤ 1000000) (hb : bldF F n 213 b t) :
  Con Tryz.prog 185 [.ptr n 0 0, .int .i64 k, .fs 1 (vs.map eN)] F L nx (nx + 1) (.tup []) (bldD b ++ bldU n 213 ⟨L, nx⟩ (t ++ vs.flatMap (putB k))) (bldR n b) := by
 refine bdyN Tryz.f185 (hrd := (by cases b <;> simp [bldR] <;> (try simp [bldL] at hm) <;> omega)) ?_
 intro F3 hF1 hF2
 simp only [Tryz.f185, cx, go_sem, meths]
 refine loopK.intro _ _ (I := fun i : Nat => ⟨[some (.ptr n 0 0), some (.int .i64 k), none, none, none, none, none, none, none, none, some (.fs 1 (vs.map eN)), some (.int .i64 vs.length), some (.int .i64 i)] ++ oz 15,
  if i = 0 then [] else bldD b ++ bldU n 213 ⟨L + 1, 1000 * i + 480⟩ (t ++ (vs.take i).flatMap (putB k)), 1000 * (i + 1)⟩) (pre := fun i => i ≤ vs.length) (μ := fun i => vs.length - i) 0 (by omega) ?_ ?_
 ·exact Sub.of (hfz hF2) (by simp only [go_sem, subT, and_self, Int.natCast_zero, List.length_map]) (by simp [subH]) (by simp only [go_sem, subK]) (by simp)
 ·intro i hi
  by_cases hlt : i < vs.length
  ·have f1 : decide ((i : Int) < (vs.length : Int)) = true := dT (by omega)
   have r0 : (vs.map eN).getD i [] = [.int .i64 (vs.getD i 0 : Nat)] := by simp [hlt, List.getD_eq_getElem?_getD, eN]
   have hvi := hv (vs.getD i 0) (by rw [List.getD_eq_getElem?_getD, List.getElem?_eq_getElem hlt]; simp)
   have hpl : (putB k (vs.getD i 0)).length = k := putB_len _ _
   have hFb : bldF F3 n 213 b t := by
    cases b with
    | none => exact ⟨hb.1, hb.2.imp fun p h => (hF1 n (by simp [bldR])).trans h⟩
    | some m => exact ⟨hb.1, (hF1 n (by simp [bldR])).trans hb.2.1, (hF1 m (by simp [bldR])).trans hb.2.2.1, hb.2.2.2⟩
   have hmL : bldL (L + 1) 0 b := by
    cases b with
    | none => trivial
    | some m => simp only [bldL] at hm ⊢; omega
   have hne : putB k (vs.getD i 0) ≠ [] := by intro h; rw [h] at hpl; simp at hpl; omega
   have n1 : ∀ k, (n = (⟨L + 1, k⟩ : Nm)) = False := nm_out (by omega)
   have n2 : ∀ k, ((⟨L + 1, k⟩ : Nm) = n) = False := nm_out' (by omega)
   have htk : (vs.take i).flatMap (putB k) ++ putB k (vs.getD i 0) = (vs.take (i + 1)).flatMap (putB k) := by
    rw [List.take_add_one, List.flatMap_append, List.getD_eq_getElem?_getD, List.getElem?_eq_getElem hlt]; simp
   have hfl : ((vs.take i).flatMap (putB k)).length = i * k := by
    rw [flat_len, List.length_take, Nat.min_eq_left hi]
   have hik : i * k ≤ i * 7 := Nat.mul_le_mul_left _ hk2
   cases i with
   | zero =>
    simp only [f1, r0, List.length_map, Nat.add_zero, go_sem]
    repeat refine sd1 ?_
    refine CallVC.same (put_ok k (vs.getD 0 0) hk1 hk2 hvi) ?_
    simp only [Nat.add_zero, go_sem]
    refine CallVC.same (writeString_ok n 213 (.inl rfl) (by omega) b ?_ t (putB k (vs.getD 0 0)) hne (by omega) hFb) ?_
    ·cases b with
     | none => trivial
     | some m => exact .inl (by simp only [bldL] at hm; omega)
    simp only [go_sem]
    refine ⟨⟨by omega, by omega⟩, 1, by omega, by omega, ?_⟩
    rw [if_neg (by omega), ← htk]
    simp only [List.take_zero, List.flatMap_nil, List.nil_append]
    cases b with
    | none =>
     refine Sub.of (hfz hF2) (by simp only [go_sem, subT, and_self, Int.natCast_succ]) ?_ ?_ (by simp)
     ·simp [subH, Tx.look, bldD, bldU, updH, setH, n2]
     ·simp [subK, keys, bldD, bldU, updH, setH, n1, n2]
    | some m =>
     have hmn := hb.2.2.2
     have n3 : ∀ k, (m = (⟨L + 1, k⟩ : Nm)) = False := nm_out (by simp only [bldL] at hm; omega)
     have n4 : ∀ k, ((⟨L + 1, k⟩ : Nm) = m) = False := nm_out' (by simp only [bldL] at hm; omega)
     have n5 : (m = n) = False := by simp [hmn]
     have n6 : (n = m) = False := by simp [Ne.symm hmn]
     refine Sub.of (hfz hF2) (by simp only [go_sem, subT, and_self, Int.natCast_succ]) ?_ ?_ (by simp)
     ·simp [subH, Tx.look, bldD, bldU, updH, setH, n2, n4, n6]
     ·simp [subK, keys, bldD, bldU, updH, setH, n1, n2, n3, n4, n5, n6]
   | succ i =>
    simp only [f1, r0, List.length_map, go_sem]
    repeat refine sd1 ?_
    refine CallVC.same (put_ok k (vs.getD (i + 1) 0) hk1 hk2 hvi) ?_
    simp only [Nat.add_zero, go_sem]
    refine CallVC.same (writeString_ok n 213 (.inl rfl) (by omega) (some ⟨L + 1, 1000 * (i + 1) + 480⟩) ?_ (t ++ (vs.take (i + 1)).flatMap (putB k)) (putB k (vs.getD (i + 1) 0)) hne (by rw [List.length_append]; omega) ?_) ?_
    ·exact .inr ⟨rfl, by simp only []; omega⟩
    ·have hlen0 : t ++ (vs.take (i + 1)).flatMap (putB k) ≠ [] := by
      intro h
      have := congrArg List.length h
      rw [List.length_append, hfl] at this
      have : 1 * 1 ≤ (i + 1) * k := Nat.mul_le_mul (by omega) hk1
      simp at *; omega
     cases b with
     | none => exact ⟨hlen0, by simp [Tx.look, bldD, bldU], by simp [Tx.look, bldD, bldU, n2], by simp [n2]⟩
     | some m =>
      have hmn := hb.2.2.2
      have n3 : ∀ k, (m = (⟨L + 1, k⟩ : Nm)) = False := nm_out (by simp only [bldL] at hm; omega)
      have n4 : ∀ k, ((⟨L + 1, k⟩ : Nm) = m) = False := nm_out' (by simp only [bldL] at hm; omega)
      have n5 : (m = n) = False := by simp [hmn]
      have n6 : (n = m) = False := by simp [Ne.symm hmn]
      exact ⟨hlen0, by simp [Tx.look, bldD, bldU, n6], by simp [Tx.look, bldD, bldU, n2, n4], by simp [n2]⟩
    rw [show (1000 * (i + 1 + 1) + 32 + 32 + 32 + 32 + 32 + 32 + 32 + 32 + 32 + 32 + 32 + 32 + 32 + 32 + 32 : Nat) = 1000 * (i + 1 + 1) + 480 by omega]
    simp only [go_sem]
    refine ⟨⟨by omega, by omega⟩, i + 1 + 1, by omega, by omega, ?_⟩
    rw [if_neg (by omega), ← htk, ← List.append_assoc]
    have n7 : ((⟨L + 1, 1000 * (i + 1) + 480⟩ : Nm) = ⟨L + 1, 1000 * (i + 1 + 1) + 480⟩) = False := by simp; omega
    have n8 : ((⟨L + 1, 1000 * (i + 1 + 1) + 480⟩ : Nm) = ⟨L + 1, 1000 * (i + 1) + 480⟩) = False := by simp; omega
    cases b with
    | none =>
     refine Sub.of (hfz hF2) (by simp only [go_sem, subT, and_self, Int.natCast_succ]) ?_ ?_ (by simp only []; omega)
     ·simp only [subH, Tx.look, bldD, bldU, updH, setH, n1, n2, n8, List.cons_append, List.nil_append, if_true, if_false, and_self]
     ·simp [subK, keys, bldD, bldU, updH, setH, n1, n2, n7, n8]
    | some m =>
     have hmn := hb.2.2.2
     have n3 : ∀ k, (m = (⟨L + 1, k⟩ : Nm)) = False := nm_out (by simp only [bldL] at hm; omega)
     have n4 : ∀ k, ((⟨L + 1, k⟩ : Nm) = m) = False := nm_out' (by simp only [bldL] at hm; omega)
     have n5 : (m = n) = False := by simp [hmn]
     have n6 : (n = m) = False := by simp [Ne.symm hmn]
     refine Sub.of (hfz hF2) (by simp only [go_sem, subT, and_self, Int.natCast_succ]) ?_ ?_ (by simp only []; omega)
     ·simp only [subH, Tx.look, bldD, bldU, updH, setH, n1, n2, n3, n4, n5, n6, n8, List.cons_append, List.nil_append, if_true, if_false, and_self]
     ·simp [subK, keys, bldD, bldU, updH, setH, n1, n2, n3, n4, n5, n6, n7, n8]
  ·have f1 : decide ((i : Int) < (vs.length : Int)) = false := dF (by omega)
   have e : i = vs.length := by omega
   subst e
   have hi0 : vs.length ≠ 0 := by intro h; exact hv0 (List.eq_nil_of_length_eq_zero h)
   have n1 : ∀ k, (n = (⟨L + 1, k⟩ : Nm)) = False := nm_out (by omega)
   have n2 : ∀ k, ((⟨L + 1, k⟩ : Nm) = n) = False := nm_out' (by omega)
   simp only [f1, List.take_length, go_sem]
   rw [if_neg hi0]
   have hnd : [1000 * vs.length + 480].Nodup := by simp
   cases b with
   | none =>
    refine .now (PostN.val [1000 * vs.length + 480] (.inl rfl) hnd (p := True) (v0 := .tup []) rfl trivial (by trivial) rfl ⟨by omega, ?_, Nat.le_refl _, ?_, trivial⟩ (by simp [UpdAll, keys, bldD, bldU]))
    ·rw [kp_out (hn.imp id fun h => .inl h.2)]
     exact .ren (by simp [Tx.look, bldU, bldD]; rfl) (by simp [rowsNm, nmA, nmAL, Dn]; omega) (by simp [Tx.rn, Tx.rnL, sg_out (show n.l ≤ L by omega)]; simp [sg])
    ·rw [kp_at0 (by simp)]
     exact .pure (by simp [Tx.look, bldU, bldD, n2])
   | some m =>
    have hmn := hb.2.2.2
    have n3 : ∀ k, (m = (⟨L + 1, k⟩ : Nm)) = False := nm_out (by simp only [bldL] at hm; omega)
    have n4 : ∀ k, ((⟨L + 1, k⟩ : Nm) = m) = False := nm_out' (by simp only [bldL] at hm; omega)
    have n6 : (n = m) = False := by simp [Ne.symm hmn]
    refine .now (PostN.val [1000 * vs.length + 480] (.inl rfl) hnd (p := True) (v0 := .tup []) rfl trivial (by trivial) rfl ⟨by simp only [bldL] at hm; omega, BN_dead, by omega, ?_, Nat.le_refl _, ?_, trivial⟩ (by simp [UpdAll, keys, bldD, bldU]))
    ·rw [kp_out (hn.imp id fun h => .inl h.2)]
     exact .ren (by simp [Tx.look, bldU, bldD, n6]; rfl) (by simp [rowsNm, nmA, nmAL, Dn]; omega) (by simp [Tx.rn, Tx.rnL, sg_out (show n.l ≤ L by omega)]; simp [sg])
    ·rw [kp_at0 (by simp)]
     exact .pure (by simp [Tx.look, bldU, bldD, n2, n4])
theorem kS2 {i c k : Nat} (h : k < 10000) : (10000 * (i + 1) + c = k) = False := by apply eq_false; omega
theorem kS3 (x c d : Nat) : (x + c = x + d) = (c = d) := by simp
theorem small_ok {F : SF} {L nx : Nat} (b : Int) (xs : List Int) (h0 : 0 ≤ b) (h1 : b ≤ 32) (hlen : xs.length ≤ 1000000) : Con Tryz.prog 69 [.int .i64 b, .fs 1 (xs.map eI)] F L nx nx (.bool (xs.all (serB b))) [] [] := by
 refine bdy Tryz.f69 ?_
 intro F3 hF1 hF2
 simp only [Tryz.f69, cx, go_sem, meths]
 refine loopK.intro _ _ (I := fun i : Nat => ⟨[some (.int .i64 b), none, none, none, none, none, none, some (.fs 1 (xs.map eI)), some (.int .i64 xs.length), some (.int .i64 i)] ++ oz 12, [], 1000 * (i + 1)⟩) (pre := fun i => i ≤ xs.length ∧ ∀ j, j < i → serB b (xs.getD j 0) = true) (μ := fun i => xs.length - i) 0 ⟨by omega, by intro j h; omega⟩ ?_ ?_
 ·exact Sub.of (hfz hF2) (by simp only [go_sem, subT, and_self, List.length_map, Int.natCast_zero]) trivial trivial (by simp)
 ·rintro i ⟨hi, hp⟩
  have hpw : (1 : Int) ≤ 2 ^ b.toNat := (pow_le h0 h1).2
  by_cases hlt : i < xs.length
  ·have f1 : decide ((i : Int) < (xs.length : Int)) = true := dT (by omega)
   have r0 := getD_eI xs hlt
   have bad : serB b (xs.getD i 0) = false → xs.all (serB b) = false := by
    intro h
    rw [List.all_eq_false]
    exact ⟨xs.getD i 0, by rw [List.getD_eq_getElem?_getD, List.getElem?_eq_getElem hlt]; simp, by rw [h]; decide⟩
   rcases Int.lt_or_le (xs.getD i 0) 0 with hn | hn
   ·have f2 : decide (xs.getD i 0 < 0) = true := dT hn
    simp only [f1, f2, r0, eI, List.length_map, go_sem]
    repeat refine sd1 ?_
    exact .bool (.inr rfl) rfl (bad (by unfold serB; rw [dF (show ¬ 0 ≤ xs.getD i 0 by omega)]; rfl)).symm trivial
   ·have f2 : decide (xs.getD i 0 < 0) = false := dF (by omega)
    rcases Int.lt_or_le (xs.getD i 0) (2 ^ b.toNat) with hb | hb
    ·have f3 := neF (shr0 h0 (by omega) hn hb)
     simp only [f1, f2, f3, r0, eI, List.length_map, go_sem]
     repeat refine sd1 ?_
     refine ⟨i + 1, ⟨by omega, fun j hj => ?_⟩, by omega, ?_⟩
     ·rcases Nat.lt_or_ge j i with h | h
      ·exact hp j h
      ·have : j = i := by omega
       subst this
       unfold serB; rw [dT hn, dT hb]; rfl
     ·exact Sub.of (hfz hF2) (by simp only [go_sem, subT, and_self, Int.natCast_succ]) trivial trivial (by simp; omega)
    ·have f3 : ((xs.getD i 0).fdiv (2 ^ min b.toNat 64) != 0) = true := neT (by
      rw [shr_eq _ h0 (by omega)]
      have := Int.le_ediv_of_mul_le (show (0 : Int) < 2 ^ b.toNat by omega) (show 1 * 2 ^ b.toNat ≤ xs.getD i 0 by omega)
      omega)
     simp only [f1, f2, f3, r0, eI, List.length_map, go_sem]
     repeat refine sd1 ?_
     exact .bool (.inr rfl) rfl (bad (by unfold serB; rw [dF (show ¬ xs.getD i 0 < 2 ^ b.toNat by omega)]; simp)).symm trivial
  ·have f1 : decide ((i : Int) < (xs.length : Int)) = false := dF (by omega)
   simp only [f1, go_sem]
   refine .bool (.inr rfl) rfl ?_ trivial
   symm
   rw [List.all_eq_true]
   intro x hx
   obtain ⟨j, hj, rfl⟩ := List.getElem_of_mem hx
   have := hp j (by omega)
   simpa [List.getD_eq_getElem?_getD, hj] using this
def rstP (kind num last res : Int) (streams : PV) : PV := .agg [.int .i64 kind, .int .i64 num, .int .i64 last, .int .i64 res, streams]
def incB (xs : List Int) : Bool := (List.range xs.length).all fun i => serB 16 (xs.getD i 0) && (i == 0 || decide (xs.getD (i - 1) 0 < xs.getD i 0))
def resetV (kind num last res : Int) (xs : List Int) : Bool :=
 incB xs && serB 32 num && serB 32 last && serB 8 res && (if kind = 2 then last == 0 && xs.isEmpty else kind == 1 && res == 0 && decide (1 ≤ xs.length) && decide (xs.length ≤ 30))
theorem bput_call {F : SF} {L nx : Nat} {K : PV → List (Nm × SBlk) → List Nm → Nat → Prop} (n : Nm) (hn : n.l < L ∨ (n.l = L ∧ n.i < nx)) (b : Option Nm) (hm : bldL L nx b) (t : List UInt8) (k : Nat) (kk : Int) (hkk : kk = k) (hk1 : 1 ≤ k) (hk2 : k ≤ 7) (vs : List Nat) (hv : ∀ v ∈ vs, v < 256 ^ k) (hv0 : vs ≠ []) (hvl : t.length + vs.length * 7 ≤ 1000000)
  (m : Nm) (l : Nat) (hl : l = vs.length) (hFm : F m = some (.rows 3 1 true true (vs.map eN))) (hmn : n ≠ m) (hmb : b ≠ some m) (hb : bldF F n 213 b t) (t2 : List UInt8) (ht2 : t2 = t ++ vs.flatMap (putB k))
  (hk : K (.tup []) ([(m, .rows 3 1 false true (vs.map eN))] ++ (bldD b ++ bldU n 213 ⟨L, nx⟩ t2)) ([m] ++ bldR n b) (nx + 1)) : CallVC Tryz.prog 185 [.ptr n 0 0, .int .i64 kk, .sl m 0 l] F L nx K := by
 subst hkk; subst hl; subst ht2
 have e1 : wkNL [.ptr n 0 0, .int .i64 (k : Int), .sl m 0 vs.length] [.ptr n 0 0, .int .i64 (k : Int), .fs 1 (vs.map eN)] = [m] := by simp [wkNL, wkN]
 have e2 : unown F [m] = [(m, .rows 3 1 false true (vs.map eN))] := by simp [unown, hFm]
 refine CallVC.gen (args2 := [.ptr n 0 0, .int .i64 (k : Int), .fs 1 (vs.map eN)]) ?_ (bput_ok n hn b hm t k hk1 hk2 vs hv hv0 hvl ?_) ?_
 ·simp [Wk, WkL, hFm, List.take_of_length_le]
 ·rw [e1, e2]
  have hx : ∀ q, q ≠ m → (F.upd [(m, .rows 3 1 false true (vs.map eN))]) q = F q := by intro q hq; simp [SF.upd, SF.set, hq]
  cases b with
  | none => exact ⟨hb.1, hb.2.imp fun p h => (hx n hmn).trans h⟩
  | some m2 => exact ⟨hb.1, (hx n hmn).trans hb.2.1, (hx m2 (fun e => hmb (by rw [e]))).trans hb.2.2.1, hb.2.2.2⟩
 ·rw [e1, e2]; exact hk
theorem serB_nat {b x : Int} (h : serB b x = true) : x = (x.toNat : Int) ∧ x.toNat < 2 ^ b.toNat := by
 simp only [serB, Bool.and_eq_true, decide_eq_true_eq] at h
 have e : ((x.toNat : Nat) : Int) = x := by omega
 refine ⟨e.symm, ?_⟩
 have h2 := h.2
 rw [← e] at h2
 exact_mod_cast h2
theorem putBad_ok {F : SF} {L nx : Nat} (ty : TypeId) (v : PV) (fv : FuncId) (h1 : Meths.get meths ty "tannoy/chunk.valid" = some fv) (hv : ∀ (F : SF) (L nx : Nat), Con Tryz.prog fv [v] F L nx nx (.bool false) [] []) :
  Con Tryz.prog 94 [.ifc ty v] F L nx nx (.tup [.agg [.int .i64 0, .int .i64 0, .str []], .int .i64 320]) [] [] := by
 refine bdy Tryz.f94 ?_
 intro F3 hF1 hF2
 simp only [Tryz.f94, cx, h1, go_sem]
 refine CallVC.same (hv _ _ _) ?_
 simp only [go_sem]
 exact PostF.same (p := True) (.inr rfl) (by simp only [resVal, resVals, resVal1, one, go_sem]) trivial (by simp [Tx.nf, nfl]) (by simp [UpdAll])
theorem putGood_ok {F : SF} {L nx : Nat} (ty : TypeId) (v : PV) (fv fw : FuncId) (h1 : Meths.get meths ty "tannoy/chunk.valid" = some fv) (h2 : Meths.get meths ty "tannoy/chunk.write" = some fw) (hv : ∀ (F : SF) (L nx : Nat), Con Tryz.prog fv [v] F L nx nx (.bool true) [] [])
  (kind flags : Int) (t : List UInt8) (ht : t ≠ []) (htl : t.length ≤ 1000000) (hw : ∀ (F : SF) (L nx : Nat) (n : Nm), (n.l < L ∨ (n.l = L ∧ n.i < nx)) → bldF F n 213 none [] → Con Tryz.prog fw [v, .ptr n 0 0] F L nx (nx + 1) (.tup [.int .i64 kind, .int .i64 flags]) (bldU n 213 ⟨L, nx⟩ t) [n]) :
  Con Tryz.prog 94 [.ifc ty v] F L nx nx (.tup [.agg [.int .i64 kind, .int .i64 flags, .str t], .int .i64 0]) [] [] := by
 refine bdy Tryz.f94 ?_
 intro F3 hF1 hF2
 simp only [Tryz.f94, cx, h1, go_sem]
 refine CallVC.same (hv _ _ _) ?_
 simp only [h2, go_sem]
 refine CallVC.same (hw _ _ _ ⟨L + 1, 128⟩ (by simp) ⟨rfl, true, by simp⟩) ?_
 simp only [bldU, Nat.add_zero, go_sem]
 refine CallVC.same (bString_ok ⟨L + 1, 128⟩ 213 (by simp) ⟨L + 1, 192⟩ (by simp) t htl ⟨ht, by simp, by simp, by simp⟩) ?_
 simp only [go_sem]
 exact PostF.same (p := True) (.inr rfl) (by simp only [resVal, resVals, resVal1, one, go_sem]) trivial (by simp [Tx.nf, nfl]) (by simp [UpdAll])
def resetB (kind num last res : Int) (xs : List Int) : List UInt8 :=
 if kind = 2 then putB 1 2 ++ putB 4 num.toNat ++ putB 1 res.toNat else putB 1 1 ++ putB 4 num.toNat ++ (putB 4 last.toNat ++ (xs.map Int.toNat).flatMap (putB 2))
theorem xor8 {a b : Nat} (ha : a < 2 ^ 8) (hb : b < 2 ^ 8) : Sx.ibits .xor .u8 (a : Int) (b : Int) = ((a ^^^ b : Nat) : Int) := by
 show IntKind.u8.wrap ((BitVec.ofInt 8 (a : Int) ^^^ BitVec.ofInt 8 (b : Int)).toNat : Int) = _
 rw [BitVec.ofInt_natCast, BitVec.ofInt_natCast, BitVec.toNat_xor, BitVec.toNat_ofNat, BitVec.toNat_ofNat, Nat.mod_eq_of_lt (by omega), Nat.mod_eq_of_lt (by omega)]
 have := Nat.xor_lt_two_pow ha hb
 rw [IntKind.wrap_u8]; omega
def byN (v : Nat) : UInt8 := UInt8.ofNat (v % 256)
end Go.Proofs.YtifhjhbfhdcahaaGreat
end
