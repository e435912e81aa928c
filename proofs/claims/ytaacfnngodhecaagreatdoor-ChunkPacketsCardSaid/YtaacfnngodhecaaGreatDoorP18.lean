/- Lemmas for the walk: U43, WK39, WK39b, WK27, WK28, WD20, WR31, WK48, WK29, WK30, WK31, WK32, WK33, WK34. -/
import Derived.Test.YtaacfnngodhecaaGreatDoorP15
import Derived.Test.YtaacfnngodhecaaGreatDoorP17
import Derived.Test.YtaacfnngodhecaaGreatDoorP16
import Derived.Test.YtaacfnngodhecaaGreatDoorP13
import Derived.Test.YtaacfnngodhecaaGreatDoorP12
import Derived.Test.YtaacfnngodhecaaGreatDoorP09
set_option linter.all false
section
namespace Go.Tx
section
variable (C : Cx) (F0 : SF)
def restX (i0 j0 : Nat) (l : List Oper) (i : Nat) (Hs : List (Nm × SBlk)) (K : RK) : RK := fun t H nx fps => execX C F0 i0 j0 l i t H Hs nx fps K
theorem restX_app (i0 j0 : Nat) (l : List Oper) (i : Nat) (Hs : List (Nm × SBlk)) (K : RK) (a : Option PV) (t : List (Option PV)) (H : List (Nm × SBlk)) (nx : Nat) (fps : FPs) : restX C F0 i0 j0 l i Hs K (a :: t) H nx fps = execX C F0 i0 j0 l i (a :: t) H Hs nx fps K := propext ⟨fun h => h, fun h => h⟩
theorem xx_nil (i0 j0 i : Nat) (t : List (Option PV)) (H Hs : List (Nm × SBlk)) (nx : Nat) (fps : FPs) (K : RK) : execX C F0 i0 j0 [] i t H Hs nx fps K = K t H nx fps := propext ⟨fun h => h, fun h => h⟩
theorem xx_cons (i0 j0 : Nat) (o : Oper) (l : List Oper) (i : Nat) (t : List (Option PV)) (H Hs : List (Nm × SBlk)) (nx : Nat) (fps : FPs) (K : RK) : execX C F0 i0 j0 (o :: l) i t H Hs nx fps K =
  (match o.guard with
  | some _ => False
  | none =>
   if i = j0 then
    match semOp C.T C.wr (evalT t) (look F0 H) ⟨C.L, nx⟩ o.op, semOp C.T C.wr (evalT t) (look F0 Hs) ⟨C.L, nx⟩ o.op with
    | some r, some r' => r.vc ∧ r'.vc ∧ r'.v = r.v ∧ r.upd = [] ∧ r'.upd = [] ∧ r'.rd = r.rd ∧ execX C F0 i0 j0 l (i + 1) (putT t o.dst r.v) H Hs (nx + 32) (fps ++ [(r.rd, [])]) K
    | _, _ => False
   else opVK C F0 o t H nx fps (restX C F0 i0 j0 l (i + 1) (if i = i0 then H else Hs) K)) := propext ⟨fun h => h, fun h => h⟩
def regKX (ops : List Oper) (i0 j0 : Nat) (Q : Exit → St → Prop) : RK := fun t H nx fps => okDynX ops fps i0 j0 = true ∧ Q .normal ⟨t, H, nx⟩
theorem regKX_app (ops : List Oper) (i0 j0 : Nat) (Q : Exit → St → Prop) (a : Option PV) (t : List (Option PV)) (H : List (Nm × SBlk)) (nx : Nat) (fps : FPs) : regKX ops i0 j0 Q (a :: t) H nx fps = (okDynX ops fps i0 j0 = true ∧ Q .normal ⟨a :: t, H, nx⟩) := propext ⟨fun h => h, fun h => h⟩
end
attribute [go_sem ↓] restX_app xx_nil xx_cons regKX_app
theorem regVX_x2 {C : Cx} {x p : Prop} (h1 : C.dies = false) (h2 : ∃ a l, C.ch = a :: l) (h : x) : RegVX C x p := by
 obtain ⟨a, l, h2⟩ := h2
 unfold RegVX
 rw [h1, h2]
 exact .inr h
theorem RegX.at {C : Cx} {F0 : SF} {p : Prop} {ops : List Oper} {st : St} {Q : Exit → St → Prop} (h1 : C.dies = false) (h2 : ∃ a l, C.ch = a :: l) (i0 j0 : Nat) (hij : i0 < j0) (hst : okStatic ops st.t.length = true)
  (h : execX C F0 i0 j0 ops 0 st.t st.H st.H st.nx [] (regKX ops i0 j0 Q)) : RegVX C (RegX C F0 ops st Q) p := regVX_x2 h1 h2 ⟨i0, j0, hij, hst, h⟩
def okDynXN (ops : List Oper) (fps : List (List Nat × List Nat)) (i0 j0 : Nat) : Bool :=
 decide (i0 < j0) && (fps.zipIdx.all fun x => fps.zipIdx.all fun y => !unord ops x.2 y.2 || (disj x.1.2 y.1.2 && ((x.2 == i0 && y.2 == j0) || disj x.1.2 y.1.1))) &&
 fps.zipIdx.all fun x => !(decide (i0 < x.2) && decide (x.2 < j0)) || disj x.1.2 (fps.getD j0 ([], [])).1
theorem disj_map (φ : Nm → Nat) {a b : List Nm} (h : disj (a.map φ) (b.map φ) = true) : disj a b = true := by
 unfold disj
 rw [List.all_eq_true]
 intro n hn
 simp only [Bool.not_eq_true', List.contains_eq_mem, decide_eq_false_iff_not]
 intro hm
 exact disj_spec h (x := φ n) (List.mem_map.2 ⟨n, hn, rfl⟩) (List.mem_map.2 ⟨n, hm, rfl⟩)
theorem okDynX_num {ops : List Oper} {fps : List (List Nm × List Nm)} {i0 j0 : Nat} (φ : Nm → Nat) (h : okDynXN ops (fps.map (numF φ)) i0 j0 = true) : okDynX ops fps i0 j0 = true := by
 unfold okDynX
 unfold okDynXN at h
 simp only [Bool.and_eq_true] at h ⊢
 obtain ⟨⟨h1, h2⟩, h3⟩ := h
 rw [List.all_eq_true] at h2 h3
 refine ⟨⟨h1, ?_⟩, ?_⟩
 ·rw [List.all_eq_true]
  intro x hx
  rw [List.all_eq_true]
  intro y hy
  obtain ⟨f, i⟩ := x
  obtain ⟨g, j⟩ := y
  rw [List.mem_zipIdx_iff_getElem?] at hx hy
  have h1 := h2 (numF φ f, i) (by rw [List.mem_zipIdx_iff_getElem?]; simp only [List.getElem?_map] at *; rw [hx]; rfl)
  rw [List.all_eq_true] at h1
  have h2 := h1 (numF φ g, j) (by rw [List.mem_zipIdx_iff_getElem?]; simp only [List.getElem?_map] at *; rw [hy]; rfl)
  simp only [Bool.or_eq_true, Bool.and_eq_true] at h2 ⊢
  exact h2.imp id fun hd => ⟨disj_map φ hd.1, hd.2.imp id (disj_map φ)⟩
 ·rw [List.all_eq_true]
  intro x hx
  obtain ⟨f, i⟩ := x
  rw [List.mem_zipIdx_iff_getElem?] at hx
  have h4 := h3 (numF φ f, i) (by rw [List.mem_zipIdx_iff_getElem?]; simp only [List.getElem?_map] at *; rw [hx]; rfl)
  simp only [Bool.or_eq_true] at h4 ⊢
  refine h4.imp id fun hd => disj_map φ ?_
  have : ((fps.map (numF φ)).getD j0 ([], [])).1 = ((fps.getD j0 ([], [])).1).map φ := by
   simp only [List.getD_eq_getElem?_getD, List.getElem?_map]
   cases fps[j0]? <;> rfl
  rw [this] at hd
  exact hd
end Go.Tx
end
section
namespace Go.Proofs.YtaacfnngodhecaaGreatDoor
open Go.Tx
set_option maxRecDepth 100000
set_option maxHeartbeats 16000000
noncomputable def cxf (L : Nat) : Cx := ⟨Tryz.prog, tys, meths, false, L, none, [], [], false, chM, fun _ => False⟩
theorem cxfOk (L : Nat) : (cxf L).Ok := ⟨tysOk, fieldsOk, mixedOk, methsOk⟩
def fwdC (s : List UInt8) : Nat := (s.length - 4) / 4
def fwdK (s : List UInt8) : List PV := [.int .i64 (getB (s.take 4)), .fs 2 ((pairsG s 4 (fwdC s)).map eP)]
theorem forward1_ok {F : SF} (s : List UInt8) (hs : 4 ≤ s.length) (hl : s.length ≤ 1000000) : OfOk 94 [] [] s (.agg (fwdK s)) (4 + 4 * fwdC s) F [] := by
 intro F' L r nx hF' hr hrd hFr
 simp only [List.nil_append, List.cons_append]
 refine Con.body (cxfOk (L + 1)) rfl rfl (fn := Tryz.f94) (c := Tryz.f94.body.getD .skip) (by kernel_rfl) (by rfl) (by kernel_rfl) rfl (by simp; omega) ?_
 intro F3 hF1 hF2
 have kr : F3 r = some (rdB s 0) := (hF1 r (by simp)).trans hFr
 have n1 : ∀ k, (r = (⟨L + 1, k⟩ : Nm)) = False := nm_out hr
 have n2 : ∀ k, ((⟨L + 1, k⟩ : Nm) = r) = False := nm_out' hr
 have h32 : r.l ≤ L + 1 := by omega
 simp only [Tryz.f94, cxf, rdB, go_sem, meths]
 refine RegX.at ?_ ?_ 1 7 (by omega) ?_ ?_
 ·exact rfl
 ·exact ⟨_, _, rfl⟩
 ·kernel_rfl
 simp only [go_sem]
 refine CallVC.same (number_ok r h32 s 0 4 4 rfl (by omega) (by omega) (by omega) hl (by simp [rdB, kr, n1])) ?_
 simp only [rdB, n1, kr, Nat.add_zero, go_sem]
 have t4 : ((s.length : Int) - 4).tdiv 4 = ((fwdC s : Nat) : Int) := by
  rw [Int.tdiv_eq_ediv_of_nonneg (by omega)]; unfold fwdC; omega
 have hc : 4 + 4 * fwdC s ≤ s.length := by unfold fwdC; omega
 rw [t4]
 refine ⟨⟨by omega, by omega⟩, ⟨by omega, by omega, by omega⟩, ?_⟩
 refine CallVC.same (pairs_ok r h32 s 4 (fwdC s) _ rfl (by omega) hl (by simp [rdB, n1])) ?_
 simp only [rdB, n1, n2, go_sem]
 refine ⟨okDynX_num (fun x => if x = r then 1 else x.i % 10000 + 100) (by simp only [numF, List.map, n2, if_true, if_false]; kernel_rfl), ?_⟩
 exact PostF.of (p := True) (v0 := .agg (fwdK s)) (.inr rfl) (by simp only [fwdK, resVal, resVals, resVal1, one, List.drop_zero, go_sem]) trivial (wk_refl _ _).1 (by rw [(wk_refl (fun _ => none) _).2]; simp) (by rfl) ⟨hr, by simp [BW, Tx.look, n1], trivial⟩ (by simp [UpdAll, keys])
theorem forward1_die {F : SF} (s : List UInt8) (hs : s.length < 4) : OfDie 94 [] [] s F [] := by
 intro F' L r hF' hr hrd hFr
 simp only [List.nil_append, List.cons_append]
 refine DCon.body (cxOk (L + 1)) rfl rfl (fn := Tryz.f94) (c := Tryz.f94.body.getD .skip) (by kernel_rfl) (by rfl) (by kernel_rfl) rfl  (by simp; omega) ?_
 intro F3 hF1 hF2
 have kr : F3 r = some (rdB s 0) := (hF1 r (by simp)).trans hFr
 have n1 : ∀ k, (r = (⟨L + 1, k⟩ : Nm)) = False := nm_out hr
 have n2 : ∀ k, ((⟨L + 1, k⟩ : Nm) = r) = False := nm_out' hr
 have h32 : r.l ≤ L + 1 := by omega
 simp only [Tryz.f94, cx, go_sem, meths]
 refine RegVD.dieAt 1 [11, 12, 13] rfl (by simp) (by kernel_rfl) (by kernel_rfl) ?_
 simp only [rdB, n1, kr, Nat.add_zero, go_sem]
 refine dieX.same (number_die r h32 s 0 4 4 rfl (by omega) (by omega) (by omega) (by omega) (by omega) (by simp [rdB, kr, n1, Tx.look])) ?_
 simp only [rdB, n1, kr, Nat.add_zero, go_sem]
 refine ⟨⟨by omega, by omega⟩, ⟨by omega, ?_⟩, okDyn_num (fun x => if x = r then 1 else x.i % 10000 + 100) (by simp only [numF, List.map, if_true]; kernel_rfl), fun nz => ?_⟩
 ·rw [show ((s.length : Int) - 4) = -((4 - s.length : Nat) : Int) by omega, Int.neg_tdiv, Int.tdiv_eq_ediv_of_nonneg (by omega)]
  exact ⟨by omega, by omega⟩
 exact .all rfl (ns := [r]) (by simpa using hr) (by simp [UpdAll, n2]) (by simp [keys])
structure Fwx where
 cum : Int
 sk : List (Int × Int)
def Fwx.v (d : Fwx) : PV := fwdP d.cum d.sk
def Fwx.ok (d : Fwx) : Bool := fwdV d.cum d.sk
def Fwx.oct (d : Fwx) : List UInt8 := fwdT d.cum.toNat (d.sk.map fun k => (k.1.toNat, k.2.toNat))
def fwxG (s : List UInt8) : Fwx := ⟨getB (s.take 4), (pairsG s 4 (fwdC s)).map kN⟩
theorem fwxG_row (s : List UInt8) : PV.agg (fwdK s) = (fwxG s).v := by
 simp only [fwdK, fwxG, Fwx.v, fwdP, List.map_map]
 congr 2
def fwxOk (c : Ckx) : Bool := decide (4 ≤ c.bd.length) && (decide (4 + 4 * fwdC c.bd = c.bd.length) && ((fwxG c.bd).ok && (decide ((0 : Int) = c.fl) && decide ((fwxG c.bd).oct = c.bd))))
def zFwx (e : Int) : PV := .tup [.agg [.int .i64 0, .nilS], .int .i64 e]
def getFwxV (c : Ckx) : PV := if c.kd = 192 then (if fwxOk c then .tup [(fwxG c.bd).v, .int .i64 0] else zFwx 5) else zFwx 2
theorem getForwardT_ok {F : SF} {L nx : Nat} (c : Ckx) (hl : c.bd.length ≤ 1000000) : Con Tryz.prog 46 [.agg c.row] F L nx nx (getFwxV c) [] [] := by
 have hcall : ∀ (F : SF) (L nx : Nat), Con Tryz.prog 93 [.agg c.row, .fn (.func 94) [] [], .fn (.func 34) [] [], .fs 1 ([192].map eI)] F L nx nx (getFwxV c) [] [] := by
  intro F L nx
  obtain ⟨k, fl, s⟩ := c
  simp only [Ckx.row] at hl ⊢
  unfold getFwxV
  by_cases hk : k = 192
  ·have hk1 : (([192] : List Int).any fun x => k == x) = true := by simpa using hk
   rw [if_pos hk]
   obtain ⟨d, hdd⟩ : ∃ d, d = fwxG s := ⟨_, rfl⟩
   simp only
   rw [← hdd]
   have hrow : PV.agg (fwdK s) = d.v := by rw [hdd]; exact fwxG_row s
   have hrl : (fwdK s).length = 2 := rfl
   have hrn : nfl (fwdK s) = true := rfl
   have hP : PutOk 34 (fwdK s) (if d.ok then 192 else 0) 0 (if d.ok then d.oct else []) (if d.ok then 0 else 320) := by
    intro F L nx
    have h := putForward_ok (F := F) (L := L) (nx := nx) d.cum d.sk (by rw [hdd]; simp only [fwxG, List.length_map, pairsG_len, fwdC]; omega)
    rw [hrow]
    have e : fwdV d.cum d.sk = d.ok := rfl
    rw [e] at h
    cases hb : d.ok with
    | true => rw [hb] at h; simp only [if_true] at h ⊢; exact h
    | false => rw [hb] at h; simp only [if_false, Bool.false_eq_true] at h ⊢; exact h
   by_cases h12 : 4 ≤ s.length
   ·have hO := forward1_ok (F := F) s h12 hl
    by_cases hne : 4 + 4 * fwdC s = s.length
    ·rw [hne] at hO
     cases hd : fwxOk ⟨k, fl, s⟩ with
     | true =>
      rw [if_pos rfl]
      unfold fwxOk at hd
      simp only [← hdd] at hd
      simp only [Bool.and_eq_true, decide_eq_true_eq] at hd
      obtain ⟨_, _, q1, q3, q4⟩ := hd
      rw [q1] at hP
      simp only [if_true, q4] at hP
      subst q3
      subst hk
      rw [← hrow]
      exact getForward_ok s hl 192 0 94 34 [] [] [192] hk1 (by simp) _ hrl hrn [] (by simp) hO hP
     | false =>
      rw [if_neg (by simp)]
      refine getForward_bad s hl k fl 94 34 [] [] [192] hk1 (by simp) [] (by simp) (.inr (.inr ⟨_, _, _, _, _, hrl, hrn, hO, hP, ?_⟩))
      rintro ⟨r1, r2, r3, r4⟩
      cases hb : d.ok with
      | false => rw [hb] at r1; simp at r1
      | true =>
       rw [hb] at r2 r4
       simp only [if_true] at r2 r4
       unfold fwxOk at hd
       simp only [← hdd] at hd
       simp only [hb, r3, r4, hne, h12, decide_true, Bool.and_true] at hd
       cases hd
    ·have hd : fwxOk ⟨k, fl, s⟩ = false := by
      unfold fwxOk
      simp only [decide_eq_false hne, Bool.false_and, Bool.and_false]
     rw [hd, if_neg (by simp)]
     exact getForward_bad s hl k fl 94 34 [] [] [192] hk1 (by simp) [] (by simp) (.inr (.inl ⟨_, _, hrl, hrn, hne, hO⟩))
   ·have hd : fwxOk ⟨k, fl, s⟩ = false := by
     unfold fwxOk
     simp only [decide_eq_false h12, Bool.false_and]
    rw [hd, if_neg (by simp)]
    exact getForward_bad s hl k fl 94 34 [] [] [192] hk1 (by simp) [] (by simp) (.inl (forward1_die s (by omega)))
  ·rw [if_neg hk]
   exact getForward_kind s k fl 94 34 [] [] [192] (by simpa using hk) (by simp)
 have hv : ∃ x1 x2 e, getFwxV c = .tup [.agg [.int .i64 x1, x2], .int .i64 e] ∧ Tx.nf x2 = true := by
  unfold getFwxV
  split
  ·split
   ·exact ⟨_, _, _, rfl, rfl⟩
   ·exact ⟨_, _, _, rfl, rfl⟩
  ·exact ⟨_, _, _, rfl, rfl⟩
 obtain ⟨x1, x2, e, hv, y2⟩ := hv
 rw [hv] at hcall ⊢
 simp only [Ckx.row] at hcall ⊢
 refine bdy Tryz.f46 ?_
 intro F3 hF1 hF2
 simp only [Tryz.f46, cx, go_sem, meths]
 repeat refine sd2 ?_
 refine CallVC.gen (args2 := [.agg [.int .i64 c.kd, .int .i64 c.fl, .str c.bd], .fn (.func 94) [] [], .fn (.func 34) [] [], .fs 1 ([192].map eI)]) (by simp [WkL, Wk, eI]) (hcall _ _ _) ?_
 simp only [wkNL, wkN, unown, go_sem]
 repeat refine sd2 ?_
 exact PostF.same (p := True) (.inr rfl) (by simp only [resVal, resVals, resVal1, one, go_sem]) trivial (by simp [Tx.nf, nfl, y2]) (by simp [UpdAll])
structure Rsx where
 kind : Int
 num : Int
 last : Int
 res : Int
 xs : List Int
def Rsx.v (d : Rsx) : PV := rstP d.kind d.num d.last d.res (.fs 1 (d.xs.map eI))
def Rsx.ok (d : Rsx) : Bool := resetV d.kind d.num d.last d.res d.xs
def Rsx.oct (d : Rsx) : List UInt8 := resetB d.kind d.num d.last d.res d.xs
def rsxG (s : List UInt8) : Rsx := if getB (s.take 1) = 1 then ⟨1, getB ((s.drop 1).take 4), getB ((s.drop 5).take 4), 0, (numsG s 9 2 (resetN s)).map fun x : Nat => (x : Int)⟩ else ⟨2, getB ((s.drop 1).take 4), 0, getB ((s.drop 5).take 1), []⟩
theorem rsxG_row (s : List UInt8) : PV.agg (resetK s) = (rsxG s).v := by
 unfold resetK rsxG
 split
 ·simp only [askK, Rsx.v, rstP, List.map_map]
  congr 2
 ·rfl
theorem rsxG_len (s : List UInt8) : (rsxG s).xs.length ≤ s.length := by
 unfold rsxG
 split
 ·simp only [List.length_map, numsG_len, resetN]; omega
 ·simp
def rsxOk (c : Ckx) : Bool := decide (resetMin c.bd ≤ c.bd.length) && (decide (resetP c.bd = c.bd.length) && ((rsxG c.bd).ok && (decide ((0 : Int) = c.fl) && decide ((rsxG c.bd).oct = c.bd))))
def zRsx (e : Int) : PV := .tup [.agg [.int .i64 0, .int .i64 0, .int .i64 0, .int .i64 0, .nilS], .int .i64 e]
def getRsxV (c : Ckx) : PV := if c.kd = 130 then (if rsxOk c then .tup [(rsxG c.bd).v, .int .i64 0] else zRsx 5) else zRsx 2
theorem getResetT_ok {F : SF} {L nx : Nat} (c : Ckx) (hl : c.bd.length ≤ 1000000) : Con Tryz.prog 47 [.agg c.row] F L nx nx (getRsxV c) [] [] := by
 have hcall : ∀ (F : SF) (L nx : Nat) (na : Nm) (ea : TypeId) (oa pa : Bool), na.l ≤ L → F na = some (.rows ea 1 oa pa [[.fn (.func 95) [] []]]) → Con Tryz.prog 96 [.agg c.row, .fn (.func 97) [] [.ptr na 0 0], .fn (.func 38) [] [], .fs 1 ([130].map eI)] F L nx nx (getRsxV c) [] [na] := by
  intro F L nx na ea oa pa hn hF
  obtain ⟨k, fl, s⟩ := c
  simp only [Ckx.row] at hl ⊢
  unfold getRsxV
  by_cases hk : k = 130
  ·have hk1 : (([130] : List Int).any fun x => k == x) = true := by simpa using hk
   rw [if_pos hk]
   obtain ⟨d, hdd⟩ : ∃ d, d = rsxG s := ⟨_, rfl⟩
   simp only
   rw [← hdd]
   have hrow : PV.agg (resetK s) = d.v := by rw [hdd]; exact rsxG_row s
   have hxl := rsxG_len s
   rw [← hdd] at hxl
   have hrl : (resetK s).length = 5 := by unfold resetK; split <;> rfl
   have hrn : nfl (resetK s) = true := by unfold resetK; split <;> rfl
   have hP : PutOk 38 (resetK s) (if d.ok then 130 else 0) 0 (if d.ok then d.oct else []) (if d.ok then 0 else 320) := by
    intro F L nx
    have h := putReset_ok (F := F) (L := L) (nx := nx) d.kind d.num d.last d.res d.xs (by omega)
    rw [hrow]
    have e : resetV d.kind d.num d.last d.res d.xs = d.ok := rfl
    rw [e] at h
    cases hb : d.ok with
    | true => rw [hb] at h; simp only [if_true] at h ⊢; exact h
    | false => rw [hb] at h; simp only [if_false, Bool.false_eq_true] at h ⊢; exact h
   by_cases h12 : resetMin s ≤ s.length
   ·have hO := reset2_ok (F := F) na ea oa pa hF s h12 hl
    by_cases hne : resetP s = s.length
    ·rw [hne] at hO
     cases hd : rsxOk ⟨k, fl, s⟩ with
     | true =>
      rw [if_pos rfl]
      unfold rsxOk at hd
      simp only [← hdd] at hd
      simp only [Bool.and_eq_true, decide_eq_true_eq] at hd
      obtain ⟨_, _, q1, q3, q4⟩ := hd
      rw [q1] at hP
      simp only [if_true, q4] at hP
      subst q3
      subst hk
      rw [← hrow]
      exact getReset_ok s hl 130 0 97 38 [] [.ptr na 0 0] [130] hk1 (by simp) _ hrl hrn [na] (by simpa using hn) hO hP
     | false =>
      rw [if_neg (by simp)]
      refine getReset_bad s hl k fl 97 38 [] [.ptr na 0 0] [130] hk1 (by simp) [na] (by simpa using hn) (.inr (.inr ⟨_, _, _, _, _, hrl, hrn, hO, hP, ?_⟩))
      rintro ⟨r1, r2, r3, r4⟩
      cases hb : d.ok with
      | false => rw [hb] at r1; simp at r1
      | true =>
       rw [hb] at r2 r4
       simp only [if_true] at r2 r4
       unfold rsxOk at hd
       simp only [← hdd] at hd
       simp only [hb, r3, r4, hne, h12, decide_true, Bool.and_true] at hd
       cases hd
    ·have hd : rsxOk ⟨k, fl, s⟩ = false := by
      unfold rsxOk
      simp only [decide_eq_false hne, Bool.false_and, Bool.and_false]
     rw [hd, if_neg (by simp)]
     exact getReset_bad s hl k fl 97 38 [] [.ptr na 0 0] [130] hk1 (by simp) [na] (by simpa using hn) (.inr (.inl ⟨_, _, hrl, hrn, hne, hO⟩))
   ·have hd : rsxOk ⟨k, fl, s⟩ = false := by
     unfold rsxOk
     simp only [decide_eq_false h12, Bool.false_and]
    rw [hd, if_neg (by simp)]
    exact getReset_bad s hl k fl 97 38 [] [.ptr na 0 0] [130] hk1 (by simp) [na] (by simpa using hn) (.inl (reset2_die na ea oa pa hF s (by omega) hl))
  ·rw [if_neg hk]
   exact con_rds (getReset_kind s k fl 97 38 [] [.ptr na 0 0] [130] (by simpa using hk) (by simp)) (by simp)
 have hv : ∃ x1 x2 x3 x4 x5 e, getRsxV c = .tup [.agg [.int .i64 x1, .int .i64 x2, .int .i64 x3, .int .i64 x4, x5], .int .i64 e] ∧ Tx.nf x5 = true := by
  unfold getRsxV
  split
  ·split
   ·exact ⟨_, _, _, _, _, _, rfl, rfl⟩
   ·exact ⟨_, _, _, _, _, _, rfl, rfl⟩
  ·exact ⟨_, _, _, _, _, _, rfl, rfl⟩
 obtain ⟨x1, x2, x3, x4, x5, e, hv, y5⟩ := hv
 rw [hv] at hcall ⊢
 simp only [Ckx.row] at hcall ⊢
 refine bdy Tryz.f47 ?_
 intro F3 hF1 hF2
 simp only [Tryz.f47, cx, go_sem, meths]
 repeat refine sd2 ?_
 refine CallVC.gen (args2 := [.agg [.int .i64 c.kd, .int .i64 c.fl, .str c.bd], .fn (.func 97) [] [.ptr ⟨L + 1, 96⟩ 0 0], .fn (.func 38) [] [], .fs 1 ([130].map eI)]) (by simp [WkL, Wk, eI]) (hcall _ _ _ ⟨L + 1, 96⟩ 175 true true (by simp) (by simp [wkNL, wkN, unown, SF.upd, SF.set])) ?_
 simp only [wkNL, wkN, unown, go_sem]
 repeat refine sd2 ?_
 exact PostF.same (p := True) (.inr rfl) (by simp only [resVal, resVals, resVal1, one, go_sem]) trivial (by simp [Tx.nf, nfl, y5]) (by simp [UpdAll])
theorem xShort_ok {F : SF} {L nx : Nat} (n : Int) : Con Tryz.prog 57 [.int .i64 n] F L nx nx (.bool (serB 16 n)) [] [] := by
 refine bdy Tryz.f57 ?_
 intro F3 hF1 hF2
 have e : serB 16 n = (decide (0 ≤ n) && decide (n ≤ 65535)) := by
  unfold serB
  rw [show ((2 : Int) ^ Int.toNat 16) = 65536 from rfl]
  congr 1
  exact decide_eq_decide.2 (by omega)
 rw [e]
 cases h1 : decide (0 ≤ n) with
 | false =>
  simp only [Tryz.f57, cx, h1, Bool.false_and, go_sem, meths]
  repeat refine sd2 ?_
  exact PostF.rs (v0 := .bool false) (.inr rfl)
 | true =>
  simp only [Tryz.f57, cx, h1, Bool.true_and, go_sem, meths]
  repeat refine sd2 ?_
  exact PostF.rs (v0 := .bool (decide (n ≤ 65535))) (.inr rfl)
theorem xWide_ok {F : SF} {L nx : Nat} (n : Int) : Con Tryz.prog 58 [.int .i64 n] F L nx nx (.bool (serB 32 n)) [] [] := by
 refine bdy Tryz.f58 ?_
 intro F3 hF1 hF2
 have e : serB 32 n = (decide (0 ≤ n) && decide (n ≤ 4294967295)) := by
  unfold serB
  rw [show ((2 : Int) ^ Int.toNat 32) = 4294967296 from rfl]
  congr 1
  exact decide_eq_decide.2 (by omega)
 rw [e]
 cases h1 : decide (0 ≤ n) with
 | false =>
  simp only [Tryz.f58, cx, h1, Bool.false_and, go_sem, meths]
  repeat refine sd2 ?_
  exact PostF.rs (v0 := .bool false) (.inr rfl)
 | true =>
  simp only [Tryz.f58, cx, h1, Bool.true_and, go_sem, meths]
  repeat refine sd2 ?_
  exact PostF.rs (v0 := .bool (decide (n ≤ 4294967295))) (.inr rfl)
theorem putB_succ (i v : Nat) : putB (i + 1) v = byN (v / 256 ^ i) :: putB i v := by
 simp only [putB, byN, List.range_succ_eq_map, List.map_cons, List.map_map]
 congr 1
 apply List.map_congr_left
 intro j hj
 have := List.mem_range.1 hj
 simp only [Function.comp]
 rw [show i + 1 - 1 - j.succ = i - 1 - j by omega]
theorem rPut_ok {F : SF} {L nx : Nat} (n v : Nat) (hn : n ≤ 100) (hv : v < 2 ^ 62) : Con Tryz.prog 60 [.int .i64 n, .int .i64 v] F L nx nx (.str (putB n v)) [] [] := by
 refine bdy Tryz.f60 ?_
 intro F3 hF1 hF2
 simp only [Tryz.f60, cx, go_sem, meths]
 repeat refine sd2 ?_
 refine loopK.intro _ _ (I := fun i : Nat => ⟨[some (.int .i64 n), some (.int .i64 ((v / 256 ^ i : Nat) : Int)), none, none, none, some (.str (putB i v)), some (.int .i64 i)] ++ oz 15, [], 10000 * (i + 1)⟩) (pre := fun i => i ≤ n) (μ := fun i => n - i) 0 (by omega) ?_ ?_
 ·exact Sub.of (hfz hF2) (by simp only [Nat.pow_zero, Nat.div_one, putB, List.range_zero, List.map_nil, go_sem, subT, and_self, Int.natCast_zero]; try trivial) trivial trivial (by simp)
 ·intro i hi
  have hx : v / 256 ^ i ≤ v := Nat.div_le_self _ _
  obtain ⟨x, hxx⟩ : ∃ x, x = v / 256 ^ i := ⟨_, rfl⟩
  rw [← hxx] at hx ⊢
  have hnx : v / 256 ^ (i + 1) = x / 256 := by rw [hxx, Nat.pow_succ, Nat.div_div_eq_div_mul]
  have hps := putB_succ i v
  rw [← hxx] at hps
  have hpl := putB_len i v
  by_cases hlt : i < n
  ·have f1 : decide ((i : Int) < (n : Int)) = true := dT (by omega)
   have w1 : (x : Int).tmod 256 = ((x % 256 : Nat) : Int) := by rw [Int.tmod_eq_emod_of_nonneg (by omega)]; omega
   have w2 : IntKind.u8.wrap ((x % 256 : Nat) : Int) = ((x % 256 : Nat) : Int) := by rw [IntKind.wrap_u8]; omega
   have w3 : (x : Int).tdiv 256 = ((x / 256 : Nat) : Int) := by rw [Int.tdiv_eq_ediv_of_nonneg (by omega)]; omega
   have w4 : bytesP [[.int .u8 ((x % 256 : Nat) : Int)]] = [byN x] := by simp only [bytesP, byteP, List.map_cons, List.map_nil, byN, Int.toNat_natCast]
   simp only [f1, w1, w2, w3, Nat.add_assoc, go_sem]
   simp only [w4]
   refine ⟨by omega, by intro row h; simp only [List.mem_cons, List.not_mem_nil, or_false] at h; exact ⟨_, h⟩, by simp only [List.length_cons, List.length_nil]; omega, ⟨by omega, by omega, by omega⟩, ⟨by omega, by omega⟩, ?_⟩
   refine ⟨i + 1, by omega, by omega, Sub.of (hfz hF2) (by simp only [hnx, hps, List.cons_append, List.nil_append, go_sem, subT, and_self, Int.natCast_succ]; try trivial) trivial (by simp [subK, keys]) (by simp only []; omega)⟩
  ·have f1 : decide ((i : Int) < (n : Int)) = false := dF (by omega)
   have hin : i = n := by omega
   subst hin
   simp only [f1, Nat.add_assoc, go_sem]
   repeat refine sd2 ?_
   exact PostF.rs (v0 := .str (putB i v)) (.inr rfl)
theorem rNumber_ok {F : SF} {L nx : Nat} (s : List UInt8) (hs : s.length ≤ 7) : Con Tryz.prog 76 [.str s] F L nx nx (.int .i64 (getB s)) [] [] := by
 refine bdy Tryz.f76 ?_
 intro F3 hF1 hF2
 simp only [Tryz.f76, cx, go_sem, meths]
 repeat refine sd2 ?_
 refine loopK.intro _ _ (I := fun i : Nat => ⟨[some (.str s), none, none, some (.int .i64 (getB (s.take i))), some (.int .i64 i)] ++ oz 14, [], 10000 * (i + 1)⟩) (pre := fun i => i ≤ s.length) (μ := fun i => s.length - i) 0 (by omega) ?_ ?_
 ·exact Sub.of (hfz hF2) (by simp only [List.take_zero, getB, List.foldl_nil, go_sem, subT, and_self, Int.natCast_zero]; try trivial) trivial trivial (by simp)
 ·intro i hi
  have hg := getB_lt (s.take i)
  by_cases hlt : i < s.length
  ·have hg2 : getB (s.take i) < 256 ^ 6 := Nat.lt_of_lt_of_le hg (Nat.pow_le_pow_right (by omega) (by rw [List.length_take]; omega))
   have f1 : decide ((i : Int) < (s.length : Int)) = true := dT (by omega)
   have hsu := getB_succ s hlt
   obtain ⟨x, hxx⟩ : ∃ x, x = getB (s.take i) := ⟨_, rfl⟩
   rw [← hxx] at hg2 hsu ⊢
   have hc := (s.getD i 0).toNat_lt
   have w1 : IntKind.i64.wrap (((s.getD i 0).toNat : Nat) : Int) = (((s.getD i 0).toNat : Nat) : Int) := by rw [IntKind.wrap_i64]; omega
   have e1 : ((getB (s.take (i + 1)) : Nat) : Int) = 256 * (x : Int) + (((s.getD i 0).toNat : Nat) : Int) := by rw [hsu]; omega
   simp only [f1, w1, Int.toNat_natCast, Nat.add_assoc, go_sem]
   repeat refine sd2 ?_
   refine ⟨i + 1, by omega, by omega, Sub.of (hfz hF2) (by simp only [e1, go_sem, subT, and_self, Int.natCast_succ]; try trivial) trivial (by simp [subK]) (by simp only []; omega)⟩
  ·have f1 : decide ((i : Int) < (s.length : Int)) = false := dF (by omega)
   have hin : i = s.length := by omega
   subst hin
   rw [List.take_length]
   simp only [f1, Nat.add_assoc, go_sem]
   repeat refine sd2 ?_
   exact PostF.rs (v0 := .int .i64 (getB s)) (.inr rfl)
theorem byN_nat (v : Nat) : (byN v).toNat = v % 256 := by simp [byN]
theorem byN_mod (v : Nat) : byN (v % 256) = byN v := by simp [byN]
theorem byN_toNat (b : UInt8) : byN b.toNat = b := by
 have := b.toNat_lt
 apply UInt8.toNat_inj.1
 rw [byN_nat]; omega
theorem getB_fold : ∀ (l : List UInt8) (v : Nat), l.foldl (fun v c => v * 256 + c.toNat) v = v * 256 ^ l.length + getB l
 | [], v => by simp [getB]
 | a :: l, v => by
  have e1 := getB_fold l (v * 256 + a.toNat)
  have e2 := getB_fold l (0 * 256 + a.toNat)
  simp only [List.foldl_cons, getB] at e1 e2 ⊢
  rw [e1, e2, List.length_cons, Nat.pow_succ]
  have : (v * 256 + a.toNat) * 256 ^ l.length = v * (256 ^ l.length * 256) + (0 * 256 + a.toNat) * 256 ^ l.length := by
   rw [Nat.add_mul, Nat.mul_assoc, Nat.mul_comm 256 (256 ^ l.length)]; simp
  omega
theorem getB_cons (a : UInt8) (l : List UInt8) : getB (a :: l) = a.toNat * 256 ^ l.length + getB l := by
 have := getB_fold l (0 * 256 + a.toNat)
 simpa [getB] using this
theorem getB_put (n v : Nat) : getB (putB n v) = v % 256 ^ n := by
 induction n with
 | zero => simp [putB, getB, Nat.mod_one]
 | succ n ih =>
  rw [putB_succ, getB_cons, ih, putB_len, byN_nat, Nat.mod_pow_succ, Nat.mul_comm]
  omega
theorem getB_putB {n v : Nat} (h : v < 256 ^ n) : getB (putB n v) = v := by rw [getB_put, Nat.mod_eq_of_lt h]
theorem putB_mod (n v : Nat) : putB n (v % 256 ^ n) = putB n v := by
 induction n generalizing v with
 | zero => simp [putB]
 | succ n ih =>
  rw [putB_succ, putB_succ]
  congr 1
  ·rw [Nat.pow_succ, Nat.mod_mul_right_div_self, byN_mod]
  ·rw [← ih (v % 256 ^ (n + 1)), Nat.mod_mod_of_dvd _ (Nat.pow_dvd_pow 256 (Nat.le_succ n)), ih]
theorem putB_getB : ∀ l : List UInt8, putB l.length (getB l) = l
 | [] => rfl
 | a :: l => by
  have hl := getB_lt l
  rw [List.length_cons, putB_succ, getB_cons]
  congr 1
  ·rw [Nat.mul_comm, Nat.mul_add_div (Nat.pow_pos (by omega)), Nat.div_eq_of_lt hl, Nat.add_zero, byN_toNat]
  ·rw [← putB_mod, Nat.mul_comm, Nat.mul_add_mod, putB_mod, putB_getB l]
theorem drop_at {A R : List UInt8} {p : Nat} (h : p = A.length) : (A ++ R).drop p = R := by subst h; simp
theorem drop_at2 {A R : List UInt8} {p q : Nat} (h : p = A.length + q) : (A ++ R).drop p = R.drop q := by subst h; simp
theorem take_at {A R : List UInt8} {n : Nat} (h : n = A.length) : (A ++ R).take n = A := by subst h; simp
theorem num_at {A R : List UInt8} {p n v : Nat} (hp : p = A.length) (hv : v < 256 ^ n) : getB (((A ++ (putB n v ++ R)).drop p).take n) = v := by
 rw [drop_at hp, take_at (putB_len n v).symm, getB_putB hv]
theorem numsG_cons (s : List UInt8) (p k n : Nat) : numsG s p k (n + 1) = getB ((s.drop p).take k) :: numsG s (p + k) k n := by
 simp only [numsG, List.range_succ_eq_map, List.map_cons, List.map_map, Nat.mul_zero, Nat.add_zero]
 congr 1
 apply List.map_congr_left
 intro j _
 simp only [Function.comp]
 rw [show p + k * (j + 1) = p + k + k * j by rw [Nat.mul_add]; omega]
theorem pairsG_cons (s : List UInt8) (p n : Nat) : pairsG s p (n + 1) = (getB ((s.drop p).take 2), getB ((s.drop (p + 2)).take 2)) :: pairsG s (p + 4) n := by
 simp only [pairsG, List.range_succ_eq_map, List.map_cons, List.map_map, Nat.mul_zero, Nat.add_zero]
 congr 1
 apply List.map_congr_left
 intro j _
 simp only [Function.comp]
 rw [show p + 4 * (j + 1) = p + 4 + 4 * j by omega]
theorem nums_at {k : Nat} : ∀ (xs : List Nat) (A R : List UInt8) (p : Nat), p = A.length → (∀ x ∈ xs, x < 256 ^ k) → numsG (A ++ (xs.flatMap (putB k) ++ R)) p k xs.length = xs
 | [], _, _, _, _, _ => rfl
 | x :: xs, A, R, p, hp, h => by
  rw [List.length_cons, numsG_cons, List.flatMap_cons, List.append_assoc, num_at hp (h x (by simp))]
  have ih := nums_at xs (A ++ putB k x) R (p + k) (by simp [putB_len, hp]) (fun y hy => h y (by simp [hy]))
  rw [List.append_assoc] at ih
  rw [ih]
theorem pairs_at : ∀ (xs : List (Nat × Nat)) (A R : List UInt8) (p : Nat), p = A.length → (∀ x ∈ xs, x.1 < 65536 ∧ x.2 < 65536) → pairsG (A ++ ((xs.flatMap fun k => putB 2 k.1 ++ putB 2 k.2) ++ R)) p xs.length = xs
 | [], _, _, _, _, _ => rfl
 | x :: xs, A, R, p, hp, h => by
  have hx := h x (by simp)
  rw [List.length_cons, pairsG_cons, List.flatMap_cons]
  have e1 : A ++ (putB 2 x.1 ++ putB 2 x.2 ++ (xs.flatMap fun k => putB 2 k.1 ++ putB 2 k.2) ++ R) = A ++ (putB 2 x.1 ++ (putB 2 x.2 ++ ((xs.flatMap fun k => putB 2 k.1 ++ putB 2 k.2) ++ R))) := by simp
  have e2 : A ++ (putB 2 x.1 ++ (putB 2 x.2 ++ ((xs.flatMap fun k => putB 2 k.1 ++ putB 2 k.2) ++ R))) = (A ++ putB 2 x.1) ++ (putB 2 x.2 ++ ((xs.flatMap fun k => putB 2 k.1 ++ putB 2 k.2) ++ R)) := by simp
  have e3 : A ++ (putB 2 x.1 ++ (putB 2 x.2 ++ ((xs.flatMap fun k => putB 2 k.1 ++ putB 2 k.2) ++ R))) = (A ++ (putB 2 x.1 ++ putB 2 x.2)) ++ ((xs.flatMap fun k => putB 2 k.1 ++ putB 2 k.2) ++ R) := by simp
  rw [e1, num_at hp (by omega)]
  have f2 : getB (((A ++ (putB 2 x.1 ++ (putB 2 x.2 ++ ((xs.flatMap fun k => putB 2 k.1 ++ putB 2 k.2) ++ R)))).drop (p + 2)).take 2) = x.2 := by
   rw [e2]; exact num_at (by simp [putB_len, hp]) (by omega)
  rw [f2]
  have ih := pairs_at xs (A ++ (putB 2 x.1 ++ putB 2 x.2)) R (p + 4) (by simp [putB_len, hp]) (fun y hy => h y (by simp [hy]))
  rw [e3, ih]
theorem flD_bits (la fi lo : Bool) : decide (Sx.ibits .and .i64 (flD la fi lo 3) 2 > 0) = fi ∧ decide (Sx.ibits .and .i64 (flD la fi lo 3) 1 > 0) = la ∧ decide (Sx.ibits .and .i64 (flD la fi lo 3) 4 > 0) = lo := by
 cases la <;> cases fi <;> cases lo <;> exact ⟨by decide, by decide, by decide⟩
theorem dataBack {d : Dat} (h : d.ok = true) : getDatV ⟨0, flD d.la d.fi d.lo 3, dataB d⟩ = .tup [.agg d.row, .int .i64 0] := by
 have h0 := h
 unfold Dat.ok at h
 simp only [Bool.and_eq_true] at h
 obtain ⟨⟨h1, h2⟩, ⟨h3, h4⟩, _⟩ := h
 obtain ⟨a1, a2⟩ := serB_nat h1
 obtain ⟨b1, b2⟩ := serB_nat h2
 obtain ⟨c1, c2⟩ := serB_nat h3
 obtain ⟨d1, d2⟩ := serB_nat h4
 have hd : datG ⟨0, flD d.la d.fi d.lo 3, dataB d⟩ = d := by
  obtain ⟨f1, f2, f3⟩ := flD_bits d.la d.fi d.lo
  simp only [datG, f1, f2, f3]
  have e0 : dataB d = [] ++ (putB 4 d.tsn.toNat ++ (putB 2 d.st.toNat ++ (putB 2 d.sq.toNat ++ (putB 4 d.pr.toNat ++ d.pl)))) := by simp [dataB]
  have e4 : dataB d = putB 4 d.tsn.toNat ++ (putB 2 d.st.toNat ++ (putB 2 d.sq.toNat ++ (putB 4 d.pr.toNat ++ d.pl))) := by simp [dataB]
  have e6 : dataB d = (putB 4 d.tsn.toNat ++ putB 2 d.st.toNat) ++ (putB 2 d.sq.toNat ++ (putB 4 d.pr.toNat ++ d.pl)) := by simp [dataB]
  have e8 : dataB d = (putB 4 d.tsn.toNat ++ putB 2 d.st.toNat ++ putB 2 d.sq.toNat) ++ (putB 4 d.pr.toNat ++ d.pl) := by simp [dataB]
  have e12 : dataB d = (putB 4 d.tsn.toNat ++ putB 2 d.st.toNat ++ putB 2 d.sq.toNat ++ putB 4 d.pr.toNat) ++ d.pl := by simp [dataB]
  have g0 : getB ((dataB d).take 4) = d.tsn.toNat := by
   have := num_at (A := []) (n := 4) (R := putB 2 d.st.toNat ++ (putB 2 d.sq.toNat ++ (putB 4 d.pr.toNat ++ d.pl))) (p := 0) rfl a2
   rw [← e0] at this; simpa using this
  have g4 : getB (((dataB d).drop 4).take 2) = d.st.toNat := by rw [e4]; exact num_at (by simp [putB_len]) c2
  have g6 : getB (((dataB d).drop 6).take 2) = d.sq.toNat := by rw [e6]; exact num_at (by simp [putB_len]) d2
  have g8 : getB (((dataB d).drop 8).take 4) = d.pr.toNat := by rw [e8]; exact num_at (by simp [putB_len]) b2
  have g12 : (dataB d).drop 12 = d.pl := by rw [e12]; exact drop_at (by simp [putB_len])
  rw [g0, g4, g6, g8, g12, ← a1, ← b1, ← c1, ← d1]
 have hl : 12 ≤ (dataB d).length := by simp [dataB, putB_len]; omega
 have hok : datOk ⟨0, flD d.la d.fi d.lo 3, dataB d⟩ = true := by
  unfold datOk
  rw [hd]
  simp [hl, h0]
 unfold getDatV
 rw [if_pos rfl, if_pos hok, hd]
theorem iniBack {d : Ini} (h : d.ok = true) : getIniV ⟨iniK d.ck, 0, d.oct⟩ = .tup [.agg d.row, .int .i64 0] := by
 have h0 := h
 unfold Ini.ok at h
 simp only [Bool.and_eq_true] at h
 obtain ⟨⟨h1, h2, h3⟩, ⟨h4, h5⟩, _⟩ := h
 obtain ⟨a1, a2⟩ := serB_nat h1
 obtain ⟨b1, b2⟩ := serB_nat h2
 obtain ⟨c1, c2⟩ := serB_nat h3
 obtain ⟨d1, d2⟩ := serB_nat h4
 obtain ⟨x1, x2⟩ := serB_nat h5
 have e0 : d.oct = [] ++ (putB 4 d.tag.toNat ++ (putB 4 d.win.toNat ++ (putB 2 d.out.toNat ++ (putB 2 d.inn.toNat ++ (putB 4 d.tsn.toNat ++ d.ck))))) := by simp [Ini.oct, iniB]
 have e4 : d.oct = putB 4 d.tag.toNat ++ (putB 4 d.win.toNat ++ (putB 2 d.out.toNat ++ (putB 2 d.inn.toNat ++ (putB 4 d.tsn.toNat ++ d.ck)))) := by simp [Ini.oct, iniB]
 have e8 : d.oct = (putB 4 d.tag.toNat ++ putB 4 d.win.toNat) ++ (putB 2 d.out.toNat ++ (putB 2 d.inn.toNat ++ (putB 4 d.tsn.toNat ++ d.ck))) := by simp [Ini.oct, iniB]
 have e10 : d.oct = (putB 4 d.tag.toNat ++ putB 4 d.win.toNat ++ putB 2 d.out.toNat) ++ (putB 2 d.inn.toNat ++ (putB 4 d.tsn.toNat ++ d.ck)) := by simp [Ini.oct, iniB]
 have e12 : d.oct = (putB 4 d.tag.toNat ++ putB 4 d.win.toNat ++ putB 2 d.out.toNat ++ putB 2 d.inn.toNat) ++ (putB 4 d.tsn.toNat ++ d.ck) := by simp [Ini.oct, iniB]
 have e16 : d.oct = (putB 4 d.tag.toNat ++ putB 4 d.win.toNat ++ putB 2 d.out.toNat ++ putB 2 d.inn.toNat ++ putB 4 d.tsn.toNat) ++ d.ck := by simp [Ini.oct, iniB]
 have hd : iniG ⟨iniK d.ck, 0, d.oct⟩ = d := by
  simp only [iniG]
  have g0 : getB (d.oct.take 4) = d.tag.toNat := by
   have := num_at (A := []) (n := 4) (R := putB 4 d.win.toNat ++ (putB 2 d.out.toNat ++ (putB 2 d.inn.toNat ++ (putB 4 d.tsn.toNat ++ d.ck)))) (p := 0) rfl a2
   rw [← e0] at this; simpa using this
  have g4 : getB ((d.oct.drop 4).take 4) = d.win.toNat := by rw [e4]; exact num_at (by simp [putB_len]) b2
  have g8 : getB ((d.oct.drop 8).take 2) = d.out.toNat := by rw [e8]; exact num_at (by simp [putB_len]) d2
  have g10 : getB ((d.oct.drop 10).take 2) = d.inn.toNat := by rw [e10]; exact num_at (by simp [putB_len]) x2
  have g12 : getB ((d.oct.drop 12).take 4) = d.tsn.toNat := by rw [e12]; exact num_at (by simp [putB_len]) c2
  have g16 : d.oct.drop 16 = d.ck := by rw [e16]; exact drop_at (by simp [putB_len])
  rw [g0, g4, g8, g10, g12, g16, ← a1, ← b1, ← c1, ← d1, ← x1]
 have hl : 16 ≤ d.oct.length := by rw [e16]; simp [putB_len]; omega
 have hok : iniOk ⟨iniK d.ck, 0, d.oct⟩ = true := by
  unfold iniOk
  rw [hd]
  simp [hl, h0]
 unfold getIniV
 rw [if_pos (by unfold iniK; split <;> simp), if_pos hok, hd]
theorem mapN (xs : List Int) (h : ∀ x ∈ xs, 0 ≤ x) : (xs.map Int.toNat).map (fun x : Nat => (x : Int)) = xs := by
 rw [List.map_map]
 conv => rhs; rw [← List.map_id xs]
 apply List.map_congr_left
 intro x hx
 have := h x hx
 simp only [Function.comp, id]; omega
theorem mapK (xs : List (Int × Int)) (h : ∀ x ∈ xs, 0 ≤ x.1 ∧ 0 ≤ x.2) : (xs.map fun k => (k.1.toNat, k.2.toNat)).map kN = xs := by
 rw [List.map_map]
 conv => rhs; rw [← List.map_id xs]
 apply List.map_congr_left
 intro x hx
 have := h x hx
 simp only [Function.comp, id, kN]
 exact Prod.ext (by simp only []; omega) (by simp only []; omega)
theorem getD_mem {α : Type} {xs : List α} {x a : α} (h : x ∈ xs) : ∃ i, i < xs.length ∧ xs.getD i a = x := by
 obtain ⟨i, hi, e⟩ := List.getElem_of_mem h
 exact ⟨i, hi, by simp [List.getD_eq_getElem?_getD, hi, e]⟩
theorem fwdB {cum : Int} {sk : List (Int × Int)} (h : fwdV cum sk = true) : (∀ x ∈ sk, 0 ≤ x.1 ∧ x.1 < 65536 ∧ 0 ≤ x.2 ∧ x.2 < 65536) ∧ 0 ≤ cum ∧ cum < 2 ^ 32 ∧ sk.length ≤ 30 := by
 unfold fwdV at h
 simp only [Bool.and_eq_true, List.all_eq_true, List.mem_range, decide_eq_true_eq] at h
 obtain ⟨h1, h2, h3⟩ := h
 have hc := serB_nat h2
 have hcc : cum.toNat < 4294967296 := hc.2
 refine ⟨fun x hx => ?_, by omega, by omega, h3⟩
 obtain ⟨i, hi, e⟩ := getD_mem (a := ((0, 0) : Int × Int)) hx
 have h4 := h1 i hi
 unfold okSk at h4
 rw [e] at h4
 simp only [Bool.and_eq_true] at h4
 obtain ⟨⟨q1, q2⟩, _⟩ := h4
 have p1 := serB_nat q1
 have p2 := serB_nat q2
 have p3 : x.1.toNat < 65536 := p1.2
 have p4 : x.2.toNat < 65536 := p2.2
 omega
theorem fwdBack {cum : Int} {sk : List (Int × Int)} (h : fwdV cum sk = true) : getFwxV ⟨192, 0, fwdT cum.toNat (sk.map fun k => (k.1.toNat, k.2.toNat))⟩ = .tup [fwdP cum sk, .int .i64 0] := by
 obtain ⟨b1, b2, b3, b4⟩ := fwdB h
 obtain ⟨ks, hks⟩ : ∃ ks, ks = sk.map fun k => (k.1.toNat, k.2.toNat) := ⟨_, rfl⟩
 have hkl : ks.length = sk.length := by rw [hks]; simp
 have hkb : ∀ x ∈ ks, x.1 < 65536 ∧ x.2 < 65536 := by
  intro x hx
  rw [hks] at hx
  obtain ⟨y, hy, rfl⟩ := List.mem_map.1 hx
  have := b1 y hy
  constructor
  ·show y.1.toNat < 65536; omega
  ·show y.2.toNat < 65536; omega
 have hsk : ks.map kN = sk := by rw [hks]; exact mapK sk fun x hx => ⟨(b1 x hx).1, (b1 x hx).2.2.1⟩
 rw [← hks]
 obtain ⟨s, hs⟩ : ∃ s, s = fwdT cum.toNat ks := ⟨_, rfl⟩
 have hl : s.length = 4 + 4 * ks.length := by rw [hs]; unfold fwdT; rw [List.length_append, putB_len, skT_len]
 have hc : fwdC s = ks.length := by unfold fwdC; omega
 have g0 : getB (s.take 4) = cum.toNat := by
  have := num_at (A := []) (n := 4) (v := cum.toNat) (R := ks.flatMap fun k => putB 2 k.1 ++ putB 2 k.2) (p := 0) rfl (by show cum.toNat < 4294967296; omega)
  rw [List.nil_append] at this
  rw [hs]; unfold fwdT; simpa using this
 have g4 : pairsG s 4 (fwdC s) = ks := by
  have := pairs_at ks (putB 4 cum.toNat) [] 4 (by simp [putB_len]) hkb
  rw [hc, hs]; unfold fwdT; simpa using this
 have hd : fwxG s = ⟨cum, sk⟩ := by
  unfold fwxG
  rw [g0, g4, hsk]
  congr 1
  omega
 have hok : fwxOk ⟨192, 0, s⟩ = true := by
  unfold fwxOk
  simp only [hd, Fwx.ok, Fwx.oct, h, ← hks, ← hs, Bool.true_and, decide_true, Bool.and_eq_true, decide_eq_true_eq]
  exact ⟨by omega, by rw [hc]; omega, trivial⟩
 rw [← hs]
 unfold getFwxV
 rw [if_pos rfl, if_pos hok, hd]
 rfl
theorem sackB {cum win : Int} {gs : List (Int × Int)} {ds : List Int} (h : sackV cum win gs ds = true) : (∀ x ∈ gs, 0 ≤ x.1 ∧ x.1 < 65536 ∧ 0 ≤ x.2 ∧ x.2 < 65536) ∧ (0 ≤ cum ∧ cum < 2 ^ 32) ∧ (0 ≤ win ∧ win < 2 ^ 32) ∧ gs.length ≤ 30 ∧ ds.length ≤ 20 ∧ ∀ x ∈ ds, 0 ≤ x ∧ x < 2 ^ 32 := by
 unfold sackV at h
 simp only [Bool.and_eq_true, List.all_eq_true, List.mem_range, decide_eq_true_eq] at h
 obtain ⟨h1, ⟨h2, h3⟩, h4, h5, h6⟩ := h
 have hc := serB_nat h2
 have hcc : cum.toNat < 4294967296 := hc.2
 have hw := serB_nat h3
 have hww : win.toNat < 4294967296 := hw.2
 have key : ∀ i, i < gs.length → 0 ≤ befG gs i ∧ 0 ≤ (gs.getD i (0, 0)).1 ∧ (gs.getD i (0, 0)).1 ≤ (gs.getD i (0, 0)).2 ∧ (gs.getD i (0, 0)).2 ≤ 65535 := by
  intro i
  induction i with
  | zero =>
   intro hi
   have h7 := h1 0 hi
   unfold okGp at h7
   simp only [Bool.and_eq_true, decide_eq_true_eq] at h7
   have hb : befG gs 0 = 0 := by simp [befG]
   rw [hb] at h7 ⊢
   omega
  | succ i ih =>
   intro hi
   have h8 := ih (by omega)
   have h7 := h1 (i + 1) hi
   unfold okGp at h7
   simp only [Bool.and_eq_true, decide_eq_true_eq] at h7
   have hb : befG gs (i + 1) = (gs.getD i (0, 0)).2 := by simp [befG]
   rw [hb] at h7 ⊢
   omega
 refine ⟨fun x hx => ?_, by omega, by omega, h4, h5, fun x hx => ?_⟩
 ·obtain ⟨i, hi, e⟩ := getD_mem (a := ((0, 0) : Int × Int)) hx
  have := key i hi
  rw [e] at this
  omega
 ·have h7 := serB_nat (h6 x hx)
  have h8 : x.toNat < 4294967296 := h7.2
  omega
theorem sackBack {cum win : Int} {gs : List (Int × Int)} {ds : List Int} (h : sackV cum win gs ds = true) : getSckV ⟨3, 0, sackO cum win gs ds⟩ = .tup [sackP cum win gs ds, .int .i64 0] := by
 obtain ⟨b1, b2, b3, b4, b5, b6⟩ := sackB h
 obtain ⟨ks, hks⟩ : ∃ ks, ks = gs.map fun k => (k.1.toNat, k.2.toNat) := ⟨_, rfl⟩
 obtain ⟨es, hes⟩ : ∃ es, es = ds.map Int.toNat := ⟨_, rfl⟩
 have hkl : ks.length = gs.length := by rw [hks]; simp
 have hel : es.length = ds.length := by rw [hes]; simp
 have hkb : ∀ x ∈ ks, x.1 < 65536 ∧ x.2 < 65536 := by
  intro x hx
  rw [hks] at hx
  obtain ⟨y, hy, rfl⟩ := List.mem_map.1 hx
  have := b1 y hy
  constructor
  ·show y.1.toNat < 65536; omega
  ·show y.2.toNat < 65536; omega
 have heb : ∀ x ∈ es, x < 256 ^ 4 := by
  intro x hx
  rw [hes] at hx
  obtain ⟨y, hy, rfl⟩ := List.mem_map.1 hx
  have := b6 y hy
  show y.toNat < 4294967296; omega
 have hsk : ks.map kN = gs := by rw [hks]; exact mapK gs fun x hx => ⟨(b1 x hx).1, (b1 x hx).2.2.1⟩
 have hse : es.map (fun x : Nat => (x : Int)) = ds := by rw [hes]; exact mapN ds fun x hx => (b6 x hx).1
 obtain ⟨s, hs⟩ : ∃ s, s = sackO cum win gs ds := ⟨_, rfl⟩
 have hs2 : s = sackT cum.toNat win.toNat ks es := by rw [hs, hks, hes]; rfl
 obtain ⟨G, hG⟩ : ∃ G, G = ks.flatMap fun k => putB 2 k.1 ++ putB 2 k.2 := ⟨_, rfl⟩
 obtain ⟨D, hD⟩ : ∃ D, D = es.flatMap (putB 4) := ⟨_, rfl⟩
 have hGl : G.length = 4 * ks.length := by rw [hG]; exact skT_len ks
 have hDl : D.length = 4 * es.length := by
  rw [hD]
  clear heb hel hse hs2 hD hes
  induction es with
  | nil => rfl
  | cons a l ih => rw [List.flatMap_cons, List.length_append, ih, putB_len, List.length_cons]; omega
 have e0 : s = [] ++ (putB 4 cum.toNat ++ (putB 4 win.toNat ++ (putB 2 ks.length ++ (putB 2 es.length ++ (G ++ D))))) := by rw [hs2, hG, hD]; simp [sackT]
 have e4 : s = putB 4 cum.toNat ++ (putB 4 win.toNat ++ (putB 2 ks.length ++ (putB 2 es.length ++ (G ++ D)))) := by rw [hs2, hG, hD]; simp [sackT]
 have e8 : s = (putB 4 cum.toNat ++ putB 4 win.toNat) ++ (putB 2 ks.length ++ (putB 2 es.length ++ (G ++ D))) := by rw [hs2, hG, hD]; simp [sackT]
 have e10 : s = (putB 4 cum.toNat ++ putB 4 win.toNat ++ putB 2 ks.length) ++ (putB 2 es.length ++ (G ++ D)) := by rw [hs2, hG, hD]; simp [sackT]
 have e12 : s = (putB 4 cum.toNat ++ putB 4 win.toNat ++ putB 2 ks.length ++ putB 2 es.length) ++ (G ++ D) := by rw [hs2, hG, hD]; simp [sackT]
 have e16 : s = (putB 4 cum.toNat ++ putB 4 win.toNat ++ putB 2 ks.length ++ putB 2 es.length ++ G) ++ (D ++ []) := by rw [hs2, hG, hD]; simp [sackT]
 have hl : s.length = 12 + 4 * ks.length + 4 * es.length := by rw [e12]; simp [putB_len, hGl, hDl]; omega
 have hc32 : cum.toNat < 256 ^ 4 := by show cum.toNat < 4294967296; omega
 have hw32 : win.toNat < 256 ^ 4 := by show win.toNat < 4294967296; omega
 have g0 : getB (s.take 4) = cum.toNat := by
  have := num_at (A := []) (n := 4) (R := putB 4 win.toNat ++ (putB 2 ks.length ++ (putB 2 es.length ++ (G ++ D)))) (p := 0) rfl hc32
  rw [← e0] at this; simpa using this
 have g4 : getB ((s.drop 4).take 4) = win.toNat := by rw [e4]; exact num_at (by simp [putB_len]) hw32
 have g8 : sackG s = ks.length := by unfold sackG; rw [e8]; exact num_at (by simp [putB_len]) (by show _ < 65536; omega)
 have g10 : sackD s = es.length := by unfold sackD; rw [e10]; exact num_at (by simp [putB_len]) (by show _ < 65536; omega)
 have g12 : pairsG s 12 (sackG s) = ks := by
  rw [g8, e12, hG]; exact pairs_at ks _ D 12 (by simp [putB_len]) hkb
 have g16 : numsG s (12 + 4 * sackG s) 4 (sackD s) = es := by
  rw [g8, g10, e16, hD]; exact nums_at es _ [] _ (by simp [putB_len, hGl]; omega) heb
 have hd : sckG ⟨3, 0, s⟩ = ⟨cum, win, gs, ds⟩ := by
  simp only [sckG, g0, g4, g12, g16, hsk, hse]
  congr 1 <;> omega
 have hok : sckOk ⟨3, 0, s⟩ = true := by
  unfold sckOk
  simp only [hd, Skx.ok, Skx.oct, h, ← hs, decide_true, Bool.and_true, decide_eq_true_eq]
  unfold sckN
  rw [g8, g10]; omega
 rw [← hs]
 unfold getSckV
 rw [if_pos rfl, if_pos hok, hd]
 rfl
theorem rstB {k n la r : Int} {xs : List Int} (h : resetV k n la r xs = true) : (0 ≤ n ∧ n < 2 ^ 32) ∧ (0 ≤ la ∧ la < 2 ^ 32) ∧ (0 ≤ r ∧ r < 256) ∧ (∀ x ∈ xs, 0 ≤ x ∧ x < 65536) ∧ ((k = 2 ∧ la = 0 ∧ xs = []) ∨ (k = 1 ∧ r = 0 ∧ 1 ≤ xs.length ∧ xs.length ≤ 30)) := by
 unfold resetV at h
 simp only [Bool.and_eq_true] at h
 obtain ⟨⟨⟨⟨h1, h2⟩, h3⟩, h4⟩, h5⟩ := h
 have p2 := serB_nat h2
 have q2 : n.toNat < 4294967296 := p2.2
 have p3 := serB_nat h3
 have q3 : la.toNat < 4294967296 := p3.2
 have p4 := serB_nat h4
 have q4 : r.toNat < 256 := p4.2
 refine ⟨by omega, by omega, by omega, fun x hx => ?_, ?_⟩
 ·unfold incB at h1
  simp only [List.all_eq_true, List.mem_range, Bool.and_eq_true] at h1
  obtain ⟨i, hi, e⟩ := getD_mem (a := (0 : Int)) hx
  have h6 := (h1 i hi).1
  rw [e] at h6
  have h7 := serB_nat h6
  have h8 : x.toNat < 65536 := h7.2
  omega
 ·split at h5
  ·rename_i hk
   simp only [Bool.and_eq_true, beq_iff_eq, List.isEmpty_iff] at h5
   exact .inl ⟨hk, h5⟩
  ·simp only [Bool.and_eq_true, beq_iff_eq, decide_eq_true_eq] at h5
   exact .inr ⟨h5.1.1.1, h5.1.1.2, h5.1.2, h5.2⟩
theorem rstBack {k n la r : Int} {xs : List Int} (h : resetV k n la r xs = true) : getRsxV ⟨130, 0, resetB k n la r xs⟩ = .tup [rstP k n la r (.fs 1 (xs.map eI)), .int .i64 0] := by
 obtain ⟨b1, b2, b3, b4, b5⟩ := rstB h
 have hn32 : n.toNat < 256 ^ 4 := by show n.toNat < 4294967296; omega
 have hl32 : la.toNat < 256 ^ 4 := by show la.toNat < 4294967296; omega
 have hr8 : r.toNat < 256 ^ 1 := by show r.toNat < 256; omega
 obtain ⟨s, hs⟩ : ∃ s, s = resetB k n la r xs := ⟨_, rfl⟩
 rw [← hs]
 have fin : rsxG s = ⟨k, n, la, r, xs⟩ → resetMin s ≤ s.length → resetP s = s.length → getRsxV ⟨130, 0, s⟩ = .tup [rstP k n la r (.fs 1 (xs.map eI)), .int .i64 0] := by
  intro hd h1 h2
  have hok : rsxOk ⟨130, 0, s⟩ = true := by
   unfold rsxOk
   simp only [hd, Rsx.ok, Rsx.oct, h, ← hs, decide_true, Bool.and_true, Bool.and_eq_true, decide_eq_true_eq]
   exact ⟨h1, h2⟩
  unfold getRsxV
  rw [if_pos rfl, if_pos hok, hd]
  rfl
 rcases b5 with ⟨rfl, rfl, rfl⟩ | ⟨rfl, rfl, c1, c2⟩
 ·have hs2 : s = putB 1 2 ++ putB 4 n.toNat ++ putB 1 r.toNat := by rw [hs]; unfold resetB; rw [if_pos rfl]
  have e0 : s = [] ++ (putB 1 2 ++ (putB 4 n.toNat ++ putB 1 r.toNat)) := by rw [hs2]; simp
  have e1 : s = putB 1 2 ++ (putB 4 n.toNat ++ putB 1 r.toNat) := by rw [hs2]; simp
  have e5 : s = (putB 1 2 ++ putB 4 n.toNat) ++ (putB 1 r.toNat ++ []) := by rw [hs2]; simp
  have hl : s.length = 6 := by rw [hs2]; simp [putB_len]
  have g0 : getB (s.take 1) = 2 := by
   have := num_at (A := []) (n := 1) (v := 2) (R := putB 4 n.toNat ++ putB 1 r.toNat) (p := 0) rfl (by omega)
   rw [← e0] at this; simpa using this
  have g1 : getB ((s.drop 1).take 4) = n.toNat := by rw [e1]; exact num_at (by simp [putB_len]) hn32
  have g5 : getB ((s.drop 5).take 1) = r.toNat := by rw [e5]; exact num_at (by simp [putB_len]) hr8
  refine fin ?_ ?_ ?_
  ·unfold rsxG
   rw [if_neg (by rw [g0]; omega), g1, g5]
   congr 1 <;> omega
  ·unfold resetMin; rw [if_neg (by rw [g0]; omega)]; omega
  ·unfold resetP; rw [if_neg (by rw [g0]; omega)]; omega
 ·obtain ⟨es, hes⟩ : ∃ es, es = xs.map Int.toNat := ⟨_, rfl⟩
  have hel : es.length = xs.length := by rw [hes]; simp
  have heb : ∀ x ∈ es, x < 256 ^ 2 := by
   intro x hx
   rw [hes] at hx
   obtain ⟨y, hy, rfl⟩ := List.mem_map.1 hx
   have := b4 y hy
   show y.toNat < 65536; omega
  have hse : es.map (fun x : Nat => (x : Int)) = xs := by rw [hes]; exact mapN xs fun x hx => (b4 x hx).1
  obtain ⟨D, hD⟩ : ∃ D, D = es.flatMap (putB 2) := ⟨_, rfl⟩
  have hDl : D.length = 2 * es.length := by
   rw [hD]
   clear heb hel hse hD hes
   induction es with
   | nil => rfl
   | cons a l ih => rw [List.flatMap_cons, List.length_append, ih, putB_len, List.length_cons]; omega
  have hs2 : s = putB 1 1 ++ putB 4 n.toNat ++ (putB 4 la.toNat ++ D) := by rw [hs, hD, hes]; unfold resetB; rw [if_neg (by omega)]
  have e0 : s = [] ++ (putB 1 1 ++ (putB 4 n.toNat ++ (putB 4 la.toNat ++ D))) := by rw [hs2]; simp
  have e1 : s = putB 1 1 ++ (putB 4 n.toNat ++ (putB 4 la.toNat ++ D)) := by rw [hs2]; simp
  have e5 : s = (putB 1 1 ++ putB 4 n.toNat) ++ (putB 4 la.toNat ++ D) := by rw [hs2]
  have e9 : s = (putB 1 1 ++ putB 4 n.toNat ++ putB 4 la.toNat) ++ (D ++ []) := by rw [hs2]; simp
  have hl : s.length = 9 + 2 * es.length := by rw [hs2]; simp [putB_len, hDl]; omega
  have hN : resetN s = es.length := by unfold resetN; omega
  have g0 : getB (s.take 1) = 1 := by
   have := num_at (A := []) (n := 1) (v := 1) (R := putB 4 n.toNat ++ (putB 4 la.toNat ++ D)) (p := 0) rfl (by omega)
   rw [← e0] at this; simpa using this
  have g1 : getB ((s.drop 1).take 4) = n.toNat := by rw [e1]; exact num_at (by simp [putB_len]) hn32
  have g5 : getB ((s.drop 5).take 4) = la.toNat := by rw [e5]; exact num_at (by simp [putB_len]) hl32
  have g9 : numsG s 9 2 (resetN s) = es := by
   rw [hN, e9, hD]; exact nums_at es _ [] 9 (by simp [putB_len]) heb
  refine fin ?_ ?_ ?_
  ·unfold rsxG
   rw [if_pos g0, g1, g5, g9, hse]
   congr 1 <;> omega
  ·unfold resetMin; rw [if_pos g0]; omega
  ·unfold resetP; rw [if_pos g0, hN]; omega
theorem rPutData_ok {F : SF} {L nx : Nat} (d : Dat) (hd : d.ok = true) : Con Tryz.prog 23 [.agg d.row] F L nx nx (.agg [.int .i64 0, .int .i64 (flD d.la d.fi d.lo 3), .str (dataB d)]) [] [] := by
 unfold Dat.ok at hd
 simp only [Bool.and_eq_true, decide_eq_true_eq] at hd
 obtain ⟨⟨h1, h2⟩, ⟨h3, h4⟩, h5, h6, h7⟩ := hd
 obtain ⟨tsn, st, sq, pr, fi, la, lo, pl⟩ := d
 simp only at h1 h2 h3 h4 h5 h6 h7
 obtain ⟨h1, k1⟩ := serB_nat h1
 obtain ⟨h2, k2⟩ := serB_nat h2
 obtain ⟨h3, k3⟩ := serB_nat h3
 obtain ⟨h4, k4⟩ := serB_nat h4
 obtain ⟨tn, htn⟩ : ∃ x, x = tsn.toNat := ⟨_, rfl⟩
 obtain ⟨sn, hsn⟩ : ∃ x, x = st.toNat := ⟨_, rfl⟩
 obtain ⟨qn, hqn⟩ : ∃ x, x = sq.toNat := ⟨_, rfl⟩
 obtain ⟨pn, hpn⟩ : ∃ x, x = pr.toNat := ⟨_, rfl⟩
 rw [← htn] at h1 k1
 rw [← hpn] at h2 k2
 rw [← hsn] at h3 k3
 rw [← hqn] at h4 k4
 have k1' : tn < 4294967296 := k1
 have k2' : pn < 4294967296 := k2
 have k3' : sn < 65536 := k3
 have k4' : qn < 65536 := k4
 refine bdy Tryz.f23 ?_
 intro F3 hF1 hF2
 subst h1 h2 h3 h4
 have p4 : ∀ (v : Nat), (putB 4 v).length = 4 := putB_len 4
 have p2 : ∀ (v : Nat), (putB 2 v).length = 2 := putB_len 2
 have hpl : pl.length ≤ 1100 := by omega
 have hA : putB 4 tn ++ (putB 2 sn ++ putB 2 qn) ++ putB 4 pn ++ pl = putB 4 tn ++ putB 2 sn ++ putB 2 qn ++ putB 4 pn ++ pl := by simp only [List.append_assoc]
 cases la <;> cases fi <;> cases lo
 all_goals
  simp only [Tryz.f23, cx, Dat.row, dataB, Int.toNat_natCast, hA, flD, if_true, if_false, Bool.false_eq_true, Nat.add_zero, go_sem, meths]
  repeat refine And.intro (by first | exact ⟨by omega, by omega⟩ | kernel_rfl) ?_
  refine CallVC.same (rPut_ok 4 tn (by omega) (by omega)) ?_
  simp only [go_sem]
  refine CallVC.same (rPut_ok 2 sn (by omega) (by omega)) ?_
  simp only [p4, p2, go_sem]
  repeat refine And.intro (by omega) ?_
  refine CallVC.same (rPut_ok 2 qn (by omega) (by omega)) ?_
  simp only [p4, p2, List.length_append, go_sem]
  repeat refine And.intro (by omega) ?_
  refine CallVC.same (rPut_ok 4 pn (by omega) (by omega)) ?_
  simp only [p4, p2, List.length_append, go_sem]
  repeat refine And.intro (by omega) ?_
  refine ⟨okDyn_num (fun x => x.i) (by kernel_rfl), ?_⟩
  exact PostF.same (p := True) (.inr rfl) (by first | (simp only [resVal, resVals, resVal1, one, go_sem]; done) | (simp only [resVal, resVals, resVal1, one, go_sem]; rfl)) trivial (by simp [Tx.nf, nfl]) (by simp [UpdAll])
theorem rPutInit_ok {F : SF} {L nx : Nat} (d : Ini) (hd : d.ok = true) : Con Tryz.prog 32 [.agg d.row] F L nx nx (.agg [.int .i64 (iniK d.ck), .int .i64 0, .str d.oct]) [] [] := by
 unfold Ini.ok at hd
 simp only [Bool.and_eq_true, decide_eq_true_eq] at hd
 obtain ⟨⟨h1, h2, h5⟩, ⟨h3, h4⟩, _, _, _, h6⟩ := hd
 obtain ⟨tag, win, out, inn, tsn, ck⟩ := d
 simp only at h1 h2 h3 h4 h5 h6
 obtain ⟨h1, k1⟩ := serB_nat h1
 obtain ⟨h2, k2⟩ := serB_nat h2
 obtain ⟨h3, k3⟩ := serB_nat h3
 obtain ⟨h4, k4⟩ := serB_nat h4
 obtain ⟨h5, k5⟩ := serB_nat h5
 obtain ⟨a, ha⟩ : ∃ x, x = tag.toNat := ⟨_, rfl⟩
 obtain ⟨b, hb⟩ : ∃ x, x = win.toNat := ⟨_, rfl⟩
 obtain ⟨c, hc⟩ : ∃ x, x = out.toNat := ⟨_, rfl⟩
 obtain ⟨e, he⟩ : ∃ x, x = inn.toNat := ⟨_, rfl⟩
 obtain ⟨f, hf⟩ : ∃ x, x = tsn.toNat := ⟨_, rfl⟩
 rw [← ha] at h1 k1
 rw [← hb] at h2 k2
 rw [← hc] at h3 k3
 rw [← he] at h4 k4
 rw [← hf] at h5 k5
 have k1' : a < 4294967296 := k1
 have k2' : b < 4294967296 := k2
 have k3' : c < 65536 := k3
 have k4' : e < 65536 := k4
 have k5' : f < 4294967296 := k5
 refine bdy Tryz.f32 ?_
 intro F3 hF1 hF2
 subst h1 h2 h3 h4 h5
 have p4 : ∀ (v : Nat), (putB 4 v).length = 4 := putB_len 4
 have p2 : ∀ (v : Nat), (putB 2 v).length = 2 := putB_len 2
 have hpl : ck.length ≤ 200 := by omega
 simp only [Tryz.f32, cx, Ini.row, Ini.oct, Int.toNat_natCast, Nat.add_zero, go_sem, meths]
 repeat refine And.intro (by first | exact ⟨by omega, by omega⟩ | kernel_rfl) ?_
 refine CallVC.same (rPut_ok 4 a (by omega) (by omega)) ?_
 simp only [go_sem]
 refine CallVC.same (rPut_ok 4 b (by omega) (by omega)) ?_
 simp only [p4, go_sem]
 repeat refine And.intro (by omega) ?_
 refine CallVC.same (rPut_ok 2 c (by omega) (by omega)) ?_
 simp only [p4, p2, List.length_append, go_sem]
 repeat refine And.intro (by omega) ?_
 refine CallVC.same (rPut_ok 2 e (by omega) (by omega)) ?_
 simp only [p4, p2, List.length_append, go_sem]
 repeat refine And.intro (by omega) ?_
 refine CallVC.same (rPut_ok 4 f (by omega) (by omega)) ?_
 simp only [p4, p2, List.length_append, Nat.add_zero, go_sem]
 repeat refine And.intro (by omega) ?_
 refine ⟨okDyn_num (fun x => x.i) (by kernel_rfl), ?_⟩
 have hA : iniB a b c e f ck = putB 4 a ++ putB 4 b ++ putB 2 c ++ putB 2 e ++ putB 4 f ++ ck := by simp only [iniB, List.append_assoc]
 rw [hA]
 by_cases hk : ck = []
 ·have f1 : (!(ck == ([] : List UInt8))) = false := by rw [hk]; rfl
  have f2 : iniK ck = 1 := by rw [hk]; rfl
  rw [f2]
  simp only [f1, go_sem]
  repeat refine And.intro (by omega) ?_
  exact PostF.same (p := True) (.inr rfl) (by simp only [resVal, resVals, resVal1, one, go_sem]) trivial (by simp [Tx.nf, nfl]) (by simp [UpdAll])
 ·have f1 : (!(ck == ([] : List UInt8))) = true := by cases ck with
   | nil => exact absurd rfl hk
   | cons x l => rfl
  have f2 : iniK ck = 2 := by simp [iniK, hk]
  rw [f2]
  simp only [f1, go_sem]
  repeat refine And.intro (by omega) ?_
  exact PostF.same (p := True) (.inr rfl) (by simp only [resVal, resVals, resVal1, one, go_sem]) trivial (by simp [Tx.nf, nfl]) (by simp [UpdAll])
theorem xPutForward_ok {F : SF} {L nx : Nat} (cum : Nat) (sk : List (Nat × Nat)) (h1 : cum < 2 ^ 32) (h2 : ∀ k ∈ sk, k.1 < 65536 ∧ k.2 < 65536) (hlen : sk.length ≤ 1000) : Con Tryz.prog 36 [fwdP cum (sk.map kN)] F L nx nx (.agg [.int .i64 192, .int .i64 0, .str (fwdT cum sk)]) [] [] := by
 refine bdy Tryz.f36 ?_
 intro F3 hF1 hF2
 simp only [Tryz.f36, cx, fwdP, Nat.add_zero, go_sem, meths]
 repeat refine sd2 ?_
 refine CallVC.same (rPut_ok 4 cum (by omega) (by omega)) ?_
 simp only [go_sem]
 repeat refine sd2 ?_
 have l4 := putB_len 4 cum
 obtain ⟨T, hT⟩ : ∃ T : Nat → List UInt8, T = fun i => putB 4 cum ++ (sk.take i).flatMap fun k => putB 2 k.1 ++ putB 2 k.2 := ⟨_, rfl⟩
 have hT0 : T 0 = putB 4 cum := by rw [hT]; simp
 have hTl : ∀ i, (T i).length ≤ 4 + 4 * sk.length := by
  intro i
  rw [hT]
  simp only [List.length_append, l4, skT_len, List.length_take]
  omega
 refine loopK.intro _ _ (I := fun i : Nat => ⟨[none, some (.ptr ⟨L + 1, 0⟩ 0 0), some (.ptr ⟨L + 1, 32⟩ 0 0), some (.str (T i)), some (.int .i64 i)] ++ oz 29,
  [(⟨L + 1, 0⟩, .rows 59 2 true true [[.int .i64 cum, .fs 2 ((sk.map kN).map kE)]]), (⟨L + 1, 32⟩, .rows 34 3 true true [[.int .i64 0, .int .i64 0, .str []]])], 10000 * (i + 1)⟩) (pre := fun i => i ≤ sk.length) (μ := fun i => sk.length - i) 0 (by omega) ?_ ?_
 ·refine Sub.of (hfz hF2) (by simp only [hT0, go_sem, subT, and_self, Int.natCast_zero]; try trivial) ?_ (by simp [subK, keys]) (by simp)
  simp [subH, Tx.look]
 ·intro i hi
  have hl := hTl i
  by_cases hlt : i < sk.length
  ·have f1 : decide ((i : Int) < (sk.length : Int)) = true := dT (by omega)
   have r0 := rowK (sk := sk.map kN) (i := i) (by simpa using hlt)
   obtain ⟨k, hk⟩ : ∃ k, k = sk[i] := ⟨_, rfl⟩
   have e0 : (sk.map kN).getD i (0, 0) = kN k := by rw [hk]; simp [hlt, List.getD_eq_getElem?_getD]
   rw [e0] at r0
   have hkb := h2 k (by rw [hk]; exact List.getElem_mem hlt)
   have hTs : T (i + 1) = T i ++ putB 2 k.1 ++ putB 2 k.2 := by
    rw [hT]
    simp only
    rw [List.take_succ_eq_append_getElem hlt, List.flatMap_append, ← hk]
    simp
   have p2 : ∀ (v : Nat), (putB 2 v).length = 2 := putB_len 2
   simp only [f1, r0, kE, kN, Int.toNat_natCast, List.length_map, Nat.add_assoc, Nat.add_zero, go_sem]
   repeat refine sd2 ?_
   refine CallVC.same (rPut_ok 2 k.1 (by omega) (by omega)) ?_
   simp only [r0, kE, kN, p2, Int.toNat_natCast, List.length_map, Nat.add_assoc, go_sem]
   repeat refine sd2 ?_
   refine CallVC.same (rPut_ok 2 k.2 (by omega) (by omega)) ?_
   simp only [p2, List.length_append, Nat.add_assoc, go_sem]
   refine ⟨by omega, okDyn_num (fun x => x.i) (by kernel_rfl), ?_⟩
   repeat refine sd2 ?_
   refine ⟨i + 1, by omega, by omega, Sub.of (hfz hF2) (by simp only [hTs, go_sem, subT, and_self, Int.natCast_succ]; try trivial) ?_ (by simp [subK, keys]) (by simp only []; omega)⟩
   simp [subH, Tx.look]
  ·have f1 : decide ((i : Int) < (sk.length : Int)) = false := dF (by omega)
   have hin : i = sk.length := by omega
   subst hin
   have hTe : T sk.length = fwdT cum sk := by rw [hT]; simp [fwdT]
   simp only [f1, hTe, List.length_map, Nat.add_assoc, go_sem]
   repeat refine sd2 ?_
   exact PostF.same (p := True) (.inr rfl) (by simp only [resVal, resVals, resVal1, one, go_sem]) trivial (by simp [Tx.nf, nfl]) (by simp [UpdAll])
theorem xPutReset2_ok {F : SF} {L nx : Nat} (num res : Nat) (last : Int) (xs : List Int) (h1 : num < 2 ^ 32) (h2 : res < 256) : Con Tryz.prog 40 [rstP 2 num last res (.fs 1 (xs.map eI))] F L nx nx (.agg [.int .i64 130, .int .i64 0, .str (putB 1 2 ++ putB 4 num ++ putB 1 res)]) [] [] := by
 refine bdy Tryz.f40 ?_
 intro F3 hF1 hF2
 have f0 : ((2 : Int) == 2) = true := rfl
 have p4 : ∀ (v : Nat), (putB 4 v).length = 4 := putB_len 4
 have p1 : ∀ (v : Nat), (putB 1 v).length = 1 := putB_len 1
 simp only [Tryz.f40, cx, rstP, Nat.add_zero, go_sem, meths]
 repeat refine sd2 ?_
 refine CallVC.same (rPut_ok 1 2 (by omega) (by omega)) ?_
 simp only [go_sem]
 repeat refine sd2 ?_
 refine CallVC.same (rPut_ok 4 num (by omega) (by omega)) ?_
 simp only [f0, p4, p1, Nat.add_zero, go_sem]
 repeat refine sd2 ?_
 refine ⟨okDyn_num (fun x => x.i) (by kernel_rfl), ?_⟩
 repeat refine sd2 ?_
 refine CallVC.same (rPut_ok 1 res (by omega) (by omega)) ?_
 simp only [p4, p1, List.length_append, go_sem]
 repeat refine sd2 ?_
 exact PostF.same (p := True) (.inr rfl) (by simp only [resVal, resVals, resVal1, one, go_sem]) trivial (by simp [Tx.nf, nfl]) (by simp [UpdAll])
theorem xPutReset1_ok {F : SF} {L nx : Nat} (num last : Nat) (res : Int) (xs : List Nat) (h1 : num < 2 ^ 32) (h2 : last < 2 ^ 32) (h3 : ∀ x ∈ xs, x < 65536) (hlen : xs.length ≤ 1000) : Con Tryz.prog 40 [rstP 1 num last res (.fs 1 (xs.map eN))] F L nx nx (.agg [.int .i64 130, .int .i64 0, .str (putB 1 1 ++ putB 4 num ++ putB 4 last ++ xs.flatMap (putB 2))]) [] [] := by
 refine bdy Tryz.f40 ?_
 intro F3 hF1 hF2
 have f0 : ((1 : Int) == 2) = false := rfl
 have p4 : ∀ (v : Nat), (putB 4 v).length = 4 := putB_len 4
 have p1 : ∀ (v : Nat), (putB 1 v).length = 1 := putB_len 1
 have p2 : ∀ (v : Nat), (putB 2 v).length = 2 := putB_len 2
 simp only [Tryz.f40, cx, rstP, Nat.add_zero, go_sem, meths]
 repeat refine sd2 ?_
 refine CallVC.same (rPut_ok 1 1 (by omega) (by omega)) ?_
 simp only [go_sem]
 repeat refine sd2 ?_
 refine CallVC.same (rPut_ok 4 num (by omega) (by omega)) ?_
 simp only [f0, p4, p1, Nat.add_zero, go_sem]
 repeat refine sd2 ?_
 refine ⟨okDyn_num (fun x => x.i) (by kernel_rfl), ?_⟩
 repeat refine sd2 ?_
 refine CallVC.same (rPut_ok 4 last (by omega) (by omega)) ?_
 simp only [p4, p1, List.length_append, go_sem]
 repeat refine sd2 ?_
 obtain ⟨T, hT⟩ : ∃ T : Nat → List UInt8, T = fun i => putB 1 1 ++ putB 4 num ++ putB 4 last ++ (xs.take i).flatMap (putB 2) := ⟨_, rfl⟩
 have hT0 : T 0 = putB 1 1 ++ putB 4 num ++ putB 4 last := by rw [hT]; simp
 have hTl : ∀ i, (T i).length ≤ 9 + 2 * xs.length := by
  intro i
  have e : ∀ l : List Nat, (l.flatMap (putB 2)).length = 2 * l.length := by
   intro l
   induction l with
   | nil => rfl
   | cons a l ih => rw [List.flatMap_cons, List.length_append, ih, p2, List.length_cons]; omega
  rw [hT]
  simp only [List.length_append, p4, p1, e, List.length_take]
  omega
 refine loopK.intro _ _ (I := fun i : Nat => ⟨[none, some (.ptr ⟨L + 1, 0⟩ 0 0), some (.ptr ⟨L + 1, 32⟩ 0 0), some (.str (T i)), some (.int .i64 i)] ++ oz 38,
  [(⟨L + 1, 0⟩, .rows 61 5 true true [[.int .i64 1, .int .i64 num, .int .i64 last, .int .i64 res, .fs 1 (xs.map eN)]]), (⟨L + 1, 32⟩, .rows 34 3 true true [[.int .i64 0, .int .i64 0, .str []]])], 10000 * (i + 1)⟩) (pre := fun i => i ≤ xs.length) (μ := fun i => xs.length - i) 0 (by omega) ?_ ?_
 ·refine Sub.of (hfz hF2) (by simp only [hT0, go_sem, subT, and_self, Int.natCast_zero]; try trivial) ?_ (by simp [subK, keys]) (by simp)
  simp [subH, Tx.look]
 ·intro i hi
  have hl := hTl i
  by_cases hlt : i < xs.length
  ·have f1 : decide ((i : Int) < (xs.length : Int)) = true := dT (by omega)
   obtain ⟨k, hk⟩ : ∃ k, k = xs[i] := ⟨_, rfl⟩
   have r0 : (xs.map eN).getD i [] = [.int .i64 (k : Int)] := by rw [hk]; simp [eN, hlt, List.getD_eq_getElem?_getD]
   have hkb := h3 k (by rw [hk]; exact List.getElem_mem hlt)
   have hTs : T (i + 1) = T i ++ putB 2 k := by
    rw [hT]
    simp only
    rw [List.take_succ_eq_append_getElem hlt, List.flatMap_append, ← hk]
    simp
   simp only [f1, r0, Int.toNat_natCast, List.length_map, Nat.add_assoc, go_sem]
   repeat refine sd2 ?_
   refine CallVC.same (rPut_ok 2 k (by omega) (by omega)) ?_
   simp only [p2, Nat.add_assoc, go_sem]
   repeat refine sd2 ?_
   refine ⟨i + 1, by omega, by omega, Sub.of (hfz hF2) (by simp only [hTs, go_sem, subT, and_self, Int.natCast_succ]; try trivial) ?_ (by simp [subK, keys]) (by simp only []; omega)⟩
   simp [subH, Tx.look]
  ·have f1 : decide ((i : Int) < (xs.length : Int)) = false := dF (by omega)
   have hin : i = xs.length := by omega
   subst hin
   have hTe : T xs.length = putB 1 1 ++ putB 4 num ++ putB 4 last ++ xs.flatMap (putB 2) := by rw [hT]; simp
   rw [← hTe]
   simp only [f1, List.length_map, Nat.add_assoc, go_sem]
   repeat refine sd2 ?_
   exact PostF.same (p := True) (.inr rfl) (by simp only [resVal, resVals, resVal1, one, go_sem]) trivial (by simp [Tx.nf, nfl]) (by simp [UpdAll])
end Go.Proofs.YtaacfnngodhecaaGreatDoor
end
