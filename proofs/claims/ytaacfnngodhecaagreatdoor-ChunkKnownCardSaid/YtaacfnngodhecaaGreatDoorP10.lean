/- Lemmas for the walk: U32, U33, U34, U36, U37. -/
import Derived.Test.YtaacfnngodhecaaGreatDoorP09
import Derived.ProofKit
set_option linter.all false
section
namespace Go.Tx
open Go.ChangeShapes Go.WideShapes Go.ChangeAt Go.RowKit
section
variable {H : Type} {enc : TypeId × Value → H} {P : Program} {W W' : World}
theorem trodAll_below (hl : laidOutB P = true) (hb : Below W.heap.size W W') : ∀ (ts : List TypeId) (vs : List Value) (ds : List (DataW H)) (ps : List MemPlace), (∀ t ∈ ts, P.readableRec t = true ∧ t < P.types.size) → (∀ x ∈ ps, x.block < W.heap.size) → DataW.TrodAll enc P W 0 (fun _ => true) true ts vs ds ps →
  DataW.TrodAll enc P W' 0 (fun b => decide (b < W.heap.size)) true ts vs ds ps
 | [], [], [], ps, _, _, h => h
 | t :: ts, v :: vs, d :: ds, ps, ht, hp, h => by
  obtain ⟨p, q, h1, h2, rfl⟩ := h
  refine ⟨p, q, Below.trod hl (ht t (by simp)).1 (ht t (by simp)).2 h1 hb (fun x hx => hp x (by simp [hx])), trodAll_below hl hb ts vs ds q (fun u hu => ht u (by simp [hu])) (fun x hx => hp x (by simp [hx])) h2, rfl⟩
 | [], _ :: _, _, _, _, _, h => h.elim
 | [], [], _ :: _, _, _, _, h => h.elim
 | _ :: _, [], _, _, _, _, h => h.elim
 | _ :: _, _ :: _, [], _, _, _, h => h.elim
theorem post_below {f : Func} {s : ChangeSpec} {apart fresh handsOn : Bool} {args : Array Value} {ds : List (DataW H)} {before : List MemPlace} {tb : TypeId}
  (hW : DataW.Whole enc P f.params.toList s.vars apart W args.toList ds [] before) (hv : s.vars = []) (hres : f.resultTypes = #[tb]) (hb4 : P.underlying tb = some .bool)
  (h1 : (s.fn H (ds ++ [])).results = [.lit (.bool true)]) (h2 : (s.fn H (ds ++ [])).args = ds) (h3 : (s.fn H (ds ++ [])).vars = [])
  (hl : laidOutB P = true) (hpar : ∀ t ∈ f.params.toList, P.readableRec t = true ∧ t < P.types.size) (hb : Below W.heap.size W W') :
  s.post enc P f apart fresh handsOn false W args (.bool true) W' := by
 have hlt : ∀ p ∈ before, p.block < W.heap.size := fun p hp => by simpa using hW.lt p hp
 have hW2 := hW
 obtain ⟨p, q, hA, hV, hpq, _, _⟩ := hW2
 rw [hv] at hV
 obtain ⟨_, rfl⟩ := trodVars_none hV
 rw [List.append_nil] at hpq
 subst hpq
 refine ⟨ds, [], before, [], before, [], hW, ?_, ?_, ?_, hb.frame _, fun h => by cases h⟩
 ·rw [h1, hres]
  exact trodAll_mk1 (shut_bool hb4 _)
 ·rw [h2]
  exact trodAll_below hl hb _ _ _ _ hpar hlt hA
 ·rw [h3, hv]
  exact rfl
end
end Go.Tx
end
section
namespace Go.Tx
attribute [go_sem ↓] regVX_live regVX_dies regVD_live callVD_live v_skip v_ret v_exit v_seq v_cond v_block v_loop v_region v_regionD v_range v_scope v_label noGotoQ thenQ blockQ x_nil x_cons o_any o_calm xs_nil xs_cons os_any brB_tt brB_ff brB_tf brB_ft vcK_app regK_app regKD_app restK_app callK_app restS_app regS_app seqK_app ycK_app
attribute [go_sem] regVD_live callVD_live nilT nilL nilB yldT cut3 unsetT semClear semCopy eqAr initT setG semOp evalT guardVal semCall semLoad semLoadR semStore semAlloc semBox semField semIndexAddr semIndex semPart semSlice semExtract isUndef semPick semNilCheck semUn semConv semConv2 sameBytes semS2A flat1 semBuild fillL fillR semBuildSlice semMakeSlice semLen semMin semAppend semAppend2 semAppendZ srcRows semMakeMap semLookup semMapUpdate lookRes vals partsV optVal boundOf mkRes putT dstOk Option.all_some Option.all_none updH setH Tx.look SF.upd SF.set putAt cellsP isAggT Go.Sx.isAggK semBin eqCell eqFs eqSt semInt ofV ofVl keys undefP zeroP nf nfl nm_eq List.map List.length List.replicate List.getD_cons_zero List.getD_cons_succ List.set_cons_zero List.set_cons_succ List.cons_append List.nil_append List.append_nil List.drop_zero List.drop_succ_cons List.drop_nil List.take_succ_cons List.take_zero List.take_nil List.contains List.elem Bool.and_true Bool.true_and Bool.or_false Bool.false_or Bool.and_false Bool.false_and Bool.or_true Bool.true_or Bool.not_true Bool.not_false Bool.false_eq_true if_true if_false true_and and_true false_and Option.map_some Option.map_none Option.bind_some Option.bind_none Option.getD_some Option.isSome_some Option.isSome_none List.getElem?_cons_zero List.getElem?_cons_succ beq_self_eq_true bne_self_eq_false decide_true decide_false Value.oneCell' List.all_cons List.all_nil List.foldl_cons List.foldl_nil Go.Sx.notYield Int.toNat_natCast forall_const false_implies Nat.zero_mul Nat.add_zero Nat.zero_add semSliceData semUString List.contains_cons
attribute [go_sem_proc] Nat.reduceSub Nat.reduceAdd Nat.reduceMul Nat.reduceEqDiff Nat.reduceLT Nat.reduceLeDiff Nat.reduceBEq Nat.reduceBNe reduceIte reduceCtorEq Int.reduceToNat String.reduceEq
end Go.Tx
end
section
namespace Go.Tx
open Go.Sx (lt_of_get)
theorem keys_unown (F : SF) : ∀ (l : List Nm) (n : Nm), n ∈ keys (unown F l) → n ∈ l
 | [], _, h => by simp [unown, keys] at h
 | m :: l, n, h => by
  simp only [unown, keys, List.map_append, List.mem_append] at h
  rcases h with h | h
  ·have : n = m := by
    split at h <;> simp at h <;> exact h
   simp [this]
  ·exact List.mem_cons_of_mem _ (keys_unown F l n h)
theorem StepR.freeze {E : Env} {F : SF} {w : World} (h : HRel E F w) {n : Nm} {e : TypeId} {wd : Nat} {o : Bool} {rs rs1 : List (List PV)} (hn : F n = some (.rows e wd o false rs)) (hw : WkLL F rs rs1) (hne : n ∉ wkNLL rs rs1) :
  StepR E F w E ((F.upd (unown F (wkNLL rs rs1))).set n (.rows e wd o false rs1)) w := by
 generalize hns : wkNLL rs rs1 = ns at hne ⊢
 have hle : SLe (F.upd (unown F ns)) F := unown_le F ns
 have hS := StepR.less h hle
 have hFn : F.upd (unown F ns) n = some (.rows e wd o false rs) := by
  rw [upd_eq, setAll_not (fun hk => hne (keys_unown F ns n hk))]; exact hn
 let F4 : SF := (F.upd (unown F ns)).set n (.rows e wd o false rs1)
 have hown : ∀ m b, F4 m = some b → b.own = true → ∃ c, F m = some c ∧ c.own = true := by
  intro m b hb ho
  simp only [F4, SF.set] at hb
  split at hb
  ·rename_i he
   subst he
   injection hb with hb; subst hb
   exact ⟨_, hn, ho⟩
  ·exact ⟨b, hle.own hb ho, ho⟩
 have hown3 : ∀ m b, F4 m = some b → b.own = true → ∃ c, (F.upd (unown F ns)) m = some c ∧ c.own = true := by
  intro m b hb ho
  simp only [F4, SF.set] at hb
  split at hb
  ·rename_i he
   subst he
   injection hb with hb; subst hb
   exact ⟨_, hFn, ho⟩
  ·exact ⟨b, hb, ho⟩
 have hlive : ∀ m b, F4 m = some b → b.live = true → ∃ c, F m = some c ∧ c.live = true := by
  intro m b hb ho
  simp only [F4, SF.set] at hb
  split at hb
  ·rename_i he
   subst he
   exact ⟨_, hn, rfl⟩
  ·rcases hle m b hb with rfl | h1 | ⟨_, _, _, _, h1, _⟩ | ⟨_, _, _, h1, _⟩
   ·cases ho
   ·exact ⟨b, h1, ho⟩
   ·exact ⟨_, h1, rfl⟩
   ·exact ⟨_, h1, rfl⟩
 have hzone : ∀ q, Zn E (F.upd (unown F ns)) w q → Zn E F4 w q := by
  rintro q ⟨k1, k2⟩
  refine ⟨k1, fun m b i hm ho hi hz => ?_⟩
  obtain ⟨c, c1, c2⟩ := hown3 m b hm ho
  exact k2 m c i c1 c2 hi hz
 have hX : Ext E w (Zn E (F.upd (unown F ns)) w) E w (Zn E F4 w) := ⟨Env.le.refl _, hzone, fun _ _ => rfl⟩
 have hrel : HRel E F4 w := by
  refine ⟨fun m b hm => ?_, fun m1 m2 b c i j h1 h2 h12 ho hl hi hj hz1 hz2 => ?_⟩
  ·by_cases hmn : m = n
   ·subst hmn
    have hb : b = .rows e wd o false rs1 := by
     simp only [F4, SF.set, if_true] at hm; injection hm with hm; exact hm.symm
    subst hb
    obtain ⟨i, hi, hor⟩ := h.blk m _ hn
    refine ⟨i, hi, ?_⟩
    rcases hor with ⟨z1, rfl, z3, z4⟩ | ⟨hz, hRr⟩
    ·refine .inl ⟨z1, ?_, z3, z4⟩
     cases rs1 with
     | nil => rfl
     | cons a l => simp [WkLL] at hw
    ·refine .inr ⟨hz, ?_⟩
     obtain ⟨cs, fz, b1, b2, b3, b4⟩ := hRr.cells
     obtain ⟨l1, l2⟩ := wkLL_get hw
     have hlen1 : ∀ row ∈ rs1, row.length = wd := by
      intro row hrow
      obtain ⟨r, hr⟩ := List.getElem?_of_mem hrow
      have hlt := lt_of_get hr
      have hr0 := List.getElem?_eq_getElem (l := rs) (i := r) (by omega)
      obtain ⟨k1, _⟩ := l2 r _ row hr0 hr
      rw [← (wkL_get k1).1]
      exact hRr.len _ (List.mem_of_getElem? hr0)
     refine ⟨hRr.wd_eq, hRr.o0, hRr.wd_pos, hlen1, by rw [← l1]; exact hRr.le, hRr.cap, cs, fz, b1, b2, b3, ?_⟩
     refine (VRr_iff hlen1).2 fun r row1 c y hr1 hc1 => ?_
     have hlt := lt_of_get hr1
     have hr0 := List.getElem?_eq_getElem (l := rs) (i := r) (by omega)
     obtain ⟨k1, k2⟩ := l2 r _ row1 hr0 hr1
     obtain ⟨k3, k4⟩ := wkL_get k1
     have hct := lt_of_get hc1
     have hc0 := List.getElem?_eq_getElem (l := rs[r]) (i := c) (by omega)
     obtain ⟨k5, k6⟩ := k4 c _ y hc0 hc1
     obtain ⟨u, a1, a2, a3⟩ := (VRr_iff hRr.len).1 b4 r _ c _ hr0 hc0
     refine ⟨u, a1, a2, ?_⟩
     have hno : ∀ m ∈ wkN (rs[r])[c] y, ∀ c, (F.upd (unown F ns)) m = some c → c.own = false := fun m hm c hc => unown_own (by rw [← hns]; exact k2 m (k6 m hm)) hc
     exact VR.mono hX _ _ (wk_vr h hle _ y u k5 hno a3)
   ·have hm' : (F.upd (unown F ns)) m = some b := by simp only [F4, SF.set, if_neg hmn] at hm; exact hm
    exact (hS.rel.blk m b hm').mono hX fun _ _ _ => rfl
  ·obtain ⟨c1, d1, d2⟩ := hown m1 b h1 ho
   obtain ⟨c2, e1, e2⟩ := hlive m2 c h2 hl
   exact h.sep m1 m2 c1 c2 i j d1 e1 h12 d2 e2 hi hj hz1 hz2
 refine ⟨Env.le.refl _, hrel, rfl, rfl, rfl, Nat.le_refl _, fun _ _ _ => rfl, fun m b i hm ho hi hz => ?_⟩
 obtain ⟨c, c1, c2⟩ := hown m b hm ho
 exact .inr ⟨m, c, i, c1, c2, hi, hz, rfl⟩
theorem upd_append (l l' : List (Nm × SBlk)) (F : SF) : F.upd (l ++ l') = (F.upd l).upd l' := by
 induction l generalizing F with
 | nil => rfl
 | cons a l ih => obtain ⟨n, b⟩ := a; exact ih _
theorem Con.frz {P : Program} {f : FuncId} {args : List PV} {F : SF} {L nx top : Nat} {v : PV} {upd : List (Nm × SBlk)} {rd : List Nm} {n : Nm} {e : TypeId} {wd : Nat} {o : Bool} {rs rs1 : List (List PV)} (hn : F n = some (.rows e wd o false rs)) (hw : WkLL F rs rs1) (hne : n ∉ wkNLL rs rs1)
  (hc : Con P f args (F.upd (unown F (wkNLL rs rs1) ++ [(n, .rows e wd o false rs1)])) L nx top v upd rd) : Con P f args F L nx top v (unown F (wkNLL rs rs1) ++ [(n, .rows e wd o false rs1)] ++ upd) (n :: (wkNLL rs rs1 ++ rd)) := by
 refine ⟨hc.1, fun F2 hF2 E w args' hR hfr hdp hv => ?_⟩
 have hu : unown F2 (wkNLL rs rs1) = unown F (wkNLL rs rs1) := by
  have : ∀ l : List Nm, (∀ m ∈ l, F2 m = F m) → unown F2 l = unown F l := by
   intro l
   induction l with
   | nil => intro _; rfl
   | cons m l ih => intro h; simp only [unown, h m (by simp), ih (fun q hq => h q (by simp [hq]))]
  exact this _ (fun m hm => hF2 m (by simp [hm]))
 have hw2 : WkLL F2 rs rs1 := by
  have : ∀ a b : List (List PV), (∀ m ∈ wkNLL a b, F2 m = F m) → WkLL F a b → WkLL F2 a b := by
   intro a
   induction a with
   | nil => intro b _ h; cases b <;> simp [WkLL] at h ⊢
   | cons r a ih =>
    intro b hm h
    cases b with
    | nil => simp [WkLL] at h
    | cons r' b =>
     simp only [WkLL] at h ⊢
     exact ⟨wkL_congr h.1 (fun m hq => hm m (by simp [wkNLL, hq])), ih b (fun m hq => hm m (by simp [wkNLL, hq])) h.2⟩
  exact this _ _ (fun m hm => hF2 m (by simp [hm])) hw
 have hS := StepR.freeze hR ((hF2 n (by simp)).trans hn) hw2 hne
 rw [hu] at hS
 have hF4 : ∀ G : SF, G.upd (unown F (wkNLL rs rs1) ++ [(n, .rows e wd o false rs1)]) = (G.upd (unown F (wkNLL rs rs1))).set n (.rows e wd o false rs1) := fun G => by rw [upd_append]; rfl
 rw [← hF4] at hS
 have hL := hc.2 (F2.upd (unown F (wkNLL rs rs1) ++ [(n, .rows e wd o false rs1)])) (fun m hm => by rw [upd_eq, upd_eq]; exact setAll_at (hF2 m (by simp [hm]))) E w args' hS.rel hfr hdp (VRl.mono hS.ext _ _ hv)
 have conv : ∀ v' w', CGives E (F2.upd (unown F (wkNLL rs rs1) ++ [(n, .rows e wd o false rs1)])) w L nx top v upd v' w' → CGives E F2 w L nx top v (unown F (wkNLL rs rs1) ++ [(n, .rows e wd o false rs1)] ++ upd) v' w' := by
  rintro v' w' ⟨E', q1, q2, q3⟩
  unfold CGives
  rw [upd_append _ upd]
  exact ⟨E', q1, hS.trans q2, q3⟩
 unfold Lands Sx.Lands at hL ⊢
 split at hL
 ·exact conv _ _ hL
 ·exact conv _ _ hL
 ·intro cs
  obtain ⟨e, w', fr, ⟨v', he, hK⟩, hrest⟩ := hL cs
  exact ⟨e, w', fr, ⟨v', he, conv _ _ hK⟩, hrest⟩
 ·exact hL
theorem Sub.mem {L : Nat} {F0 : SF} {t : List (Option PV)} {H H' : List (Nm × SBlk)} {nx : Nat} (h : ∀ (E : Env) (w : World), HRel E (look F0 H) w → StepR E (look F0 H) w E (look F0 H') w) : Sub L F0 ⟨t, H, nx⟩ ⟨t, H', nx⟩ := by
 intro B E0 w0 E a w hd0 hR
 have hS := h E w hR.step.rel
 refine ⟨E, hR.step.trans hS, ⟨by simpa using hR.tmps.size, fun i v hv => ?_⟩, hR.marks.mono hS.ext, hR.news⟩
 obtain ⟨v', a1, a2⟩ := hR.tmps.val i v hv
 exact ⟨v', a1, VR.mono hS.ext _ _ a2⟩
theorem Sub.freeze {L : Nat} {F0 : SF} {t : List (Option PV)} {H : List (Nm × SBlk)} {nx : Nat} {n : Nm} {e : TypeId} {wd : Nat} {o : Bool} {rs : List (List PV)} (rs1 : List (List PV)) (hn : look F0 H n = some (.rows e wd o false rs)) (hw : WkLL (look F0 H) rs rs1) (hne : n ∉ wkNLL rs rs1) :
  Sub L F0 ⟨t, H, nx⟩ ⟨t, updH H (unown (look F0 H) (wkNLL rs rs1) ++ [(n, .rows e wd o false rs1)]), nx⟩ :=
 Sub.mem fun E w hR => by
  rw [look_updH, upd_append]
  exact StepR.freeze hR hn hw hne
end Go.Tx
end
section
namespace Go.Tx
theorem Sub.frz {L : Nat} {F0 : SF} {t : List (Option PV)} {H : List (Nm × SBlk)} {nx : Nat} (d : Nat) {v : PV} (v' : PV) (hd : t[d]? = some (some v)) (hw : Wk (look F0 H) v v') :
  Sub L F0 ⟨t, H, nx⟩ ⟨t.set d (some v'), updH H (unown (look F0 H) (wkN v v')), nx⟩ := by
 intro B E0 w0 E a w hd0 hR
 have hle := unown_le (look F0 H) (wkN v v')
 have hS := StepR.less hR.step.rel hle
 refine ⟨E, by rw [look_updH]; exact hR.step.trans hS, ⟨by simpa using hR.tmps.size, fun i x hx => ?_⟩, by rw [look_updH]; exact hR.marks.mono hS.ext, hR.news⟩
 simp only [TF, List.getD_eq_getElem?_getD, List.getElem?_set] at hx
 rw [look_updH]
 by_cases hi : d = i
 ·subst hi
  rw [if_pos rfl] at hx
  have hlt := Sx.lt_of_get hd
  rw [if_pos hlt] at hx
  simp at hx; subst hx
  obtain ⟨y, a1, a2⟩ := hR.tmps.val d v (by simp [TF, List.getD_eq_getElem?_getD, hd])
  exact ⟨y, a1, wk_vr hR.step.rel hle _ _ _ hw (fun n hn c hc => unown_own hn hc) a2⟩
 ·rw [if_neg hi] at hx
  obtain ⟨y, a1, a2⟩ := hR.tmps.val i x (by simpa [TF, List.getD_eq_getElem?_getD] using hx)
  exact ⟨y, a1, VR.mono hS.ext _ _ a2⟩
end Go.Tx
end
section
namespace Go.Tx
open Go.Sx (lt_of_get)
def Cx.dying (C : Cx) (ch : List PanicEntry) (dq : St → Prop) : Cx := ⟨C.P, C.T, C.ms, C.wr, C.L, C.ro, C.ys, C.B, true, ch, dq⟩
section
variable (C : Cx) (ch : List PanicEntry) (dq : St → Prop)
theorem dying_P : (C.dying ch dq).P = C.P := rfl
theorem dying_T : (C.dying ch dq).T = C.T := rfl
theorem dying_ms : (C.dying ch dq).ms = C.ms := rfl
theorem dying_wr : (C.dying ch dq).wr = C.wr := rfl
theorem dying_L : (C.dying ch dq).L = C.L := rfl
theorem dying_ro : (C.dying ch dq).ro = C.ro := rfl
theorem dying_ys : (C.dying ch dq).ys = C.ys := rfl
theorem dying_Ok (h : C.Ok) : (C.dying ch dq).Ok := ⟨h.T, h.A, h.mixed, h.ms⟩
end
theorem dying_VX (C : Cx) (ch : List PanicEntry) (dq : St → Prop) (x p : Prop) : RegVX (C.dying ch dq) x p = p := rfl
attribute [go_sem ↓] dying_VX
attribute [go_sem] dying_P dying_T dying_ms dying_wr dying_L dying_ro dying_ys
def PostD (F : SF) (L : Nat) (upd : List (Nm × SBlk)) (st : St) : Prop := UpdN L 0 [] (look F st.H) upd ∧ UpdAll L (keys upd) st.H
theorem rel_init {C : Cx} {E : Env} {F3 : SF} {w : World} {args : List PV} {args' : List Value} (hR : HRel E F3 w) (hargs : VRl w (Zn E F3 w) E args args') (n : Nat) :
  Rel [] C.L F3 E w E ⟨initT args n, [], 0⟩ { tmps := args'.toArray ++ Array.replicate (n - args'.toArray.size) undef, defers := [] } w := by
 obtain ⟨hlen, hget⟩ := VRl.get hargs
 refine ⟨StepR.refl hR, ⟨by simp [initT, hlen], fun i x hx => ?_⟩, MarksOk.nil, fun n h1 h2 => absurd h1 h2⟩
 simp only [TF, initT] at hx
 rw [List.getD_eq_getElem?_getD] at hx
 by_cases hi : i < args.length
 ·rw [List.getElem?_append_left (by simpa using hi)] at hx
  simp only [List.getElem?_map] at hx
  cases hy : args[i]? with
  | none => rw [hy] at hx; cases hx
  | some y =>
   rw [hy] at hx; simp at hx; subst hx
   obtain ⟨v', a1, a2⟩ := hget i y hy
   refine ⟨v', ?_, a2⟩
   rw [Array.getElem?_append_left (by simp; omega)]
   simpa using a1
 ·rw [List.getElem?_append_right (by simp; omega)] at hx
  simp only [List.length_map, List.getElem?_replicate] at hx
  split at hx
  rotate_left
  ·cases hx
  rename_i hlt
  simp at hx; subst hx
  refine ⟨undef, ?_, VR_undef⟩
  rw [Array.getElem?_append_right (by simp; omega)]
  simp only [List.size_toArray, Array.getElem?_replicate]
  rw [if_pos (by omega)]
theorem dgives_of {E E' : Env} {F2 : SF} {w w' : World} {L : Nat} {st : St} {upd : List (Nm × SBlk)} (hR : HRel E F2 w) (hdp : ∀ n : Nm, L < n.l → E n = none)
  (hstep0 : StepR E (cutF L F2) w E' (look (cutF L F2) st.H) w') (hnews : ∀ n, E n = none → E' n ≠ none → n.l = L + 1) (h : PostD (cutF L F2) L upd st) : DGives E F2 w upd w' := by
 have := cgives_of (k := 0) (nx := 0) (news := []) (v0 := .tup []) (v1 := .tup []) (v' := .tuple #[]) hR (fun j _ h => by omega) hdp hstep0 hnews rfl (by simp) (by simp [Wk, WkL]) (by simp [wkN, wkNL]) (by simp [nmA, nmAL]) h.1 h.2 (by simp only [VR, VRl]; exact ⟨[], rfl, rfl⟩)
 obtain ⟨E2, _, h2, h3⟩ := this
 refine ⟨E2, h2, fun n hn => ?_⟩
 cases he : E2 n with
 | none => rfl
 | some x => have := h3 n hn (by rw [he]; simp); omega
theorem IDCon.body {C : Cx} (hC : C.Ok) (hro : C.ro = none) {ch : List PanicEntry} {f : FuncId} {fn : Func} {c : Code} (hf : C.P.funcs[f]? = some fn) (hb : fn.body = some c) (hnum : (fn.name == "runtime.NumGoroutine") = false) {args : List PV} {F : SF} {L : Nat} (hL : C.L = L + 1) {upd : List (Nm × SBlk)} {rd : List Nm} (hrd : ∀ n ∈ rd, n.l ≤ L)
  (H : ∀ F3 : SF, (∀ n ∈ rd, F3 n = F n) → (∀ n : Nm, L < n.l → F3 n = none) → vcC (C.dying ch (PostD F3 L upd)) F3 c ⟨initT args fn.ntmps, [], 0⟩ (fun _ _ => False)) (hB : C.B = [] := by rfl) : IDCon C.P C.ys ch f args F L upd rd := by
 refine fun F2 hF2 E w args' hR hdp hargs hy => ?_
 let F3 : SF := cutF L F2
 have h3 : SLe F3 F2 := cutF_le L F2
 have hS0 := StepR.less hR h3
 have hvc := H F3 (fun n hn => by simp only [F3, cutF]; rw [if_pos (hrd n hn)]; exact hF2 n hn) (fun n hn => by simp only [F3, cutF]; rw [if_neg (by omega)])
 have hdom : Dom0 C.L E := fun n hn => hdp n (by omega)
 have htp := vcC_ok' (w0 := w) (dying_Ok C ch _ hC) (show Dom0 (C.dying ch (PostD F3 L upd)).L E from hdom) (show InvY (C.dying ch (PostD F3 L upd)).ys E F3 w from hy.step hR hS0) hS0.rel c _ _ hvc
 have hrel := rel_init (C := C) hS0.rel (VRl.mono hS0.ext _ _ hargs) fn.ntmps
 have hcall : Calls C.P f args'.toArray w fun e w' => e = .panicked ch ∧ DGives E F2 w upd w' := by
  rw [← callsIn_wide (n := 0)]
  refine callsIn_of_wp_marks hf hb trivial ?_
  have hW : W C.ro = Fence.wide := by rw [hro]; rfl
  rw [← hW]
  refine wpIn_mono (htp _ _ E (by show Rel C.B C.L _ _ _ _ _ _ _; rw [hB]; exact hrel)) ?_
  rintro e a w' ⟨st, hq, E', hRl⟩
  rcases hq with hq | ⟨_, rfl, hq⟩
  ·exact hq.elim
  obtain ⟨Ds, d1, d2, d3⟩ := hRl.marks
  show LeavesInM (W C.ro) 0 C.P fn a.tmps _ a.defers (.panicking ch) w'
  rw [d2]
  refine marks_out (by simp) Ds w' d1 (fun D hD => ⟨(d3 D hD).1, (d3 D hD).2.2⟩) hRl.step hRl.tmps fun w'' s1 s2 => ?_
  show LeavesInM (W C.ro) 0 C.P fn a.tmps _ C.B (.panicking ch) w''
  rw [hB]
  exact ⟨rfl, dgives_of hR hdp s1 (fun n h1 h2 => by have := (hRl.news n h1 h2).1; exact this.trans hL) hq⟩
 have hrun : (callFunc f args'.toArray).run C.P w = .ok (.enter f args'.toArray) w := callFunc_run hf (by rw [hb]; rfl) hnum
 rw [hrun]
 exact hcall
theorem DCon.body {C : Cx} (hC : C.Ok) (hro : C.ro = none) (hys : C.ys = []) {ch : List PanicEntry} {f : FuncId} {fn : Func} {c : Code} (hf : C.P.funcs[f]? = some fn) (hb : fn.body = some c) (hnum : (fn.name == "runtime.NumGoroutine") = false) {args : List PV} {F : SF} {L : Nat} (hL : C.L = L + 1) {upd : List (Nm × SBlk)} {rd : List Nm} (hrd : ∀ n ∈ rd, n.l ≤ L)
  (H : ∀ F3 : SF, (∀ n ∈ rd, F3 n = F n) → (∀ n : Nm, L < n.l → F3 n = none) → vcC (C.dying ch (PostD F3 L upd)) F3 c ⟨initT args fn.ntmps, [], 0⟩ (fun _ _ => False)) (hB : C.B = [] := by rfl) : DCon C.P ch f args F L upd rd := by
 have h := IDCon.body hC hro (ch := ch) hf hb hnum hL hrd H hB
 rw [hys] at h
 exact h.con
theorem DCon.agree {P : Program} {ch : List PanicEntry} {f : FuncId} {args : List PV} {F F' : SF} {L : Nat} {upd : List (Nm × SBlk)} {rd : List Nm} (h : DCon P ch f args F L upd rd) (ha : ∀ n ∈ rd, F' n = F n) : DCon P ch f args F' L upd rd :=
 fun F2 h2 => h F2 fun n hn => (h2 n hn).trans (ha n hn)
theorem CallVD.same {C : Cx} {p : Prop} {F0 : SF} {t : List (Option PV)} {H : List (Nm × SBlk)} {nx : Nat} {f : FuncId} {asx : List PV} (hd : C.dies = true) {upd : List (Nm × SBlk)} {rd : List Nm} (hc : DCon C.P C.ch f asx (look F0 H) C.L upd rd) (hk : C.dq ⟨t, updH H upd, nx⟩) : CallVD C p F0 t H nx f asx := by
 obtain ⟨h1, h2⟩ := wkL_refl (look F0 H) asx
 refine .die hd ⟨asx, upd, rd, h1, ?_, ?_⟩
 ·rw [h2]; exact hc
 ·rw [h2]; exact hk
theorem PostD.of {F : SF} {L : Nat} {upd : List (Nm × SBlk)} {st : St} (h1 : UpdN L 0 [] (look F st.H) upd) (h2 : UpdAll L (keys upd) st.H) : PostD F L upd st := ⟨h1, h2⟩
end Go.Tx
end
