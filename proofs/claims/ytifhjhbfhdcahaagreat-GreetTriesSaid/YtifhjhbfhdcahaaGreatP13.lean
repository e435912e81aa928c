/- Lemmas for the walk: U45, GD1, GC33, GK90, GD33, GK72, GK73. -/
import Derived.Test.YtifhjhbfhdcahaaGreatP12
import Derived.Test.YtifhjhbfhdcahaaGreatP11
set_option linter.all false
section
namespace Go.Tx
open Go.Sx (lt_of_get)
def VT (C : Cx) (F0 : SF) (c : Code) (st : St) (Q : Exit → St → Prop) : Prop := ∀ (E0 : Env) (w0 : World), Dom0 C.L E0 → InvY C.ys E0 F0 w0 → HRel E0 F0 w0 → Tp C F0 E0 w0 st c (Qd C Q)
def hdC : Code → Code
 | .seq a _ => a
 | c => c
def tlC : Code → Code
 | .seq _ b => b
 | c => c
section
variable {C : Cx} {F0 : SF} {c : Code} {st : St} {Q : Exit → St → Prop}
theorem VT.of (hC : C.Ok) (h : vcC C F0 c st Q) : VT C F0 c st Q := fun _ _ hd hy hR => vcC_ok' hC hd hy hR c st Q h
theorem VT.sub {st' : St} (hs : Sub C.L F0 st st') (h : VT C F0 c st' Q) : VT C F0 c st Q := fun E0 w0 hd hy hR => (h E0 w0 hd hy hR).sub hd hs
theorem VT.cut (hC : C.Ok) (hc : c = .seq (hdC c) (tlC c)) {ι : Type} (I : ι → St) (pre : ι → Prop) (h1 : vcC C F0 (hdC c) st (thenQ (fun s => ∃ x, pre x ∧ Sub C.L F0 s (I x)) Q)) (h2 : ∀ x, pre x → VT C F0 (tlC c) (I x) Q) : VT C F0 c st Q := by
 intro E0 w0 hd hy hR
 rw [hc]
 refine Tp.seq ((vcC_ok' hC hd hy hR _ _ _ h1).mono ?_)
 intro e s hs
 rcases hs with hs | ⟨q1, rfl, q2⟩
 ·cases e with
  | normal =>
   obtain ⟨x, hx, hsub⟩ := hs
   exact (h2 x hx E0 w0 hd hy hR).sub hd hsub
  | _ => exact .inl hs
 ·exact .inr ⟨q1, rfl, q2⟩
theorem Con.bodyT (hC : C.Ok) (hro : C.ro = none) (hys : C.ys = []) {f : FuncId} {fn : Func} {c : Code} (hf : C.P.funcs[f]? = some fn) (hb : fn.body = some c) (hnum : (fn.name == "runtime.NumGoroutine") = false) {args : List PV} {F : SF} {L nx : Nat} (hL : C.L = L + 1) {v : PV} {upd : List (Nm × SBlk)} {rd : List Nm} (hrd : ∀ n ∈ rd, n.l ≤ L)
  (H : ∀ F3 : SF, (∀ n ∈ rd, F3 n = F n) → (∀ n : Nm, L < n.l → F3 n = none) → VT C F3 c ⟨initT args fn.ntmps, [], 0⟩ (PostF C.T F3 fn.results.toList L v upd)) (hdi : C.dies = false := by rfl) (hB : C.B = [] := by rfl) : Con C.P f args F L nx nx v upd rd := by
 refine ⟨Nat.le_refl _, fun F2 hF2 E w args' hR _ hdp hargs => ?_⟩
 let F3 : SF := fun n => if n.l ≤ L then F2 n else none
 have h3 : SLe F3 F2 := by
  intro n b hb
  simp only [F3] at hb
  split at hb
  ·exact .inr (.inl hb)
  ·cases hb
 have hS0 := StepR.less hR h3
 have hvc := H F3 (fun n hn => by simp only [F3]; rw [if_pos (hrd n hn)]; exact hF2 n hn) (fun n hn => by simp only [F3]; rw [if_neg (by omega)])
 have hdom : Dom0 C.L E := fun n hn => hdp n (by omega)
 have htp := (hvc E w hdom (by rw [hys]; exact InvY.nil) hS0.rel).mono fun e s hs => hs.resolve_right fun h => by rw [hdi] at h; cases h.1
 have hargs3 := VRl.mono hS0.ext _ _ hargs
 obtain ⟨hlen, hget⟩ := VRl.get hargs3
 have hrel : Rel C.B C.L F3 E w E ⟨initT args fn.ntmps, [], 0⟩ { tmps := args'.toArray ++ Array.replicate (fn.ntmps - args'.toArray.size) undef, defers := [] } w := by
  refine ⟨StepR.refl hS0.rel, ⟨by simp [initT, hlen], fun i x hx => ?_⟩, (by rw [hB]; exact MarksOk.nil), fun n h1 h2 => absurd h1 h2⟩
  simp only [TF, initT] at hx
  rw [List.getD_eq_getElem?_getD] at hx
  by_cases hi : i < args.length
  ·rw [List.getElem?_append_left (by simpa using hi)] at hx
   simp only [List.getElem?_map] at hx
   cases hy : args[i]? with
   | none => rw [hy] at hx; cases hx
   | some y =>
    rw [hy] at hx; simp at hx; subst hx
    obtain ⟨v', a1, a2⟩ := hget i y hy
    refine ⟨v', ?_, a2⟩
    rw [Array.getElem?_append_left (by simp; omega)]
    simpa using a1
  ·rw [List.getElem?_append_right (by simp; omega)] at hx
   simp only [List.length_map, List.getElem?_replicate] at hx
   split at hx
   rotate_left
   ·cases hx
   rename_i hlt
   simp at hx; subst hx
   refine ⟨undef, ?_, VR_undef⟩
   rw [Array.getElem?_append_right (by simp; omega)]
   simp only [List.size_toArray, Array.getElem?_replicate]
   rw [if_pos (by omega)]
 have hcall : Calls C.P f args'.toArray w fun e w' => ∃ v', e = .returned v' ∧ CGives E F2 w L nx nx v upd v' w' := by
  rw [← callsIn_wide (n := 0)]
  refine callsIn_of_wp_marks hf hb trivial ?_
  have hW : W C.ro = Fence.wide := by rw [hro]; rfl
  rw [← hW]
  refine wpIn_mono (htp _ _ E hrel) ?_
  rintro e a w1 ⟨st, hP, E', hRl1⟩
  obtain ⟨Ds, d1, d2, d3⟩ := hRl1.marks
  have key : LeavesInM (W C.ro) 0 C.P fn a.tmps (fun e w' => ∃ v', e = .returned v' ∧ CGives E F2 w L nx nx v upd v' w') a.defers .returning w1 := by
   rw [d2, hB]
   refine marks_out (by simp) Ds w1 d1 (fun D hD => ⟨(d3 D hD).1, (d3 D hD).2.2⟩) hRl1.step hRl1.tmps fun w' s1 s2 => ?_
   have hRl : Rel C.B C.L F3 E w E' st { tmps := a.tmps, defers := [] } w' := ⟨s1, s2, (by rw [hB]; exact MarksOk.nil), hRl1.news⟩
   obtain ⟨p, v0, q1, q2, q3, q4⟩ := hP.res
   obtain ⟨v', r1, r2⟩ := run_res hC.T hRl.step.rel hRl.tmps q1 q2
   let G := look F3 st.H
   let Fm : SF := fun n => if n.l ≤ L then G n else none
   have hm : SLe Fm G := by
    intro n b hb
    simp only [Fm] at hb
    split at hb
    ·exact .inr (.inl hb)
    ·cases hb
   have hSm := StepR.less hRl.step.rel hm
   let E2 : Env := fun n => if n.l ≤ L then E' n else none
   have hEE : ∀ n i, E n = some i → E' n = some i ∧ E2 n = some i := by
    intro n i hi
    have h1 := hRl.step.le n i hi
    have hl : n.l ≤ L := by
     rcases Nat.lt_or_ge L n.l with h | h
     ·rw [hdp n h] at hi; cases hi
     ·exact h
    exact ⟨h1, by simp only [E2]; rw [if_pos hl]; exact h1⟩
   have hE2 : ∀ n, E2 n ≠ none → n.l ≤ L ∧ E n = E2 n ∧ E' n = E2 n := by
    intro n hn
    have hl : n.l ≤ L := by
     rcases Nat.lt_or_ge L n.l with h | h
     ·simp only [E2] at hn; rw [if_neg (by omega)] at hn; exact absurd rfl hn
     ·exact h
    have e1 : E2 n = E' n := by simp only [E2]; rw [if_pos hl]
    refine ⟨hl, ?_, e1.symm⟩
    cases he : E n with
    | none =>
     have := (hRl.news n he (by rw [← e1]; exact hn)).1
     omega
    | some i => rw [(hEE n i he).2]
   let F' := F2.upd upd
   have hF' : ∀ n b, F' n = some b → b.live = true → n.l ≤ L ∧ ((n ∈ keys upd ∧ BW L G (G n) b) ∨ (n ∉ keys upd ∧ F2 n = some b ∧ G n = some b)) := by
    intro n b hn hl
    have hn' : setAll F2 upd n = some b := by rw [← upd_eq]; exact hn
    by_cases hk : n ∈ keys upd
    ·rcases setAll_get upd F2 n with h | ⟨u, h1, h2⟩
     ·-- the key is written
      have gen : ∀ (x : List (Nm × SBlk)) (f : SF), n ∈ keys x → ∃ u, (n, u) ∈ x ∧ setAll f x n = some u := by
       intro x
       induction x with
       | nil => intro f h; cases h
       | cons a x ih =>
        intro f h
        obtain ⟨m, u⟩ := a
        simp only [setAll]
        by_cases hx : n ∈ keys x
        ·obtain ⟨u', q1, q2⟩ := ih (fun q => if q = m then some u else f q) hx
         exact ⟨u', by simp [q1], q2⟩
        ·simp only [keys, List.map_cons, List.mem_cons] at h
         rcases h with h | h
         ·subst h; exact ⟨u, by simp, by rw [setAll_not hx]; simp⟩
         ·exact absurd h hx
      obtain ⟨u, u1, u2⟩ := gen upd F2 hk
      rw [hn'] at u2; injection u2 with u2; subst u2
      obtain ⟨c1, c2⟩ := hP.ok.mem u1
      exact ⟨c1, .inl ⟨hk, c2⟩⟩
     ·rw [hn'] at h2; injection h2 with h2; subst h2
      obtain ⟨c1, c2⟩ := hP.ok.mem h1
      exact ⟨c1, .inl ⟨hk, c2⟩⟩
    ·rw [setAll_not hk] at hn'
     obtain ⟨i, hi⟩ := (hR.blk n b hn').def_ hl
     have hll : n.l ≤ L := by
      rcases Nat.lt_or_ge L n.l with h | h
      ·rw [hdp n h] at hi; cases hi
      ·exact h
     refine ⟨hll, .inr ⟨hk, hn', ?_⟩⟩
     show look F3 st.H n = some b
     rw [hP.all.look hll hk]
     simp only [F3]; rw [if_pos hll]; exact hn'
   have hBlive : ∀ {n : Nm} {b : SBlk}, BW L G (G n) b → b.live = true → ∃ b0, G n = some b0 ∧ b0.live = true ∧ (b.own = true → b0.own = true) := by
    intro n b hb hl
    cases hg : G n with
    | none => rw [hg] at hb; cases b <;> first | exact (show False from hb).elim | (cases hl; done)
    | some b0 =>
     rw [hg] at hb
     refine ⟨b0, rfl, ?_⟩
     cases b0 <;> cases b <;> first | exact (show False from hb).elim | (cases hl; done) | skip
     ·exact ⟨rfl, hb.2.2.1⟩
     ·exact ⟨rfl, hb.1⟩
   have hFm : ∀ n b, F' n = some b → b.live = true → n.l ≤ L ∧ ∃ b0, Fm n = some b0 ∧ G n = some b0 ∧ b0.live = true ∧ (b.own = true → b0.own = true) := by
    intro n b hn hl
    obtain ⟨h1, h2⟩ := hF' n b hn hl
    refine ⟨h1, ?_⟩
    have e : Fm n = G n := by simp only [Fm]; rw [if_pos h1]
    rw [e]
    rcases h2 with ⟨_, h2⟩ | ⟨_, _, h2⟩
    ·obtain ⟨b0, c1, c2, c3⟩ := hBlive h2 hl
     exact ⟨b0, c1, c1, c2, c3⟩
    ·exact ⟨b, h2, h2, hl, id⟩
   have hzone : ∀ k, Zn E' Fm w' k → Zn E2 F' w' k := by
    rintro k ⟨k1, k2⟩
    refine ⟨k1, fun n b i hn ho hi hz he => ?_⟩
    obtain ⟨h1, b0, c1, _, _, c3⟩ := hFm n b hn (live_of_own ho)
    have e := (hE2 n (by rw [hi]; simp)).2.2
    exact k2 n b0 i c1 (c3 ho) (by rw [e]; exact hi) hz he
   have hzone' : ∀ k, Zn E' G w' k → Zn E2 F' w' k := fun k hk => hzone k (hSm.ext.zone k hk)
   have hEx : Ext Env.no w' (Zn E' Fm w') Env.no w' (Zn E2 F' w') := ⟨Env.le.refl _, hzone, fun _ _ => rfl⟩
   have hwk : ∀ (x y : PV) (u : Value), Wk G x y → (∀ n ∈ wkN x y, n.l = L + 1) → Tx.nf y = true → VR w' (Zn E' G w') E' x u → VR w' (Zn E2 F' w') Env.no y u := by
    intro x y u h1 h2 h3 h4
    have := wk_vr hRl.step.rel hm x y u h1 (fun n hn b hb => by
     have := h2 n hn
     simp only [Fm] at hb
     rw [if_neg (by omega)] at hb; cases hb) h4
    exact VR.mono hEx _ _ (VR.nf y u h3 this)
   have hback : ∀ n b, F2 n = some b → G n = some b → b.live = true → BRel E2 w' (Zn E2 F' w') n b := by
    intro n b h1 h2 hl
    have := BRel.back hEE (hR.blk n b h1) (hRl.step.rel.blk n b h2)
    exact this.mono ⟨Env.le.refl _, hzone', fun _ _ => rfl⟩ fun _ _ _ => rfl
   have hrelF : HRel E2 F' w' := by
    refine ⟨fun n b hn => ?_, fun n m b d i j hn hm' hnm ho hl hi hj hin hjn => ?_⟩
    ·by_cases hl : b.live = true
     rotate_left
     ·cases b with
      | dead => trivial
      | rows => exact absurd rfl hl
      | map => exact absurd rfl hl
      | cap mm kk =>
       have hn' : setAll F2 upd n = some (.cap mm kk) := by rw [← upd_eq]; exact hn
       rcases setAll_get upd F2 n with h9 | ⟨u9, h9, h10⟩
       ·rw [hn'] at h9
        obtain ⟨i9, hi9, hz9⟩ := hR.blk n _ h9.symm
        exact ⟨i9, (hEE mm i9 hi9).2, hz9⟩
       ·rw [hn'] at h10; injection h10 with h10; subst h10
        have h11 : BW L G (G n) (.cap mm kk) := (hP.ok.mem h9).2
        cases hg9 : G n with
        | none => rw [hg9] at h11; exact (show False from h11).elim
        | some b0 => rw [hg9] at h11; cases b0 <;> exact (show False from h11).elim
     obtain ⟨h1, h2⟩ := hF' n b hn hl
     rcases h2 with ⟨hk, h2⟩ | ⟨hk, h2, h3⟩
     rotate_left
     ·exact hback n b h2 h3 hl
     have h2' := h2
     obtain ⟨b0, g1, g2, g3⟩ := hBlive h2 hl
     have hb0 := hRl.step.rel.blk n b0 g1
     have eE : E2 n = E' n := by simp only [E2]; rw [if_pos h1]
     rw [g1] at h2
     cases b0 <;> cases b <;> first | exact (show False from h2).elim | (cases hl; done) | skip
     ·rename_i e wd o p rs e' wd' o' p' rs'
      obtain ⟨rfl, rfl, ho, rfl, hrs⟩ := h2
      obtain ⟨i, hi, hor⟩ := hb0
      refine ⟨i, by rw [eE]; exact hi, ?_⟩
      rcases hor with ⟨z1, rfl, z3, z4⟩ | ⟨hz, hRr⟩
      ·refine .inl ⟨z1, ?_, z3, z4⟩
       rcases hrs with ⟨_, rfl⟩ | ⟨hrs, _, _⟩
       ·rfl
       ·cases rs' with
        | nil => rfl
        | cons a l => simp [WkLL] at hrs
      ·refine .inr ⟨hz, ?_⟩
       obtain ⟨cs, fz, b1, b2, b3, b4⟩ := hRr.cells
       rcases hrs with ⟨rfl, rfl⟩ | ⟨hrs, hns, hnf⟩
       ·exact ⟨hRr.wd_eq, hRr.o0, hRr.wd_pos, hRr.len, hRr.le, hRr.cap, cs, fz, b1, b2, fun h => b3 (ho h), VRr.mono ⟨Env.le.refl _, hzone', fun _ _ => rfl⟩ _ _ _ b4⟩
       ·obtain ⟨l1, l2⟩ := wkLL_get hrs
        have hlen' : ∀ row ∈ rs', row.length = wd := by
         intro row hrow
         obtain ⟨r, hr⟩ := List.getElem?_of_mem hrow
         have hlt := lt_of_get hr
         have hr0 := List.getElem?_eq_getElem (l := rs) (i := r) (by omega)
         obtain ⟨k1, _⟩ := l2 r _ row hr0 hr
         rw [← (wkL_get k1).1]
         exact hRr.len _ (List.mem_of_getElem? hr0)
        refine ⟨hRr.wd_eq, hRr.o0, hRr.wd_pos, hlen', by rw [← l1]; exact hRr.le, hRr.cap, cs, fz, b1, b2, fun h => b3 (ho h), (VRr_iff hlen').2 fun r row' c y hr' hc' => ?_⟩
        have hlt := lt_of_get hr'
        have hr0 := List.getElem?_eq_getElem (l := rs) (i := r) (by omega)
        obtain ⟨k1, k2⟩ := l2 r _ row' hr0 hr'
        obtain ⟨k3, k4⟩ := wkL_get k1
        have hct := lt_of_get hc'
        have hc0 := List.getElem?_eq_getElem (l := rs[r]) (i := c) (by omega)
        obtain ⟨k5, k6⟩ := k4 c _ y hc0 hc'
        obtain ⟨u, a1, a2, a3⟩ := (VRr_iff hRr.len).1 b4 r _ c _ hr0 hc0
        rw [List.all_eq_true] at hnf
        exact ⟨u, a1, a2, hwk _ y u k5 (fun n hn => hns n (k2 n (k6 n hn))) (nfl_get (hnf row' (List.mem_of_getElem? hr')) y (List.mem_of_getElem? hc')) (VR.up a3)⟩
     ·rename_i o p ks vs o' p' ks' vs'
      obtain ⟨ho, rfl, rfl, rfl, rfl⟩ := h2
      obtain ⟨i, hi, hz, ents, clk, hb, hmr⟩ := hb0
      have hX0 : Ext Env.no w' (Zn E' G w') Env.no w' (Zn E2 F' w') := ⟨Env.le.refl _, hzone', fun _ _ => rfl⟩
      exact ⟨i, by rw [eE]; exact hi, hz, ents, clk, hb, VRl.mono hX0 _ _ hmr.1, VRl.mono hX0 _ _ hmr.2⟩
    ·obtain ⟨_, b0, _, c1, _, c3⟩ := hFm n b hn (live_of_own ho)
     obtain ⟨_, d0, _, d1, d2, _⟩ := hFm m d hm' hl
     have e1 := (hE2 n (by rw [hi]; simp)).2.2
     have e2 := (hE2 m (by rw [hj]; simp)).2.2
     exact hRl.step.rel.sep n m b0 d0 i j c1 d1 hnm (c3 ho) d2 (by rw [e1]; exact hi) (by rw [e2]; exact hj) hin hjn
   have hstep : StepR E F2 w E2 F' w' := by
    refine ⟨fun n i hi => (hEE n i hi).2, hrelF, hRl.step.os, hRl.step.tape, hRl.step.output, hRl.step.size, fun k hk hno => ?_, fun n b i hn ho hi hin => ?_⟩
    ·refine hRl.step.keep k hk fun n b i hn ho hi hin => hno n b i (h3.own hn ho) ho hi hin
    ·obtain ⟨_, b0, _, c1, _, c3⟩ := hFm n b hn (live_of_own ho)
     have e1 := (hE2 n (by rw [hi]; simp)).2.2
     rcases hRl.step.own n b0 i c1 (c3 ho) (by rw [e1]; exact hi) hin with h | ⟨m, d, j, m1, m2, m3, m4, m5⟩
     ·exact .inl h
     ·exact .inr ⟨m, d, j, h3.own m1 m2, m2, m3, m4, m5⟩
   have hres : CGives E F2 w L nx nx v upd v' w' := by
    refine ⟨E2, ?_, hstep, fun n h1 h2 => ?_⟩
    ·exact VR.mono ⟨Env.no_le _, fun _ h => h, fun _ _ => rfl⟩ _ _ (hwk v0 v v' q3 q4 hP.nf r2)
    ·have := (hE2 n h2).2.1; rw [h1] at this; exact absurd this.symm h2
   exact ⟨v', r1, v', rfl, hres⟩
  rcases hP.e with rfl | rfl
  ·exact key
  ·exact key
 have hrun : (callFunc f args'.toArray).run C.P w = .ok (.enter f args'.toArray) w := callFunc_run hf (by rw [hb]; rfl) hnum
 rw [hrun]
 exact hcall
theorem ICon.bodyNT (hC : C.Ok) (hro : C.ro = none) {f : FuncId} {fn : Func} {c : Code} (hf : C.P.funcs[f]? = some fn) (hb : fn.body = some c) (hnum : (fn.name == "runtime.NumGoroutine") = false) {args : List PV} {F : SF} {L nx k : Nat} (hL : C.L = L + 1) {v : PV} {upd : List (Nm × SBlk)} {rd : List Nm} (hrd : ∀ n ∈ rd, n.l ≤ L)
  (H : ∀ F3 : SF, (∀ n ∈ rd, F3 n = F n) → (∀ n : Nm, L < n.l → F3 n = none) → VT C F3 c ⟨initT args fn.ntmps, [], 0⟩ (PostS C.T F3 fn.results.toList L nx v upd k)) (hdi : C.dies = false := by rfl) (hB : C.B = [] := by rfl) : ICon C.P C.ys f args F L nx (nx + k) v upd rd := by
 refine ⟨by omega, fun F2 hF2 E w args' hR hfr hdp hargs hy => ?_⟩
 let F3 : SF := cutF L F2
 have h3 : SLe F3 F2 := cutF_le L F2
 have hS0 := StepR.less hR h3
 have hvc := H F3 (fun n hn => by simp only [F3, cutF]; rw [if_pos (hrd n hn)]; exact hF2 n hn) (fun n hn => by simp only [F3, cutF]; rw [if_neg (by omega)])
 have hdom : Dom0 C.L E := fun n hn => hdp n (by omega)
 have htp := (hvc E w hdom (hy.step hR hS0) hS0.rel).mono fun e s hs => hs.resolve_right fun h => by rw [hdi] at h; cases h.1
 have hargs3 := VRl.mono hS0.ext _ _ hargs
 obtain ⟨hlen, hget⟩ := VRl.get hargs3
 have hrel : Rel C.B C.L F3 E w E ⟨initT args fn.ntmps, [], 0⟩ { tmps := args'.toArray ++ Array.replicate (fn.ntmps - args'.toArray.size) undef, defers := [] } w := by
  refine ⟨StepR.refl hS0.rel, ⟨by simp [initT, hlen], fun i x hx => ?_⟩, (by rw [hB]; exact MarksOk.nil), fun n h1 h2 => absurd h1 h2⟩
  simp only [TF, initT] at hx
  rw [List.getD_eq_getElem?_getD] at hx
  by_cases hi : i < args.length
  ·rw [List.getElem?_append_left (by simpa using hi)] at hx
   simp only [List.getElem?_map] at hx
   cases hy : args[i]? with
   | none => rw [hy] at hx; cases hx
   | some y =>
    rw [hy] at hx; simp at hx; subst hx
    obtain ⟨v', a1, a2⟩ := hget i y hy
    refine ⟨v', ?_, a2⟩
    rw [Array.getElem?_append_left (by simp; omega)]
    simpa using a1
  ·rw [List.getElem?_append_right (by simp; omega)] at hx
   simp only [List.length_map, List.getElem?_replicate] at hx
   split at hx
   rotate_left
   ·cases hx
   rename_i hlt
   simp at hx; subst hx
   refine ⟨undef, ?_, VR_undef⟩
   rw [Array.getElem?_append_right (by simp; omega)]
   simp only [List.size_toArray, Array.getElem?_replicate]
   rw [if_pos (by omega)]
 have hcall : Calls C.P f args'.toArray w fun e w' => ∃ v', e = .returned v' ∧ CGives E F2 w L nx (nx + k) v upd v' w' := by
  rw [← callsIn_wide (n := 0)]
  refine callsIn_of_wp_marks hf hb trivial ?_
  have hW : W C.ro = Fence.wide := by rw [hro]; rfl
  rw [← hW]
  refine wpIn_mono (htp _ _ E hrel) ?_
  rintro e a w' ⟨st0, ⟨st, hsub, hP⟩, E0', hRl0⟩
  rw [← hL] at hsub
  obtain ⟨E', hRl⟩ := hsub C.B E w E0' a w' hdom hRl0
  obtain ⟨Ds, d1, d2, d3⟩ := hRl.marks
  have key : LeavesInM (W C.ro) 0 C.P fn a.tmps (fun e w' => ∃ v', e = .returned v' ∧ CGives E F2 w L nx (nx + k) v upd v' w') a.defers .returning w' := by
   rw [d2, hB]
   refine marks_out (by simp) Ds w' d1 (fun D hD => ⟨(d3 D hD).1, (d3 D hD).2.2⟩) hRl.step hRl.tmps fun w'' s1 s2 => ?_
   obtain ⟨news, p, v0, v1, hk, hnd, q1, q2, q3, q4, q5, rfl, hok⟩ := hP.res
   obtain ⟨v', r1, r2⟩ := run_res hC.T s1.rel s2 q1 q2
   exact ⟨v', r1, v', rfl, cgives_of hR hfr hdp s1 (fun n h1 h2 => by have := (hRl.news n h1 h2).1; omega) hk hnd q3 q4 q5 hok hP.all r2⟩
  rcases hP.e with rfl | rfl
  ·exact key
  ·exact key
 have hrun : (callFunc f args'.toArray).run C.P w = .ok (.enter f args'.toArray) w := callFunc_run hf (by rw [hb]; rfl) hnum
 rw [hrun]
 exact hcall
theorem Con.bodyNT (hC : C.Ok) (hro : C.ro = none) (hys : C.ys = []) {f : FuncId} {fn : Func} {c : Code} (hf : C.P.funcs[f]? = some fn) (hb : fn.body = some c) (hnum : (fn.name == "runtime.NumGoroutine") = false) {args : List PV} {F : SF} {L nx k : Nat} (hL : C.L = L + 1) {v : PV} {upd : List (Nm × SBlk)} {rd : List Nm} (hrd : ∀ n ∈ rd, n.l ≤ L)
  (H : ∀ F3 : SF, (∀ n ∈ rd, F3 n = F n) → (∀ n : Nm, L < n.l → F3 n = none) → VT C F3 c ⟨initT args fn.ntmps, [], 0⟩ (PostS C.T F3 fn.results.toList L nx v upd k)) (hdi : C.dies = false := by rfl) (hB : C.B = [] := by rfl) : Con C.P f args F L nx (nx + k) v upd rd := by
 have h := ICon.bodyNT hC hro hf hb hnum hL (nx := nx) hrd H hdi hB
 rw [hys] at h
 exact h.con
end
end Go.Tx
end
section
namespace Go.Proofs.YtifhjhbfhdcahaaGreat
open Go.Tx
set_option maxRecDepth 100000
set_option maxHeartbeats 16000000
theorem PsOk.without {inn : List Int} {ps : List Dat} (h : PsOk inn ps) (p : Dat → Bool) : PsOk inn (withoutG ps p) where
 len := Nat.le_trans (List.length_filter_le _ _) h.len
 all := fun d hd => h.all d (List.mem_filter.1 hd).1
 nodup := List.Nodup.sublist (List.Sublist.map _ List.filter_sublist) h.nodup
theorem PsOk.next {inn : List Int} {ps : List Dat} (h : PsOk inn ps) (st sq : Int) (hst : 0 ≤ st) : PsOk (nextI inn st sq) (nextP inn ps st sq) := by
 have hw := h.without (oldB (nextI inn st sq) st)
 refine ⟨hw.len, fun d hd => ?_, hw.nodup⟩
 have hm := List.mem_filter.1 hd
 obtain ⟨a1, a2, a3⟩ := partOk_ok (h.all d hm.1)
 have hb := Dat.ok_bounds a1
 unfold partOk
 rw [a1, nextI_len]
 simp only [Bool.true_and, Bool.and_eq_true, decide_eq_true_eq, Bool.or_eq_true]
 refine ⟨a2, ?_⟩
 by_cases hs : d.st = st
 ·have := hm.2
  simp only [oldB, hs, beq_self_eq_true, Bool.true_and, Bool.not_eq_true', Bool.and_eq_false_iff, Bool.not_eq_false', decide_eq_false_iff_not] at this
  rcases this with h | h
  ·exact .inl h
  ·right; rw [hs]; omega
 ·rcases a3 with h | h
  ·exact .inl h
  ·right
   have : (nextI inn st sq).getD d.st.toNat 0 = inn.getD d.st.toNat 0 := by
    unfold nextI
    rw [List.getD_eq_getElem?_getD, List.getElem?_set_ne (by omega), ← List.getD_eq_getElem?_getD]
   rw [this]; exact h
theorem Str0.inn {out inn inn2 asked : List Int} {num seen : Int} (h : Str0 out inn num seen asked) (hl : inn2.length = inn.length) (hi : inn2.all (serB 16) = true) : Str0 out inn2 num seen asked :=
 ⟨h.o1, h.o2, h.o3, by rw [hl]; exact h.i1, by rw [hl]; exact h.i2, hi, h.n, h.s, h.a, h.a2⟩
theorem okS {a : List Oper} {b : Nat} (h : okStatic a b = true) : okStatic a b = true := h
theorem gTime_ok {F : SF} {L nx : Nat} (t : Int) : Con Tryz.prog 51 [.int .i64 t] F L nx nx (.bool (timB t)) [] [] := by
 unfold timB
 refine bdy Tryz.f51 ?_
 intro F3 hF1 hF2
 cases h1 : decide (0 ≤ t)
 ·have f1 : decide (t ≥ 0) = false := h1
  simp only [Tryz.f51, cx, h1, Bool.false_and, go_sem, meths]
  exact .bool (.inr rfl) rfl rfl (by simp [UpdAll])
 ·have f1 : decide (t ≥ 0) = true := h1
  simp only [Tryz.f51, cx, h1, Bool.true_and, go_sem, meths]
  exact .bool (.inr rfl) rfl rfl (by simp [UpdAll])
theorem gPlain_ok {F : SF} {L nx : Nat} (d : Ini) : Con Tryz.prog 50 [.agg d.row] F L nx nx (.bool (plainB d)) [] [] := by
 have hp := fun F L nx => putInit_ok (F := F) (L := L) (nx := nx) d
 unfold plainB
 refine bdy Tryz.f50 ?_
 intro F3 hF1 hF2
 simp only [Ini.row] at hp ⊢
 cases hd : d.ok
 ·rw [hd, if_neg (by simp)] at hp
  simp only [Tryz.f50, cx, Bool.false_and, go_sem, meths]
  refine CallVC.same (hp _ _ _) ?_
  have e1 : ((320 : Int) == 0) = false := rfl
  simp only [e1, go_sem]
  exact .bool (.inr rfl) rfl rfl (by simp [UpdAll])
 ·rw [hd, if_pos rfl] at hp
  simp only [Tryz.f50, cx, Bool.true_and, go_sem, meths]
  refine CallVC.same (hp _ _ _) ?_
  have e1 : ((0 : Int) == 0) = true := rfl
  simp only [e1, go_sem]
  exact .bool (.inr rfl) rfl rfl (by simp [UpdAll])
theorem Gx.hd_iff (g : Gx) : g.hd = true ↔ 0 ≤ g.fr ∧ g.fr ≤ 65535 ∧ 0 ≤ g.tt ∧ g.tt ≤ 65535 ∧ g.sec.length = 32 ∧ plainB g.own = true ∧ timB g.ta = true := by
 unfold Gx.hd
 simp only [Bool.and_eq_true, decide_eq_true_eq, and_assoc]
theorem Gx.bad {g : Gx} (h : g.hd = true → False) : g.ok = false := by
 unfold Gx.ok
 cases h1 : g.hd
 ·rfl
 ·exact (h h1).elim
theorem zIni_eq (d : Ini) : (decide (d.tag = 0) && (decide (d.win = 0) && (decide (d.out = 0) && (decide (d.inn = 0) && (decide (d.tsn = 0) && d.ck == []))))) = (d == zIni) := by
 obtain ⟨a, b, c, e, f, k⟩ := d
 rw [Bool.eq_iff_iff]
 simp [zIni]
theorem gCheck_ok {F : SF} {L nx : Nat} (g : Gx) : Con Tryz.prog 28 [.agg g.row] F L nx nx (.int .i64 (if g.ok then 0 else 330)) [] [] := by
 have hO := fun F L nx => gPlain_ok (F := F) (L := L) (nx := nx) g.own
 have hP := fun F L nx => gPlain_ok (F := F) (L := L) (nx := nx) g.peer
 have hTa := fun F L nx => gTime_ok (F := F) (L := L) (nx := nx) g.ta
 simp only [Ini.row] at hO hP
 refine Con.bodyT (cxOk (L + 1)) rfl rfl (fn := Tryz.f28) (c := Tryz.f28.body.getD .skip) (by kernel_rfl) (by rfl) (by kernel_rfl) rfl (by simp) ?_
 intro F3 hF1 hF2
 refine VT.cut (cxOk (L + 1)) (by kernel_rfl) (fun _ : Unit => ⟨[none, some (.ptr ⟨L + 1, 0⟩ 0 0), some (.int .i64 0)] ++ oz 134, [(⟨L + 1, 0⟩, .rows 28 20 true true [g.row])], 10000⟩) (fun _ => True) ?_ ?_
 ·simp only [Tryz.f28, hdC, Option.getD_some, cx, Gx.row, go_sem, meths]
  repeat refine sd2 ?_
  refine ⟨(), Sub.of (hfz hF2) (by simp only [go_sem, subT, and_self]; try trivial) (by simp [subH, Tx.look]) (by simp [subK, keys]) (by simp)⟩
 intro _ _
 refine VT.cut (cxOk (L + 1)) (by kernel_rfl) (fun _ : Unit => ⟨[none, some (.ptr ⟨L + 1, 0⟩ 0 0), some (.int .i64 0)] ++ oz 134, [(⟨L + 1, 0⟩, .rows 28 20 true true [g.row])], 20000⟩) (fun _ => g.hd = true) ?_ ?_
 ·rw [Gx.hd_iff]
  by_cases a0 : g.fr < 0
  ·have hb : g.ok = false := Gx.bad fun h => by rw [Gx.hd_iff] at h; have := h.1; omega
   have a0t0 : decide (g.fr < 0) = true := dT (by omega)
   simp only [Tryz.f28, hdC, tlC, Option.getD_some, cx, Gx.row, a0t0, go_sem, meths]
   repeat refine sd2 ?_
   exact PostF.same (p := True) (.inr rfl) (by simp only [hb, resVal, resVals, resVal1, one, Bool.false_eq_true, if_false, go_sem]) trivial (by simp only [Tx.nf]) (by simp [UpdAll])
  have a0f0 : decide (g.fr < 0) = false := dF (by omega)
  by_cases a1 : g.fr > 65535
  ·have hb : g.ok = false := Gx.bad fun h => by rw [Gx.hd_iff] at h; have := h.2.1; omega
   have a1t0 : decide (g.fr > 65535) = true := dT (by omega)
   have a1t1 : decide (65535 < g.fr) = true := dT (by omega)
   simp only [Tryz.f28, hdC, tlC, Option.getD_some, cx, Gx.row, a0f0, a1t0, go_sem, meths]
   repeat refine sd2 ?_
   exact PostF.same (p := True) (.inr rfl) (by simp only [hb, resVal, resVals, resVal1, one, Bool.false_eq_true, if_false, go_sem]) trivial (by simp only [Tx.nf]) (by simp [UpdAll])
  have a1f0 : decide (g.fr > 65535) = false := dF (by omega)
  have a1f1 : decide (65535 < g.fr) = false := dF (by omega)
  by_cases a2 : g.tt < 0
  ·have hb : g.ok = false := Gx.bad fun h => by rw [Gx.hd_iff] at h; have := h.2.2.1; omega
   have a2t0 : decide (g.tt < 0) = true := dT (by omega)
   simp only [Tryz.f28, hdC, tlC, Option.getD_some, cx, Gx.row, a0f0, a1f0, a2t0, go_sem, meths]
   repeat refine sd2 ?_
   exact PostF.same (p := True) (.inr rfl) (by simp only [hb, resVal, resVals, resVal1, one, Bool.false_eq_true, if_false, go_sem]) trivial (by simp only [Tx.nf]) (by simp [UpdAll])
  have a2f0 : decide (g.tt < 0) = false := dF (by omega)
  by_cases a3 : g.tt > 65535
  ·have hb : g.ok = false := Gx.bad fun h => by rw [Gx.hd_iff] at h; have := h.2.2.2.1; omega
   have a3t0 : decide (g.tt > 65535) = true := dT (by omega)
   have a3t1 : decide (65535 < g.tt) = true := dT (by omega)
   simp only [Tryz.f28, hdC, tlC, Option.getD_some, cx, Gx.row, a0f0, a1f0, a2f0, a3t0, go_sem, meths]
   repeat refine sd2 ?_
   exact PostF.same (p := True) (.inr rfl) (by simp only [hb, resVal, resVals, resVal1, one, Bool.false_eq_true, if_false, go_sem]) trivial (by simp only [Tx.nf]) (by simp [UpdAll])
  have a3f0 : decide (g.tt > 65535) = false := dF (by omega)
  have a3f1 : decide (65535 < g.tt) = false := dF (by omega)
  by_cases a4 : g.sec.length = 32
  rotate_left
  ·have hb : g.ok = false := Gx.bad fun h => by rw [Gx.hd_iff] at h; exact a4 h.2.2.2.2.1
   have a4t : (((g.sec.length : Nat) : Int) != 32) = true := by simp; omega
   simp only [Tryz.f28, hdC, tlC, Option.getD_some, cx, Gx.row, a0f0, a1f0, a2f0, a3f0, a4t, go_sem, meths]
   repeat refine sd2 ?_
   exact PostF.same (p := True) (.inr rfl) (by simp only [hb, resVal, resVals, resVal1, one, Bool.false_eq_true, if_false, go_sem]) trivial (by simp only [Tx.nf]) (by simp [UpdAll])
  have a4f : (((g.sec.length : Nat) : Int) != 32) = false := by simp; omega
  cases a5 : plainB g.own
  ·have hb : g.ok = false := Gx.bad fun h => by rw [Gx.hd_iff, a5] at h; simp at h
   rw [a5] at hO
   simp only [Tryz.f28, hdC, tlC, Option.getD_some, cx, Gx.row, a0f0, a1f0, a2f0, a3f0, a4f, go_sem, meths]
   repeat refine sd2 ?_
   refine CallVC.same (hO _ _ _) ?_
   simp only [go_sem]
   repeat refine sd2 ?_
   exact PostF.same (p := True) (.inr rfl) (by simp only [hb, resVal, resVals, resVal1, one, Bool.false_eq_true, if_false, go_sem]) trivial (by simp only [Tx.nf]) (by simp [UpdAll])
  rw [a5] at hO
  cases a6 : timB g.ta
  ·have hb : g.ok = false := Gx.bad fun h => by rw [Gx.hd_iff, a6] at h; simp at h
   rw [a6] at hTa
   simp only [Tryz.f28, hdC, tlC, Option.getD_some, cx, Gx.row, a0f0, a1f0, a2f0, a3f0, a4f, go_sem, meths]
   repeat refine sd2 ?_
   refine CallVC.same (hO _ _ _) ?_
   simp only [go_sem]
   repeat refine sd2 ?_
   refine CallVC.same (hTa _ _ _) ?_
   simp only [go_sem]
   repeat refine sd2 ?_
   exact PostF.same (p := True) (.inr rfl) (by simp only [hb, resVal, resVals, resVal1, one, Bool.false_eq_true, if_false, go_sem]) trivial (by simp only [Tx.nf]) (by simp [UpdAll])
  rw [a6] at hTa
  simp only [Tryz.f28, hdC, tlC, Option.getD_some, cx, Gx.row, a0f0, a1f0, a2f0, a3f0, a4f, go_sem, meths]
  repeat refine sd2 ?_
  refine CallVC.same (hO _ _ _) ?_
  simp only [go_sem]
  repeat refine sd2 ?_
  refine CallVC.same (hTa _ _ _) ?_
  simp only [go_sem]
  repeat refine sd2 ?_
  refine ⟨(), ⟨by omega, by omega, by omega, by omega, a4⟩, Sub.of (hfz hF2) (by simp only [go_sem, subT, and_self]; try trivial) (by simp [subH, Tx.look]) (by simp [subK, keys]) (by simp)⟩
 intro _ hhd
 clear hO hTa
 have hc : ∀ (a b : Int), (a == b) = decide (a = b) := fun a b => rfl
 refine VT.cut (cxOk (L + 1)) (by kernel_rfl) (fun _ : Unit => ⟨[none, some (.ptr ⟨L + 1, 0⟩ 0 0), some (.int .i64 0), some (.bool (g.peer == zIni)), some (.bool (plainB g.peer))] ++ oz 132, [(⟨L + 1, 0⟩, .rows 28 20 true true [g.row])], 30000⟩) (fun _ => True) ?_ ?_
 ·simp only [Tryz.f28, hdC, tlC, Option.getD_some, cx, Gx.row, go_sem, meths]
  repeat refine sd2 ?_
  refine CallVC.same (hP _ _ _) ?_
  have hz := zIni_eq g.peer
  simp only [hc, hz, go_sem]
  repeat refine sd1 ?_
  refine ⟨(), Sub.of (hfz hF2) (by simp only [go_sem, subT, and_self]; try trivial) (by simp [subH, Tx.look]) (by simp [subK, keys]) (by simp)⟩
 intro _ _
 clear hP
 refine VT.cut (cxOk (L + 1)) (by kernel_rfl) (fun _ : Unit => ⟨[none, some (.ptr ⟨L + 1, 0⟩ 0 0), some (.int .i64 0), some (.bool (g.peer == zIni)), some (.bool (plainB g.peer)), some (.bool g.rest)] ++ oz 131, [(⟨L + 1, 0⟩, .rows 28 20 true true [g.row])], 40000⟩) (fun _ => True) ?_ ?_
 ·cases e1 : (g.due == -1)
  ·have hr : g.rest = false := by unfold Gx.rest; rw [e1]; rfl
   rw [hr]
   simp only [Tryz.f28, hdC, tlC, Option.getD_some, cx, Gx.row, e1, go_sem, meths]
   repeat refine sd2 ?_
   refine ⟨(), Sub.of (hfz hF2) (by simp only [go_sem, subT, and_self]; try trivial) (by simp [subH, Tx.look]) (by simp [subK, keys]) (by simp)⟩
  ·have hr : g.rest = (g.tr == 0) := by unfold Gx.rest; rw [e1]; rfl
   rw [hr]
   simp only [Tryz.f28, hdC, tlC, Option.getD_some, cx, Gx.row, e1, go_sem, meths]
   repeat refine sd2 ?_
   refine ⟨(), Sub.of (hfz hF2) (by simp only [go_sem, subT, and_self]; try trivial) (by simp [subH, Tx.look]) (by simp [subK, keys]) (by simp)⟩
 intro _ _
 refine VT.cut (cxOk (L + 1)) (by kernel_rfl) (fun _ : Unit => ⟨[none, some (.ptr ⟨L + 1, 0⟩ 0 0), some (.int .i64 0), some (.bool (g.peer == zIni)), some (.bool (plainB g.peer)), some (.bool g.rest), some (.bool g.tries)] ++ oz 130, [(⟨L + 1, 0⟩, .rows 28 20 true true [g.row])], 50000⟩) (fun _ => True) ?_ ?_
 ·by_cases b0 : 0 ≤ g.due
  rotate_left
  ·have hr : g.tries = false := by
    cases h : g.tries
    ·rfl
    ·unfold Gx.tries at h; simp only [Bool.and_eq_true, decide_eq_true_eq] at h; omega
   rw [hr]
   have b0f0 : decide (0 ≤ g.due) = false := dF (by omega)
   have b0f1 : decide (g.due ≥ 0) = false := dF (by omega)
   simp only [Tryz.f28, hdC, tlC, Option.getD_some, cx, Gx.row, b0f0, go_sem, meths]
   repeat refine sd2 ?_
   refine ⟨(), Sub.of (hfz hF2) (by simp only [go_sem, subT, and_self]; try trivial) (by simp [subH, Tx.look]) (by simp [subK, keys]) (by simp)⟩
  have b0t0 : decide (0 ≤ g.due) = true := dT (by omega)
  have b0t1 : decide (g.due ≥ 0) = true := dT (by omega)
  by_cases b1 : g.due ≤ 1099511634176
  rotate_left
  ·have hr : g.tries = false := by
    cases h : g.tries
    ·rfl
    ·unfold Gx.tries at h; simp only [Bool.and_eq_true, decide_eq_true_eq] at h; omega
   rw [hr]
   have b1f0 : decide (g.due ≤ 1099511634176) = false := dF (by omega)
   simp only [Tryz.f28, hdC, tlC, Option.getD_some, cx, Gx.row, b0t0, b1f0, go_sem, meths]
   repeat refine sd2 ?_
   refine ⟨(), Sub.of (hfz hF2) (by simp only [go_sem, subT, and_self]; try trivial) (by simp [subH, Tx.look]) (by simp [subK, keys]) (by simp)⟩
  have b1t0 : decide (g.due ≤ 1099511634176) = true := dT (by omega)
  by_cases b2 : 1 ≤ g.tr
  rotate_left
  ·have hr : g.tries = false := by
    cases h : g.tries
    ·rfl
    ·unfold Gx.tries at h; simp only [Bool.and_eq_true, decide_eq_true_eq] at h; omega
   rw [hr]
   have b2f0 : decide (1 ≤ g.tr) = false := dF (by omega)
   have b2f1 : decide (g.tr ≥ 1) = false := dF (by omega)
   simp only [Tryz.f28, hdC, tlC, Option.getD_some, cx, Gx.row, b0t0, b1t0, b2f0, go_sem, meths]
   repeat refine sd2 ?_
   refine ⟨(), Sub.of (hfz hF2) (by simp only [go_sem, subT, and_self]; try trivial) (by simp [subH, Tx.look]) (by simp [subK, keys]) (by simp)⟩
  have b2t0 : decide (1 ≤ g.tr) = true := dT (by omega)
  have b2t1 : decide (g.tr ≥ 1) = true := dT (by omega)
  have hr : g.tries = decide (g.tr ≤ 8) := by unfold Gx.tries; rw [b0t0, b1t0, b2t0]; rfl
  rw [hr]
  simp only [Tryz.f28, hdC, tlC, Option.getD_some, cx, Gx.row, b0t0, b1t0, b2t0, go_sem, meths]
  repeat refine sd2 ?_
  refine ⟨(), Sub.of (hfz hF2) (by simp only [go_sem, subT, and_self]; try trivial) (by simp [subH, Tx.look]) (by simp [subK, keys]) (by simp)⟩
 intro _ _
 refine VT.cut (cxOk (L + 1)) (by kernel_rfl) (fun _ : Unit => ⟨[none, some (.ptr ⟨L + 1, 0⟩ 0 0), some (.int .i64 0), some (.bool (g.peer == zIni)), some (.bool (plainB g.peer)), some (.bool g.rest), some (.bool g.tries), some (.bool false)] ++ oz 129, [(⟨L + 1, 0⟩, .rows 28 20 true true [g.row])], 60000⟩) (fun _ => True) ?_ ?_
 ·simp only [Tryz.f28, hdC, tlC, Option.getD_some, cx, Gx.row, go_sem, meths]
  repeat refine sd2 ?_
  refine ⟨(), Sub.of (hfz hF2) (by simp only [go_sem, subT, and_self]; try trivial) (by simp [subH, Tx.look]) (by simp [subK, keys]) (by simp)⟩
 intro _ _
 obtain ⟨al, hal⟩ : ∃ x, x = (g.peer == zIni) := ⟨_, rfl⟩
 obtain ⟨kn, hkn⟩ : ∃ x, x = plainB g.peer := ⟨_, rfl⟩
 obtain ⟨re, hre⟩ : ∃ x, x = g.rest := ⟨_, rfl⟩
 obtain ⟨tr, htr⟩ : ∃ x, x = g.tries := ⟨_, rfl⟩
 rw [← hal, ← hkn, ← hre, ← htr]
 refine VT.cut (cxOk (L + 1)) (by kernel_rfl) (fun _ : Unit => ⟨[none, some (.ptr ⟨L + 1, 0⟩ 0 0), some (.int .i64 0), none, none, none, none, some (.bool g.mid)] ++ oz 129, [(⟨L + 1, 0⟩, .rows 28 20 true true [g.row])], 70000⟩) (fun _ => True) ?_ ?_
 ·rcases (show g.st = 1 ∨ g.st = 2 ∨ g.st = 3 ∨ g.st = 5 ∨ g.st = 6 ∨ g.st = 4 ∨ g.st = 7 ∨ (g.st ≠ 1 ∧ g.st ≠ 2 ∧ g.st ≠ 3 ∧ g.st ≠ 5 ∧ g.st ≠ 6 ∧ g.st ≠ 4 ∧ g.st ≠ 7) by omega) with hs | hs | hs | hs | hs | hs | hs | hs
  ·have hm : g.mid = (al && re) := by
    unfold Gx.mid; rw [← hal, ← hkn, ← hre, ← htr]; simp [hs]
   rw [hm]
   have s1 : (g.st == 1) = true := by simp; omega
   have s2 : (g.st == 2) = false := by simp; omega
   have s3 : (g.st == 3) = false := by simp; omega
   have s5 : (g.st == 5) = false := by simp; omega
   have s6 : (g.st == 6) = false := by simp; omega
   have s4 : (g.st == 4) = false := by simp; omega
   have s7 : (g.st == 7) = false := by simp; omega
   cases al
   ·simp only [Tryz.f28, hdC, tlC, Option.getD_some, cx, Gx.row, s1, Nat.add_zero, go_sem, meths]
    repeat refine sd2 ?_
    refine ⟨(), Sub.of (hfz hF2) (by simp only [go_sem, subT, and_self]; try trivial) (by simp [subH, Tx.look]) (by simp [subK, keys]) (by simp)⟩
   ·simp only [Tryz.f28, hdC, tlC, Option.getD_some, cx, Gx.row, s1, Nat.add_zero, go_sem, meths]
    repeat refine sd2 ?_
    refine ⟨(), Sub.of (hfz hF2) (by simp only [go_sem, subT, and_self]; try trivial) (by simp [subH, Tx.look]) (by simp [subK, keys]) (by simp)⟩
  ·have hm : g.mid = (al && tr) := by
    unfold Gx.mid; rw [← hal, ← hkn, ← hre, ← htr]; simp [hs]
   rw [hm]
   have s1 : (g.st == 1) = false := by simp; omega
   have s2 : (g.st == 2) = true := by simp; omega
   have s3 : (g.st == 3) = false := by simp; omega
   have s5 : (g.st == 5) = false := by simp; omega
   have s6 : (g.st == 6) = false := by simp; omega
   have s4 : (g.st == 4) = false := by simp; omega
   have s7 : (g.st == 7) = false := by simp; omega
   cases al
   ·simp only [Tryz.f28, hdC, tlC, Option.getD_some, cx, Gx.row, s1, s2, Nat.add_zero, go_sem, meths]
    repeat refine sd2 ?_
    refine ⟨(), Sub.of (hfz hF2) (by simp only [go_sem, subT, and_self]; try trivial) (by simp [subH, Tx.look]) (by simp [subK, keys]) (by simp)⟩
   ·simp only [Tryz.f28, hdC, tlC, Option.getD_some, cx, Gx.row, s1, s2, Nat.add_zero, go_sem, meths]
    repeat refine sd2 ?_
    refine ⟨(), Sub.of (hfz hF2) (by simp only [go_sem, subT, and_self]; try trivial) (by simp [subH, Tx.look]) (by simp [subK, keys]) (by simp)⟩
  ·have hm : g.mid = (kn && tr) := by
    unfold Gx.mid; rw [← hal, ← hkn, ← hre, ← htr]; simp [hs]
   rw [hm]
   have s1 : (g.st == 1) = false := by simp; omega
   have s2 : (g.st == 2) = false := by simp; omega
   have s3 : (g.st == 3) = true := by simp; omega
   have s5 : (g.st == 5) = false := by simp; omega
   have s6 : (g.st == 6) = false := by simp; omega
   have s4 : (g.st == 4) = false := by simp; omega
   have s7 : (g.st == 7) = false := by simp; omega
   cases kn
   ·simp only [Tryz.f28, hdC, tlC, Option.getD_some, cx, Gx.row, s1, s2, s3, Nat.add_zero, go_sem, meths]
    repeat refine sd2 ?_
    refine ⟨(), Sub.of (hfz hF2) (by simp only [go_sem, subT, and_self]; try trivial) (by simp [subH, Tx.look]) (by simp [subK, keys]) (by simp)⟩
   ·simp only [Tryz.f28, hdC, tlC, Option.getD_some, cx, Gx.row, s1, s2, s3, Nat.add_zero, go_sem, meths]
    repeat refine sd2 ?_
    refine ⟨(), Sub.of (hfz hF2) (by simp only [go_sem, subT, and_self]; try trivial) (by simp [subH, Tx.look]) (by simp [subK, keys]) (by simp)⟩
  ·have hm : g.mid = (kn && tr) := by
    unfold Gx.mid; rw [← hal, ← hkn, ← hre, ← htr]; simp [hs]
   rw [hm]
   have s1 : (g.st == 1) = false := by simp; omega
   have s2 : (g.st == 2) = false := by simp; omega
   have s3 : (g.st == 3) = false := by simp; omega
   have s5 : (g.st == 5) = true := by simp; omega
   have s6 : (g.st == 6) = false := by simp; omega
   have s4 : (g.st == 4) = false := by simp; omega
   have s7 : (g.st == 7) = false := by simp; omega
   cases kn
   ·simp only [Tryz.f28, hdC, tlC, Option.getD_some, cx, Gx.row, s1, s2, s3, s5, Nat.add_zero, go_sem, meths]
    repeat refine sd2 ?_
    refine ⟨(), Sub.of (hfz hF2) (by simp only [go_sem, subT, and_self]; try trivial) (by simp [subH, Tx.look]) (by simp [subK, keys]) (by simp)⟩
   ·simp only [Tryz.f28, hdC, tlC, Option.getD_some, cx, Gx.row, s1, s2, s3, s5, Nat.add_zero, go_sem, meths]
    repeat refine sd2 ?_
    refine ⟨(), Sub.of (hfz hF2) (by simp only [go_sem, subT, and_self]; try trivial) (by simp [subH, Tx.look]) (by simp [subK, keys]) (by simp)⟩
  ·have hm : g.mid = (kn && tr) := by
    unfold Gx.mid; rw [← hal, ← hkn, ← hre, ← htr]; simp [hs]
   rw [hm]
   have s1 : (g.st == 1) = false := by simp; omega
   have s2 : (g.st == 2) = false := by simp; omega
   have s3 : (g.st == 3) = false := by simp; omega
   have s5 : (g.st == 5) = false := by simp; omega
   have s6 : (g.st == 6) = true := by simp; omega
   have s4 : (g.st == 4) = false := by simp; omega
   have s7 : (g.st == 7) = false := by simp; omega
   cases kn
   ·simp only [Tryz.f28, hdC, tlC, Option.getD_some, cx, Gx.row, s1, s2, s3, s5, s6, Nat.add_zero, go_sem, meths]
    repeat refine sd2 ?_
    refine ⟨(), Sub.of (hfz hF2) (by simp only [go_sem, subT, and_self]; try trivial) (by simp [subH, Tx.look]) (by simp [subK, keys]) (by simp)⟩
   ·simp only [Tryz.f28, hdC, tlC, Option.getD_some, cx, Gx.row, s1, s2, s3, s5, s6, Nat.add_zero, go_sem, meths]
    repeat refine sd2 ?_
    refine ⟨(), Sub.of (hfz hF2) (by simp only [go_sem, subT, and_self]; try trivial) (by simp [subH, Tx.look]) (by simp [subK, keys]) (by simp)⟩
  ·have hm : g.mid = (kn && re) := by
    unfold Gx.mid; rw [← hal, ← hkn, ← hre, ← htr]; simp [hs]
   rw [hm]
   have s1 : (g.st == 1) = false := by simp; omega
   have s2 : (g.st == 2) = false := by simp; omega
   have s3 : (g.st == 3) = false := by simp; omega
   have s5 : (g.st == 5) = false := by simp; omega
   have s6 : (g.st == 6) = false := by simp; omega
   have s4 : (g.st == 4) = true := by simp; omega
   have s7 : (g.st == 7) = false := by simp; omega
   cases kn
   ·simp only [Tryz.f28, hdC, tlC, Option.getD_some, cx, Gx.row, s1, s2, s3, s5, s6, s4, Nat.add_zero, go_sem, meths]
    repeat refine sd2 ?_
    refine ⟨(), Sub.of (hfz hF2) (by simp only [go_sem, subT, and_self]; try trivial) (by simp [subH, Tx.look]) (by simp [subK, keys]) (by simp)⟩
   ·simp only [Tryz.f28, hdC, tlC, Option.getD_some, cx, Gx.row, s1, s2, s3, s5, s6, s4, Nat.add_zero, go_sem, meths]
    repeat refine sd2 ?_
    refine ⟨(), Sub.of (hfz hF2) (by simp only [go_sem, subT, and_self]; try trivial) (by simp [subH, Tx.look]) (by simp [subK, keys]) (by simp)⟩
  ·have hm : g.mid = ((al || kn) && re) := by
    unfold Gx.mid; rw [← hal, ← hkn, ← hre, ← htr]; simp [hs]
   rw [hm]
   have s1 : (g.st == 1) = false := by simp; omega
   have s2 : (g.st == 2) = false := by simp; omega
   have s3 : (g.st == 3) = false := by simp; omega
   have s5 : (g.st == 5) = false := by simp; omega
   have s6 : (g.st == 6) = false := by simp; omega
   have s4 : (g.st == 4) = false := by simp; omega
   have s7 : (g.st == 7) = true := by simp; omega
   cases al
   ·cases kn
    ·simp only [Tryz.f28, hdC, tlC, Option.getD_some, cx, Gx.row, s1, s2, s3, s5, s6, s4, s7, Nat.add_zero, go_sem, meths]
     repeat refine sd2 ?_
     refine ⟨(), Sub.of (hfz hF2) (by simp only [go_sem, subT, and_self]; try trivial) (by simp [subH, Tx.look]) (by simp [subK, keys]) (by simp)⟩
    ·simp only [Tryz.f28, hdC, tlC, Option.getD_some, cx, Gx.row, s1, s2, s3, s5, s6, s4, s7, Nat.add_zero, go_sem, meths]
     repeat refine sd2 ?_
     refine ⟨(), Sub.of (hfz hF2) (by simp only [go_sem, subT, and_self]; try trivial) (by simp [subH, Tx.look]) (by simp [subK, keys]) (by simp)⟩
   ·simp only [Tryz.f28, hdC, tlC, Option.getD_some, cx, Gx.row, s1, s2, s3, s5, s6, s4, s7, Nat.add_zero, go_sem, meths]
    repeat refine sd2 ?_
    refine ⟨(), Sub.of (hfz hF2) (by simp only [go_sem, subT, and_self]; try trivial) (by simp [subH, Tx.look]) (by simp [subK, keys]) (by simp)⟩
  ·have hm : g.mid = false := by
    unfold Gx.mid; rw [← hal, ← hkn, ← hre, ← htr]; simp [hs]
   rw [hm]
   have s1 : (g.st == 1) = false := by simp; omega
   have s2 : (g.st == 2) = false := by simp; omega
   have s3 : (g.st == 3) = false := by simp; omega
   have s5 : (g.st == 5) = false := by simp; omega
   have s6 : (g.st == 6) = false := by simp; omega
   have s4 : (g.st == 4) = false := by simp; omega
   have s7 : (g.st == 7) = false := by simp; omega
   simp only [Tryz.f28, hdC, tlC, Option.getD_some, cx, Gx.row, s1, s2, s3, s5, s6, s4, s7, Nat.add_zero, go_sem, meths]
   repeat refine sd2 ?_
   refine ⟨(), Sub.of (hfz hF2) (by simp only [go_sem, subT, and_self]; try trivial) (by simp [subH, Tx.look]) (by simp [subK, keys]) (by simp)⟩
 intro _ _
 clear hal hkn hre htr
 refine VT.cut (cxOk (L + 1)) (by kernel_rfl) (fun _ : Unit => ⟨[none, some (.ptr ⟨L + 1, 0⟩ 0 0), some (.int .i64 0), none, none, none, none, some (.bool (g.mid && g.cko))] ++ oz 129, [(⟨L + 1, 0⟩, .rows 28 20 true true [g.row])], 80000⟩) (fun _ => True) ?_ ?_
 ·by_cases hs : g.st = 3
  ·have s3 : (g.st == 3) = true := by simp; omega
   have hk : g.cko = (!(g.ck == []) && decide (g.ck.length ≤ 200)) := by unfold Gx.cko; rw [if_pos hs]; rfl
   rw [hk]
   cases hm : g.mid
   ·simp only [Tryz.f28, hdC, tlC, Option.getD_some, cx, Gx.row, s3, Nat.add_zero, go_sem, meths]
    repeat refine sd2 ?_
    refine ⟨(), Sub.of (hfz hF2) (by simp only [go_sem, subT, and_self]; try trivial) (by simp [subH, Tx.look]) (by simp [subK, keys]) (by simp)⟩
   cases hn : (g.ck == [])
   rotate_left
   ·simp only [Tryz.f28, hdC, tlC, Option.getD_some, cx, Gx.row, s3, hn, Nat.add_zero, go_sem, meths]
    repeat refine sd2 ?_
    refine ⟨(), Sub.of (hfz hF2) (by simp only [go_sem, subT, and_self]; try trivial) (by simp [subH, Tx.look]) (by simp [subK, keys]) (by simp)⟩
   have hl : decide (((g.ck.length : Nat) : Int) ≤ 200) = decide (g.ck.length ≤ 200) := decide_eq_decide.2 (by omega)
   simp only [Tryz.f28, hdC, tlC, Option.getD_some, cx, Gx.row, s3, hn, hl, Nat.add_zero, go_sem, meths]
   repeat refine sd2 ?_
   refine ⟨(), Sub.of (hfz hF2) (by simp only [go_sem, subT, and_self]; try trivial) (by simp [subH, Tx.look]) (by simp [subK, keys]) (by simp)⟩
  ·have s3 : (g.st == 3) = false := by simp; omega
   have hk : g.cko = (g.ck == []) := by unfold Gx.cko; rw [if_neg hs]
   rw [hk]
   cases hm : g.mid
   ·simp only [Tryz.f28, hdC, tlC, Option.getD_some, cx, Gx.row, s3, Nat.add_zero, go_sem, meths]
    repeat refine sd2 ?_
    refine ⟨(), Sub.of (hfz hF2) (by simp only [go_sem, subT, and_self]; try trivial) (by simp [subH, Tx.look]) (by simp [subK, keys]) (by simp)⟩
   simp only [Tryz.f28, hdC, tlC, Option.getD_some, cx, Gx.row, s3, Nat.add_zero, go_sem, meths]
   repeat refine sd2 ?_
   refine ⟨(), Sub.of (hfz hF2) (by simp only [go_sem, subT, and_self]; try trivial) (by simp [subH, Tx.look]) (by simp [subK, keys]) (by simp)⟩
 intro _ _
 refine VT.of (cxOk (L + 1)) ?_
 have hok : g.ok = (g.mid && g.cko) := by unfold Gx.ok; rw [hhd]; rfl
 rw [hok]
 cases (g.mid && g.cko)
 ·simp only [Tryz.f28, tlC, Option.getD_some, cx, Gx.row, go_sem, meths]
  repeat refine sd2 ?_
  exact PostF.same (p := True) (.inr rfl) (by simp only [resVal, resVals, resVal1, one, go_sem]) trivial (by simp only [Tx.nf]) (by simp [UpdAll])
 ·simp only [Tryz.f28, tlC, Option.getD_some, cx, Gx.row, go_sem, meths]
  repeat refine sd2 ?_
  exact PostF.same (p := True) (.inr rfl) (by simp only [resVal, resVals, resVal1, one, go_sem]) trivial (by simp only [Tx.nf]) (by simp [UpdAll])
def vN (f : Nat → Bool) : Nat → Nat
 | 0 => 0
 | i + 1 => 2 * vN f i + (f i).toNat
theorem vN_bit (f : Nat → Bool) : ∀ i j, (vN f i).testBit j = (decide (j < i) && f (i - 1 - j))
 | 0, j => by simp [vN]
 | i + 1, 0 => by
  rw [vN, Nat.testBit_zero]
  cases h : f i <;> simp [h] <;> omega
 | i + 1, j + 1 => by
  rw [vN, Nat.testBit_succ]
  have e : (2 * vN f i + (f i).toNat) / 2 = vN f i := by cases f i <;> simp <;> omega
  rw [e, vN_bit f i j]
  congr 1
  ·apply decide_eq_decide.2; omega
  ·congr 1; omega
theorem vN_eq {f : Nat → Bool} {m : Nat} (hm : m < M32) (h : ∀ i, i < 32 → m.testBit (31 - i) = f i) : vN f 32 = m := by
 apply Nat.eq_of_testBit_eq
 intro j
 rw [vN_bit]
 by_cases hj : j < 32
 ·rw [decide_eq_true hj, Bool.true_and, ← h _ (by omega)]
  congr 1; omega
 ·rw [decide_eq_false hj, Bool.false_and]
  exact (Nat.testBit_lt_two_pow (Nat.lt_of_lt_of_le hm (Nat.pow_le_pow_right (n := 2) (by omega) (show 32 ≤ j by omega)))).symm
def IsW (f : Nat → Bool) (m : Nat) : Prop := m < M32 ∧ ∀ i, i < 32 → m.testBit (31 - i) = f i
theorem IsW.val {f : Nat → Bool} {m : Nat} (h : IsW f m) : vN f 32 = m := vN_eq h.1 h.2
theorem and32 {a b : Nat} (ha : a < 2 ^ 32) (hb : b < 2 ^ 32) : Sx.ibits .and .u32 (a : Int) (b : Int) = ((a &&& b : Nat) : Int) := by
 show IntKind.u32.wrap ((BitVec.ofInt 32 (a : Int) &&& BitVec.ofInt 32 (b : Int)).toNat : Int) = _
 rw [BitVec.ofInt_natCast, BitVec.ofInt_natCast, BitVec.toNat_and, BitVec.toNat_ofNat, BitVec.toNat_ofNat, Nat.mod_eq_of_lt (by omega), Nat.mod_eq_of_lt (by omega)]
 have := Nat.and_lt_two_pow a hb
 rw [IntKind.wrap_u32]; omega
theorem or32 {a b : Nat} (ha : a < 2 ^ 32) (hb : b < 2 ^ 32) : Sx.ibits .or .u32 (a : Int) (b : Int) = ((a ||| b : Nat) : Int) := by
 show IntKind.u32.wrap ((BitVec.ofInt 32 (a : Int) ||| BitVec.ofInt 32 (b : Int)).toNat : Int) = _
 rw [BitVec.ofInt_natCast, BitVec.ofInt_natCast, BitVec.toNat_or, BitVec.toNat_ofNat, BitVec.toNat_ofNat, Nat.mod_eq_of_lt (by omega), Nat.mod_eq_of_lt (by omega)]
 have := Nat.or_lt_two_pow ha hb
 rw [IntKind.wrap_u32]; omega
theorem xor32' {a b : Nat} (ha : a < 2 ^ 32) (hb : b < 2 ^ 32) : Sx.ibits .xor .u32 (a : Int) (b : Int) = ((a ^^^ b : Nat) : Int) := by
 show IntKind.u32.wrap ((BitVec.ofInt 32 (a : Int) ^^^ BitVec.ofInt 32 (b : Int)).toNat : Int) = _
 rw [BitVec.ofInt_natCast, BitVec.ofInt_natCast, BitVec.toNat_xor, BitVec.toNat_ofNat, BitVec.toNat_ofNat, Nat.mod_eq_of_lt (by omega), Nat.mod_eq_of_lt (by omega)]
 have := Nat.xor_lt_two_pow ha hb
 rw [IntKind.wrap_u32]; omega
theorem wu64 {a : Nat} : IntKind.u64.wrap (a : Int) = ((a % 2 ^ 64 : Nat) : Int) := by
 simp [IntKind.wrap, IntKind.signed, IntKind.bits]
theorem wu32 {a : Nat} : IntKind.u32.wrap (a : Int) = ((a % 2 ^ 32 : Nat) : Int) := by
 simp [IntKind.wrap, IntKind.signed, IntKind.bits]
theorem and64 {a b : Nat} (ha : a < 2 ^ 64) (hb : b < 2 ^ 64) : Sx.ibits .and .u64 (a : Int) (b : Int) = ((a &&& b : Nat) : Int) := by
 show IntKind.u64.wrap ((BitVec.ofInt 64 (a : Int) &&& BitVec.ofInt 64 (b : Int)).toNat : Int) = _
 rw [BitVec.ofInt_natCast, BitVec.ofInt_natCast, BitVec.toNat_and, BitVec.toNat_ofNat, BitVec.toNat_ofNat, Nat.mod_eq_of_lt (by omega), Nat.mod_eq_of_lt (by omega)]
 have := Nat.and_lt_two_pow a hb
 rw [wu64, Nat.mod_eq_of_lt (by omega)]
theorem or64 {a b : Nat} (ha : a < 2 ^ 64) (hb : b < 2 ^ 64) : Sx.ibits .or .u64 (a : Int) (b : Int) = ((a ||| b : Nat) : Int) := by
 show IntKind.u64.wrap ((BitVec.ofInt 64 (a : Int) ||| BitVec.ofInt 64 (b : Int)).toNat : Int) = _
 rw [BitVec.ofInt_natCast, BitVec.ofInt_natCast, BitVec.toNat_or, BitVec.toNat_ofNat, BitVec.toNat_ofNat, Nat.mod_eq_of_lt (by omega), Nat.mod_eq_of_lt (by omega)]
 have := Nat.or_lt_two_pow ha hb
 rw [wu64, Nat.mod_eq_of_lt (by omega)]
theorem shr64 (a k : Nat) : ((a : Int)).fdiv (2 ^ min k 64) = ((a / 2 ^ min k 64 : Nat) : Int) := by
 rw [Int.fdiv_eq_ediv_of_nonneg _ (Int.le_of_lt (Int.pow_pos (by decide)))]
 simp
theorem shr32' (a k : Nat) (hk : k ≤ 32) : ((a : Int)).fdiv (2 ^ min k 32) = ((a / 2 ^ k : Nat) : Int) := by
 rw [Nat.min_eq_left hk, Int.fdiv_eq_ediv_of_nonneg _ (Int.le_of_lt (Int.pow_pos (by decide)))]
 simp
theorem andm {a : Nat} (ha : a < 2 ^ 64) : Sx.ibits .and .u64 (a : Int) 4294967295 = ((a % 2 ^ 32 : Nat) : Int) := by
 have := and64 ha (show 4294967295 < 2 ^ 64 by omega)
 rw [show ((4294967295 : Nat) : Int) = 4294967295 from rfl] at this
 rw [this, show (4294967295 : Nat) = 2 ^ 32 - 1 from rfl, Nat.and_two_pow_sub_one_eq_mod]
theorem andm' {a : Nat} : Sx.ibits .and .u64 ((a % 2 ^ 64 : Nat) : Int) 4294967295 = ((a % 2 ^ 64 % 2 ^ 32 : Nat) : Int) := andm (Nat.mod_lt _ (by omega))
theorem sh32 {a : Nat} : ((a : Int)).fdiv (2 ^ min 32 64) = ((a / 2 ^ 32 : Nat) : Int) := shr64 a 32
theorem rot32_ok {F : SF} {L nx : Nat} (x k : Nat) (hx : x < M32) (h0 : 0 < k) (hk : k < 32) : Con Tryz.prog 164 [.int .u32 x, .int .i64 (-(k : Int))] F L nx nx (.int .u32 (rtr x k)) [] [] := by
 have w1 : IntKind.u64.wrap (-(k : Int)) = ((2 ^ 64 - k : Nat) : Int) := by
  simp [IntKind.wrap, IntKind.signed, IntKind.bits]; omega
 have e1 : Sx.ibits .and .u64 (IntKind.u64.wrap (-(k : Int))) 31 = ((32 - k : Nat) : Int) := by
  have := and64 (a := 2 ^ 64 - k) (b := 31) (by omega) (by omega)
  rw [show ((31 : Nat) : Int) = 31 from rfl] at this
  rw [w1, this, show (31 : Nat) = 2 ^ 5 - 1 from rfl, Nat.and_two_pow_sub_one_eq_mod]
  congr 1; omega
 have e2 : IntKind.u64.wrap (32 - ((32 - k : Nat) : Int)) = (k : Int) := by
  simp [IntKind.wrap, IntKind.signed, IntKind.bits]; omega
 have e3 : IntKind.u32.wrap ((x : Int) * 2 ^ min (32 - k) 32) = ((x * 2 ^ (32 - k) % M32 : Nat) : Int) := by
  rw [Nat.min_eq_left (by omega)]
  have : (x : Int) * 2 ^ (32 - k) = ((x * 2 ^ (32 - k) : Nat) : Int) := by simp
  rw [this, wu32]; rfl
 have e4 := shr32' x k (by omega)
 have e5 : Sx.ibits .or .u32 ((x * 2 ^ (32 - k) % M32 : Nat) : Int) ((x / 2 ^ k : Nat) : Int) = ((rtr x k : Nat) : Int) := or32 (Nat.mod_lt _ (by decide)) (Nat.lt_of_le_of_lt (Nat.div_le_self _ _) hx)
 refine bdy Tryz.f164 ?_
 intro F3 hF1 hF2
 simp only [Tryz.f164, cx, e1, e2, e3, e4, e5, Int.toNat_natCast, go_sem, meths]
 repeat refine sd2 ?_
 exact PostF.rs (v0 := .int .u32 (rtr x k)) (.inr rfl)
theorem mul64_ok {F : SF} {L nx : Nat} (x y : Nat) (hx : x < 2 ^ 64) (hy : y < 2 ^ 64) : Con Tryz.prog 110 [.int .u64 x, .int .u64 y] F L nx nx (.tup [.int .u64 ((x * y / 2 ^ 64 : Nat) : Int), .int .u64 ((x * y % 2 ^ 64 : Nat) : Int)]) [] [] := by
 have ax := andm hx
 have ay := andm hy
 have hi : (((x / 2 ^ 32) * (y / 2 ^ 32) % 2 ^ 64 + ((x / 2 ^ 32) * (y % 2 ^ 32) % 2 ^ 64 + (x % 2 ^ 32) * (y % 2 ^ 32) % 2 ^ 64 / 2 ^ 32) % 2 ^ 64 / 2 ^ 32) % 2 ^ 64 + (((x / 2 ^ 32) * (y % 2 ^ 32) % 2 ^ 64 + (x % 2 ^ 32) * (y % 2 ^ 32) % 2 ^ 64 / 2 ^ 32) % 2 ^ 64 % 2 ^ 32 + (x % 2 ^ 32) * (y / 2 ^ 32) % 2 ^ 64) % 2 ^ 64 / 2 ^ 32) % 2 ^ 64 = x * y / 2 ^ 64 := by
  obtain ⟨x1, h1⟩ : ∃ a, a = x / 2 ^ 32 := ⟨_, rfl⟩
  obtain ⟨x0, h2⟩ : ∃ a, a = x % 2 ^ 32 := ⟨_, rfl⟩
  obtain ⟨y1, h3⟩ : ∃ a, a = y / 2 ^ 32 := ⟨_, rfl⟩
  obtain ⟨y0, h4⟩ : ∃ a, a = y % 2 ^ 32 := ⟨_, rfl⟩
  have ex : x = x1 * 2 ^ 32 + x0 := by omega
  have ey : y = y1 * 2 ^ 32 + y0 := by omega
  have hxy : x * y = x1 * y1 * 2 ^ 64 + (x1 * y0 + x0 * y1) * 2 ^ 32 + x0 * y0 := by
   rw [ex, ey, Nat.add_mul, Nat.mul_add, Nat.mul_add]
   have a1 : x1 * 2 ^ 32 * (y1 * 2 ^ 32) = x1 * y1 * 2 ^ 64 := by
    rw [Nat.mul_mul_mul_comm]
   have a2 : x1 * 2 ^ 32 * y0 = x1 * y0 * 2 ^ 32 := by rw [Nat.mul_right_comm]
   have a3 : x0 * (y1 * 2 ^ 32) = x0 * y1 * 2 ^ 32 := by rw [Nat.mul_assoc]
   rw [a1, a2, a3, Nat.add_mul]; omega
  have b1 : x1 ≤ 4294967295 := by omega
  have b2 : x0 ≤ 4294967295 := by omega
  have b3 : y1 ≤ 4294967295 := by omega
  have b4 : y0 ≤ 4294967295 := by omega
  have c1 := Nat.mul_le_mul b1 b3
  have c2 := Nat.mul_le_mul b1 b4
  have c3 := Nat.mul_le_mul b2 b3
  have c4 := Nat.mul_le_mul b2 b4
  rw [← h1, ← h2, ← h3, ← h4, hxy]
  generalize x1 * y1 = p at *
  generalize x1 * y0 = q at *
  generalize x0 * y1 = r at *
  generalize x0 * y0 = t at *
  clear hxy ex ey h1 h2 h3 h4 b1 b2 b3 b4 ax ay hx hy
  omega
 refine bdy Tryz.f110 ?_
 intro F3 hF1 hF2
 simp only [Tryz.f110, cx, ax, ay, sh32, andm', ← Int.natCast_mul, ← Int.natCast_add, wu64, go_sem, meths]
 repeat refine sd2 ?_
 simp only [hi]
 exact PostF.rs (v0 := .tup [.int .u64 ((x * y / 2 ^ 64 : Nat) : Int), .int .u64 ((x * y % 2 ^ 64 : Nat) : Int)]) (.inr rfl)
theorem or_bit (x n : Nat) (h : 2 ^ (n + 1) ∣ x) : x ||| 2 ^ n = x + 2 ^ n := by
 obtain ⟨c, rfl⟩ := h
 rw [Nat.two_pow_add_eq_or_of_lt (Nat.pow_lt_pow_right (by omega) (by omega))]
theorem greS_step (e : Nat → Bool) (x i : Nat) (h : i < 37) : greS e x (37 - i) = greS e (if e (x + 2 ^ (36 - i)) then x + 2 ^ (36 - i) else x) (37 - (i + 1)) := by
 rw [show 37 - i = (36 - i) + 1 by omega, greS, show 37 - (i + 1) = 36 - i by omega]
theorem dvd_step {x i : Nat} (hi : i < 37) (h : 2 ^ (37 - i) ∣ x) (hx : x < 2 ^ 37) : 2 ^ (36 - i) ∣ x ∧ 2 ^ (36 - i) ∣ x + 2 ^ (36 - i) ∧ x + 2 ^ (36 - i) < 2 ^ 37 := by
 obtain ⟨c, rfl⟩ := h
 have e : 2 ^ (37 - i) = 2 * 2 ^ (36 - i) := by rw [show 37 - i = (36 - i) + 1 by omega, Nat.pow_succ]; omega
 have e2 : (2 : Nat) ^ 37 = 2 ^ i * 2 ^ (37 - i) := by rw [← Nat.pow_add]; congr 1; omega
 have hc : c < 2 ^ i := by
  rw [e2, Nat.mul_comm] at hx
  exact Nat.lt_of_mul_lt_mul_right hx
 have h1 : 2 ^ (37 - i) * (c + 1) ≤ 2 ^ 37 := by rw [e2, Nat.mul_comm]; exact Nat.mul_le_mul_right _ hc
 have hp : 0 < 2 ^ (36 - i) := Nat.two_pow_pos _
 rw [Nat.mul_add, Nat.mul_one] at h1
 refine ⟨⟨2 * c, by rw [e, Nat.mul_assoc, Nat.mul_left_comm]⟩, ⟨2 * c + 1, by rw [e, Nat.mul_add, Nat.mul_one, Nat.mul_assoc, Nat.mul_left_comm]⟩, by omega⟩
theorem frac_ok {F : SF} {L nx : Nat} (g : FuncId) (cl : List PV) (e : Nat → Bool) (rd : List Nm) (hrd : ∀ n ∈ rd, n.l ≤ L) (hcl : ∀ x : Nat, x < 2 ^ 37 → ∀ L' nx', L ≤ L' → Con Tryz.prog g ([.int .u64 x] ++ cl) F L' nx' nx' (.bool (e x)) [] rd) :
  Con Tryz.prog 147 [.fn (.func g) [] cl] F L nx nx (.int .u32 ((greS e 0 37 % M32 : Nat) : Int)) [] rd := by
 refine bdy Tryz.f147 (hrd := hrd) ?_
 intro F3 hF1 hF2
 simp only [Tryz.f147, cx, go_sem, meths]
 refine loopK.intro _ _ (I := fun z : Nat × Nat => ⟨[some (.fn (.func g) [] cl), none, none, some (.int .u64 z.2), some (.int .u64 ((2 ^ 36 / 2 ^ z.1 : Nat) : Int))] ++ oz 15, [], 10000 * (z.1 + 1)⟩)
  (pre := fun z => z.1 ≤ 37 ∧ greS e 0 37 = greS e z.2 (37 - z.1) ∧ 2 ^ (37 - z.1) ∣ z.2 ∧ z.2 < 2 ^ 37) (μ := fun z => 37 - z.1) (0, 0) ⟨by simp, by simp, by simp, by simp⟩ ?_ ?_
 ·refine Sub.of (hfz hF2) (by simp only [go_sem, subT]; try trivial) ?_ (by simp [subK]) (by simp)
  simp [subH]
 rintro ⟨i, x⟩ ⟨hi, hg, hd, hx⟩
 simp only at hi hg hd hx ⊢
 by_cases hlt : i < 37
 ·have hb : 2 ^ 36 / 2 ^ i = 2 ^ (36 - i) := Nat.pow_div (by omega) (by omega)
  have hp : 0 < 2 ^ (36 - i) := Nat.two_pow_pos _
  have hbl : 2 ^ (36 - i) ≤ 2 ^ 36 := Nat.pow_le_pow_right (by omega) (by omega)
  have hs : 2 ^ (36 - i) / 2 ^ 1 = 2 ^ 36 / 2 ^ (i + 1) := by rw [← hb, Nat.div_div_eq_div_mul, ← Nat.pow_add]
  have hor := or_bit x (36 - i) (by rw [show 36 - i + 1 = 37 - i by omega]; exact hd)
  have hst := greS_step e x i hlt
  obtain ⟨d1, d2, d3⟩ := dvd_step hlt hd hx
  rw [hb]
  obtain ⟨b, hbb⟩ : ∃ b, b = 2 ^ (36 - i) := ⟨_, rfl⟩
  rw [← hbb] at hp hbl hs hor hst d1 d2 d3 ⊢
  have g1 : decide ((0 : Int) < (b : Int)) = true := dT (by omega)
  have e1 : Sx.ibits .or .u64 (x : Int) (b : Int) = ((x + b : Nat) : Int) := by rw [or64 (by omega) (by omega), hor]
  have e2 : ((b : Nat) : Int).fdiv (2 ^ min 1 64) = ((2 ^ 36 / 2 ^ (i + 1) : Nat) : Int) := by
   rw [shr64 b 1, ← hs]; rfl
  simp only [g1, e1, Nat.add_assoc, go_sem]
  repeat refine sd2 ?_
  refine CallVC.same ((hcl (x + b) d3 _ _ (by omega)).agree hF1) ?_
  cases he : e (x + b) with
  | true =>
   rw [he, if_pos rfl] at hst
   simp only [e1, e2, Nat.add_assoc, go_sem]
   repeat refine sd2 ?_
   refine ⟨(i + 1, x + b), ⟨by simp only []; omega, by simp only []; rw [hg, hst], by simp only []; rw [show 37 - (i + 1) = 36 - i by omega, ← hbb]; exact d2, d3⟩, by simp only []; omega, ?_⟩
   refine Sub.of (hfz hF2) (by simp only [go_sem, subT, and_self]; try trivial) ?_ (by simp [subK]) (by simp only []; omega)
   simp [subH]
  | false =>
   rw [he, if_neg (by simp)] at hst
   simp only [e2, Nat.add_assoc, go_sem]
   repeat refine sd2 ?_
   refine ⟨(i + 1, x), ⟨by simp only []; omega, by simp only []; rw [hg, hst], by simp only []; rw [show 37 - (i + 1) = 36 - i by omega, ← hbb]; exact d1, hx⟩, by simp only []; omega, ?_⟩
   refine Sub.of (hfz hF2) (by simp only [go_sem, subT, and_self]; try trivial) ?_ (by simp [subK]) (by simp only []; omega)
   simp [subH]
 ·obtain rfl : i = 37 := by omega
  have g1 : decide ((0 : Int) < ((2 ^ 36 / 2 ^ 37 : Nat) : Int)) = false := by decide
  have hgx : greS e 0 37 = x := by rw [hg]; rfl
  have e3 := andm (a := x) (by omega)
  have e4 : IntKind.u32.wrap ((x % 2 ^ 32 : Nat) : Int) = ((x % M32 : Nat) : Int) := by
   rw [wu32, Nat.mod_mod]; rfl
  rw [hgx]
  simp only [g1, e3, e4, go_sem]
  repeat refine sd2 ?_
  exact PostF.rs (v0 := .int .u32 ((x % M32 : Nat) : Int)) (.inr rfl)
end Go.Proofs.YtifhjhbfhdcahaaGreat
end
