/- Lemmas for the walk: U21, U22, U23, U24, U25, U26, U27, U28, U30, U31. -/
import Derived.Test.YtaacfnngodhecaaGreatDoorP08
import Derived.ChangeArms
import Derived.Carry
import Derived.OpenShut
set_option linter.all false
section
namespace Go.Tx
open Go.Sx (lt_of_get)
def initT (args : List PV) (n : Nat) : List (Option PV) := args.map some ++ List.replicate (n - args.length) (some undefP)
def WkLL (F : SF) : List (List PV) → List (List PV) → Prop
 | [], [] => True
 | x :: l, y :: l' => WkL F x y ∧ WkLL F l l'
 | _, _ => False
def wkNLL : List (List PV) → List (List PV) → List Nm
 | x :: l, y :: l' => wkNL x y ++ wkNLL l l'
 | _, _ => []
def BW (L : Nat) (G : SF) : Option SBlk → SBlk → Prop
 | some (.rows e wd o p rs), .rows e' wd' o' p' rs' => e = e' ∧ wd = wd' ∧ (o' = true → o = true) ∧ p' = true ∧ ((p = true ∧ rs = rs') ∨ (WkLL G rs rs' ∧ (∀ n ∈ wkNLL rs rs', n.l = L + 1) ∧ rs'.all nfl = true))
 | some (.map o p ks vs), .map o' p' ks' vs' => (o' = true → o = true) ∧ p' = true ∧ p = true ∧ ks = ks' ∧ vs = vs'
 | _, .dead => True
 | _, _ => False
def UpdIn (L : Nat) (G : SF) : List (Nm × SBlk) → Prop
 | [] => True
 | (n, b) :: l => n.l ≤ L ∧ BW L G (G n) b ∧ UpdIn L G l
def UpdAll (L : Nat) (ks : List Nm) : List (Nm × SBlk) → Prop
 | [] => True
 | (n, _) :: l => (n.l = L + 1 ∨ n ∈ ks) ∧ UpdAll L ks l
structure PostF (T : Tys) (F : SF) (rl : List ResultVar) (L : Nat) (v : PV) (upd : List (Nm × SBlk)) (e : Exit) (st : St) : Prop where
 e : e = .normal ∨ e = .ret
 res : ∃ p v0, resVal T (look F st.H) st.t rl = some (p, v0) ∧ p ∧ Wk (look F st.H) v0 v ∧ (∀ n ∈ wkN v0 v, n.l = L + 1)
 nf : nf v = true
 ok : UpdIn L (look F st.H) upd
 all : UpdAll L (keys upd) st.H
theorem UpdIn.mem {L : Nat} {G : SF} {n : Nm} {b : SBlk} : ∀ {l : List (Nm × SBlk)}, UpdIn L G l → (n, b) ∈ l → n.l ≤ L ∧ BW L G (G n) b
 | (m, c) :: l, h, hm => by
  rcases List.mem_cons.1 hm with hm | hm
  ·injection hm with h1 h2; subst h1; subst h2; exact ⟨h.1, h.2.1⟩
  ·exact UpdIn.mem h.2.2 hm
theorem UpdAll.look {L : Nat} {ks : List Nm} {F : SF} {n : Nm} (hn : n.l ≤ L) (hk : n ∉ ks) : ∀ {H : List (Nm × SBlk)}, UpdAll L ks H → look F H n = F n
 | [], _ => rfl
 | (m, c) :: l, h => by
  simp only [Tx.look]
  split
  ·rename_i he; subst he
   rcases h.1 with h | h
   ·omega
   ·exact absurd h hk
  ·exact UpdAll.look hn hk h.2
theorem wkLL_get {F : SF} : ∀ {rs rs' : List (List PV)}, WkLL F rs rs' → rs.length = rs'.length ∧ ∀ (r : Nat) (row row' : List PV), rs[r]? = some row → rs'[r]? = some row' → WkL F row row' ∧ ∀ n ∈ wkNL row row', n ∈ wkNLL rs rs'
 | [], [], _ => ⟨rfl, by intro r row row' h; cases h⟩
 | x :: l, y :: l', h => by
  obtain ⟨h1, h2⟩ := wkLL_get h.2
  refine ⟨by simp [h1], fun r row row' hr hr' => ?_⟩
  cases r with
  | zero =>
   simp at hr hr'; subst hr; subst hr'
   exact ⟨h.1, fun n hn => by simp [wkNLL, hn]⟩
  | succ r =>
   obtain ⟨q1, q2⟩ := h2 r row row' (by simpa using hr) (by simpa using hr')
   exact ⟨q1, fun n hn => by simp [wkNLL, q2 n hn]⟩
 | [], _ :: _, h => by simp [WkLL] at h
 | _ :: _, [], h => by simp [WkLL] at h
theorem wkL_get {F : SF} : ∀ {l l' : List PV}, WkL F l l' → l.length = l'.length ∧ ∀ (c : Nat) (x y : PV), l[c]? = some x → l'[c]? = some y → Wk F x y ∧ ∀ n ∈ wkN x y, n ∈ wkNL l l'
 | [], [], _ => ⟨rfl, by intro r row row' h; cases h⟩
 | x :: l, y :: l', h => by
  simp only [WkL] at h
  obtain ⟨h1, h2⟩ := wkL_get h.2
  refine ⟨by simp [h1], fun r a b hr hr' => ?_⟩
  cases r with
  | zero =>
   simp at hr hr'; subst hr; subst hr'
   exact ⟨h.1, fun n hn => by simp [wkNL, hn]⟩
  | succ r =>
   obtain ⟨q1, q2⟩ := h2 r a b (by simpa using hr) (by simpa using hr')
   exact ⟨q1, fun n hn => by simp [wkNL, q2 n hn]⟩
 | [], _ :: _, h => by simp [WkL] at h
 | _ :: _, [], h => by simp [WkL] at h
theorem nfl_get : ∀ {l : List PV}, nfl l = true → ∀ x ∈ l, nf x = true
 | [], _, x, hx => by cases hx
 | a :: l, h, x, hx => by
  simp only [nfl, Bool.and_eq_true] at h
  rcases List.mem_cons.1 hx with rfl | hx
  ·exact h.1
  ·exact nfl_get h.2 x hx
theorem marks_out {P : Program} {E0 E' : Env} {F0 G : SF} {w0 : World} {f : Nat → Option PV} {m : Nat} {tm : Array Value} {F : Fence} {n : Nat} {fn : Func} {R : Ending → World → Prop} {B : List Deferred} {u : FrameMode} (hu : u ≠ .run) : ∀ (Ds : List Nat) (w' : World), Ds.Nodup → (∀ D ∈ Ds, w0.heap.size ≤ D ∧ w'.heap[D]? = some (.deferred (some []))) →
  StepR E0 F0 w0 E' G w' → TRelF w' (Zn E' G w') E' f m tm → (∀ w'', StepR E0 F0 w0 E' G w'' → TRelF w'' (Zn E' G w'') E' f m tm → LeavesInM F n P fn tm R B u w'') → LeavesInM F n P fn tm R (Ds.map mkD ++ B) u w'
 | [], w', _, _, h1, h2, h => h w' h1 h2
 | D :: Ds, w', hnd, hD, h1, h2, h => by
  obtain ⟨g1, g2⟩ := hD D (by simp)
  have hno := noData_deferred g2
  have ht := turn_put w' D (.deferred none)
  simp only [List.nodup_cons] at hnd
  refine ⟨hu, .inl ⟨D, w'.putObj D (.deferred none), rfl, run_takeDeferred g2, ?_⟩⟩
  refine marks_out hu Ds _ hnd.2 (fun D' h' => ?_) (h1.turn hno ht g1) ⟨h2.size, fun i v hv => ?_⟩ h
  ·have := hD D' (by simp [h'])
   exact ⟨this.1, (ht.keep _ (fun e => hnd.1 (e ▸ h'))).trans this.2⟩
  ·obtain ⟨v', a1, a2⟩ := h2.val i v hv
   exact ⟨v', a1, a2.turn hno ht⟩
section
variable {C : Cx}
theorem Con.body (hC : C.Ok) (hro : C.ro = none) (hys : C.ys = []) {f : FuncId} {fn : Func} {c : Code} (hf : C.P.funcs[f]? = some fn) (hb : fn.body = some c) (hnum : (fn.name == "runtime.NumGoroutine") = false) {args : List PV} {F : SF} {L nx : Nat} (hL : C.L = L + 1) {v : PV} {upd : List (Nm × SBlk)} {rd : List Nm} (hrd : ∀ n ∈ rd, n.l ≤ L)
  (H : ∀ F3 : SF, (∀ n ∈ rd, F3 n = F n) → (∀ n : Nm, L < n.l → F3 n = none) → vcC C F3 c ⟨initT args fn.ntmps, [], 0⟩ (PostF C.T F3 fn.results.toList L v upd)) (hdi : C.dies = false := by rfl) (hB : C.B = [] := by rfl) : Con C.P f args F L nx nx v upd rd := by
 refine ⟨Nat.le_refl _, fun F2 hF2 E w args' hR _ hdp hargs => ?_⟩
 let F3 : SF := fun n => if n.l ≤ L then F2 n else none
 have h3 : SLe F3 F2 := by
  intro n b hb
  simp only [F3] at hb
  split at hb
  ·exact .inr (.inl hb)
  ·cases hb
 have hS0 := StepR.less hR h3
 have hvc := H F3 (fun n hn => by simp only [F3]; rw [if_pos (hrd n hn)]; exact hF2 n hn) (fun n hn => by simp only [F3]; rw [if_neg (by omega)])
 have hdom : Dom0 C.L E := fun n hn => hdp n (by omega)
 have htp := vcC_ok (w0 := w) hdi hC hdom (by rw [hys]; exact InvY.nil) hS0.rel c _ _ hvc
 have hargs3 := VRl.mono hS0.ext _ _ hargs
 obtain ⟨hlen, hget⟩ := VRl.get hargs3
 have hrel : Rel C.B C.L F3 E w E ⟨initT args fn.ntmps, [], 0⟩ { tmps := args'.toArray ++ Array.replicate (fn.ntmps - args'.toArray.size) undef, defers := [] } w := by
  refine ⟨StepR.refl hS0.rel, ⟨by simp [initT, hlen], fun i x hx => ?_⟩, (by rw [hB]; exact MarksOk.nil), fun n h1 h2 => absurd h1 h2⟩
  simp only [TF, initT] at hx
  rw [List.getD_eq_getElem?_getD] at hx
  by_cases hi : i < args.length
  ·rw [List.getElem?_append_left (by simpa using hi)] at hx
   simp only [List.getElem?_map] at hx
   cases hy : args[i]? with
   | none => rw [hy] at hx; cases hx
   | some y =>
    rw [hy] at hx; simp at hx; subst hx
    obtain ⟨v', a1, a2⟩ := hget i y hy
    refine ⟨v', ?_, a2⟩
    rw [Array.getElem?_append_left (by simp; omega)]
    simpa using a1
  ·rw [List.getElem?_append_right (by simp; omega)] at hx
   simp only [List.length_map, List.getElem?_replicate] at hx
   split at hx
   rotate_left
   ·cases hx
   rename_i hlt
   simp at hx; subst hx
   refine ⟨undef, ?_, VR_undef⟩
   rw [Array.getElem?_append_right (by simp; omega)]
   simp only [List.size_toArray, Array.getElem?_replicate]
   rw [if_pos (by omega)]
 have hcall : Calls C.P f args'.toArray w fun e w' => ∃ v', e = .returned v' ∧ CGives E F2 w L nx nx v upd v' w' := by
  rw [← callsIn_wide (n := 0)]
  refine callsIn_of_wp_marks hf hb trivial ?_
  have hW : W C.ro = Fence.wide := by rw [hro]; rfl
  rw [← hW]
  refine wpIn_mono (htp _ _ E hrel) ?_
  rintro e a w1 ⟨st, hP, E', hRl1⟩
  obtain ⟨Ds, d1, d2, d3⟩ := hRl1.marks
  have key : LeavesInM (W C.ro) 0 C.P fn a.tmps (fun e w' => ∃ v', e = .returned v' ∧ CGives E F2 w L nx nx v upd v' w') a.defers .returning w1 := by
   rw [d2, hB]
   refine marks_out (by simp) Ds w1 d1 (fun D hD => ⟨(d3 D hD).1, (d3 D hD).2.2⟩) hRl1.step hRl1.tmps fun w' s1 s2 => ?_
   have hRl : Rel C.B C.L F3 E w E' st { tmps := a.tmps, defers := [] } w' := ⟨s1, s2, (by rw [hB]; exact MarksOk.nil), hRl1.news⟩
   obtain ⟨p, v0, q1, q2, q3, q4⟩ := hP.res
   obtain ⟨v', r1, r2⟩ := run_res hC.T hRl.step.rel hRl.tmps q1 q2
   let G := look F3 st.H
   let Fm : SF := fun n => if n.l ≤ L then G n else none
   have hm : SLe Fm G := by
    intro n b hb
    simp only [Fm] at hb
    split at hb
    ·exact .inr (.inl hb)
    ·cases hb
   have hSm := StepR.less hRl.step.rel hm
   let E2 : Env := fun n => if n.l ≤ L then E' n else none
   have hEE : ∀ n i, E n = some i → E' n = some i ∧ E2 n = some i := by
    intro n i hi
    have h1 := hRl.step.le n i hi
    have hl : n.l ≤ L := by
     rcases Nat.lt_or_ge L n.l with h | h
     ·rw [hdp n h] at hi; cases hi
     ·exact h
    exact ⟨h1, by simp only [E2]; rw [if_pos hl]; exact h1⟩
   have hE2 : ∀ n, E2 n ≠ none → n.l ≤ L ∧ E n = E2 n ∧ E' n = E2 n := by
    intro n hn
    have hl : n.l ≤ L := by
     rcases Nat.lt_or_ge L n.l with h | h
     ·simp only [E2] at hn; rw [if_neg (by omega)] at hn; exact absurd rfl hn
     ·exact h
    have e1 : E2 n = E' n := by simp only [E2]; rw [if_pos hl]
    refine ⟨hl, ?_, e1.symm⟩
    cases he : E n with
    | none =>
     have := (hRl.news n he (by rw [← e1]; exact hn)).1
     omega
    | some i => rw [(hEE n i he).2]
   let F' := F2.upd upd
   have hF' : ∀ n b, F' n = some b → b.live = true → n.l ≤ L ∧ ((n ∈ keys upd ∧ BW L G (G n) b) ∨ (n ∉ keys upd ∧ F2 n = some b ∧ G n = some b)) := by
    intro n b hn hl
    have hn' : setAll F2 upd n = some b := by rw [← upd_eq]; exact hn
    by_cases hk : n ∈ keys upd
    ·rcases setAll_get upd F2 n with h | ⟨u, h1, h2⟩
     ·-- the key is written
      have gen : ∀ (x : List (Nm × SBlk)) (f : SF), n ∈ keys x → ∃ u, (n, u) ∈ x ∧ setAll f x n = some u := by
       intro x
       induction x with
       | nil => intro f h; cases h
       | cons a x ih =>
        intro f h
        obtain ⟨m, u⟩ := a
        simp only [setAll]
        by_cases hx : n ∈ keys x
        ·obtain ⟨u', q1, q2⟩ := ih (fun q => if q = m then some u else f q) hx
         exact ⟨u', by simp [q1], q2⟩
        ·simp only [keys, List.map_cons, List.mem_cons] at h
         rcases h with h | h
         ·subst h; exact ⟨u, by simp, by rw [setAll_not hx]; simp⟩
         ·exact absurd h hx
      obtain ⟨u, u1, u2⟩ := gen upd F2 hk
      rw [hn'] at u2; injection u2 with u2; subst u2
      obtain ⟨c1, c2⟩ := hP.ok.mem u1
      exact ⟨c1, .inl ⟨hk, c2⟩⟩
     ·rw [hn'] at h2; injection h2 with h2; subst h2
      obtain ⟨c1, c2⟩ := hP.ok.mem h1
      exact ⟨c1, .inl ⟨hk, c2⟩⟩
    ·rw [setAll_not hk] at hn'
     obtain ⟨i, hi⟩ := (hR.blk n b hn').def_ hl
     have hll : n.l ≤ L := by
      rcases Nat.lt_or_ge L n.l with h | h
      ·rw [hdp n h] at hi; cases hi
      ·exact h
     refine ⟨hll, .inr ⟨hk, hn', ?_⟩⟩
     show look F3 st.H n = some b
     rw [hP.all.look hll hk]
     simp only [F3]; rw [if_pos hll]; exact hn'
   have hBlive : ∀ {n : Nm} {b : SBlk}, BW L G (G n) b → b.live = true → ∃ b0, G n = some b0 ∧ b0.live = true ∧ (b.own = true → b0.own = true) := by
    intro n b hb hl
    cases hg : G n with
    | none => rw [hg] at hb; cases b <;> first | exact (show False from hb).elim | (cases hl; done)
    | some b0 =>
     rw [hg] at hb
     refine ⟨b0, rfl, ?_⟩
     cases b0 <;> cases b <;> first | exact (show False from hb).elim | (cases hl; done) | skip
     ·exact ⟨rfl, hb.2.2.1⟩
     ·exact ⟨rfl, hb.1⟩
   have hFm : ∀ n b, F' n = some b → b.live = true → n.l ≤ L ∧ ∃ b0, Fm n = some b0 ∧ G n = some b0 ∧ b0.live = true ∧ (b.own = true → b0.own = true) := by
    intro n b hn hl
    obtain ⟨h1, h2⟩ := hF' n b hn hl
    refine ⟨h1, ?_⟩
    have e : Fm n = G n := by simp only [Fm]; rw [if_pos h1]
    rw [e]
    rcases h2 with ⟨_, h2⟩ | ⟨_, _, h2⟩
    ·obtain ⟨b0, c1, c2, c3⟩ := hBlive h2 hl
     exact ⟨b0, c1, c1, c2, c3⟩
    ·exact ⟨b, h2, h2, hl, id⟩
   have hzone : ∀ k, Zn E' Fm w' k → Zn E2 F' w' k := by
    rintro k ⟨k1, k2⟩
    refine ⟨k1, fun n b i hn ho hi hz he => ?_⟩
    obtain ⟨h1, b0, c1, _, _, c3⟩ := hFm n b hn (live_of_own ho)
    have e := (hE2 n (by rw [hi]; simp)).2.2
    exact k2 n b0 i c1 (c3 ho) (by rw [e]; exact hi) hz he
   have hzone' : ∀ k, Zn E' G w' k → Zn E2 F' w' k := fun k hk => hzone k (hSm.ext.zone k hk)
   have hEx : Ext Env.no w' (Zn E' Fm w') Env.no w' (Zn E2 F' w') := ⟨Env.le.refl _, hzone, fun _ _ => rfl⟩
   have hwk : ∀ (x y : PV) (u : Value), Wk G x y → (∀ n ∈ wkN x y, n.l = L + 1) → Tx.nf y = true → VR w' (Zn E' G w') E' x u → VR w' (Zn E2 F' w') Env.no y u := by
    intro x y u h1 h2 h3 h4
    have := wk_vr hRl.step.rel hm x y u h1 (fun n hn b hb => by
     have := h2 n hn
     simp only [Fm] at hb
     rw [if_neg (by omega)] at hb; cases hb) h4
    exact VR.mono hEx _ _ (VR.nf y u h3 this)
   have hback : ∀ n b, F2 n = some b → G n = some b → b.live = true → BRel E2 w' (Zn E2 F' w') n b := by
    intro n b h1 h2 hl
    have := BRel.back hEE (hR.blk n b h1) (hRl.step.rel.blk n b h2)
    exact this.mono ⟨Env.le.refl _, hzone', fun _ _ => rfl⟩ fun _ _ _ => rfl
   have hrelF : HRel E2 F' w' := by
    refine ⟨fun n b hn => ?_, fun n m b d i j hn hm' hnm ho hl hi hj hin hjn => ?_⟩
    ·by_cases hl : b.live = true
     rotate_left
     ·cases b <;> first | trivial | exact absurd rfl hl
     obtain ⟨h1, h2⟩ := hF' n b hn hl
     rcases h2 with ⟨hk, h2⟩ | ⟨hk, h2, h3⟩
     rotate_left
     ·exact hback n b h2 h3 hl
     have h2' := h2
     obtain ⟨b0, g1, g2, g3⟩ := hBlive h2 hl
     have hb0 := hRl.step.rel.blk n b0 g1
     have eE : E2 n = E' n := by simp only [E2]; rw [if_pos h1]
     rw [g1] at h2
     cases b0 <;> cases b <;> first | exact (show False from h2).elim | (cases hl; done) | skip
     ·rename_i e wd o p rs e' wd' o' p' rs'
      obtain ⟨rfl, rfl, ho, rfl, hrs⟩ := h2
      obtain ⟨i, hi, hor⟩ := hb0
      refine ⟨i, by rw [eE]; exact hi, ?_⟩
      rcases hor with ⟨z1, rfl, z3, z4⟩ | ⟨hz, hRr⟩
      ·refine .inl ⟨z1, ?_, z3, z4⟩
       rcases hrs with ⟨_, rfl⟩ | ⟨hrs, _, _⟩
       ·rfl
       ·cases rs' with
        | nil => rfl
        | cons a l => simp [WkLL] at hrs
      ·refine .inr ⟨hz, ?_⟩
       obtain ⟨cs, fz, b1, b2, b3, b4⟩ := hRr.cells
       rcases hrs with ⟨rfl, rfl⟩ | ⟨hrs, hns, hnf⟩
       ·exact ⟨hRr.wd_eq, hRr.o0, hRr.wd_pos, hRr.len, hRr.le, hRr.cap, cs, fz, b1, b2, fun h => b3 (ho h), VRr.mono ⟨Env.le.refl _, hzone', fun _ _ => rfl⟩ _ _ _ b4⟩
       ·obtain ⟨l1, l2⟩ := wkLL_get hrs
        have hlen' : ∀ row ∈ rs', row.length = wd := by
         intro row hrow
         obtain ⟨r, hr⟩ := List.getElem?_of_mem hrow
         have hlt := lt_of_get hr
         have hr0 := List.getElem?_eq_getElem (l := rs) (i := r) (by omega)
         obtain ⟨k1, _⟩ := l2 r _ row hr0 hr
         rw [← (wkL_get k1).1]
         exact hRr.len _ (List.mem_of_getElem? hr0)
        refine ⟨hRr.wd_eq, hRr.o0, hRr.wd_pos, hlen', by rw [← l1]; exact hRr.le, hRr.cap, cs, fz, b1, b2, fun h => b3 (ho h), (VRr_iff hlen').2 fun r row' c y hr' hc' => ?_⟩
        have hlt := lt_of_get hr'
        have hr0 := List.getElem?_eq_getElem (l := rs) (i := r) (by omega)
        obtain ⟨k1, k2⟩ := l2 r _ row' hr0 hr'
        obtain ⟨k3, k4⟩ := wkL_get k1
        have hct := lt_of_get hc'
        have hc0 := List.getElem?_eq_getElem (l := rs[r]) (i := c) (by omega)
        obtain ⟨k5, k6⟩ := k4 c _ y hc0 hc'
        obtain ⟨u, a1, a2, a3⟩ := (VRr_iff hRr.len).1 b4 r _ c _ hr0 hc0
        rw [List.all_eq_true] at hnf
        exact ⟨u, a1, a2, hwk _ y u k5 (fun n hn => hns n (k2 n (k6 n hn))) (nfl_get (hnf row' (List.mem_of_getElem? hr')) y (List.mem_of_getElem? hc')) (VR.up a3)⟩
     ·rename_i o p ks vs o' p' ks' vs'
      obtain ⟨ho, rfl, rfl, rfl, rfl⟩ := h2
      obtain ⟨i, hi, hz, ents, clk, hb, hmr⟩ := hb0
      have hX0 : Ext Env.no w' (Zn E' G w') Env.no w' (Zn E2 F' w') := ⟨Env.le.refl _, hzone', fun _ _ => rfl⟩
      exact ⟨i, by rw [eE]; exact hi, hz, ents, clk, hb, VRl.mono hX0 _ _ hmr.1, VRl.mono hX0 _ _ hmr.2⟩
    ·obtain ⟨_, b0, _, c1, _, c3⟩ := hFm n b hn (live_of_own ho)
     obtain ⟨_, d0, _, d1, d2, _⟩ := hFm m d hm' hl
     have e1 := (hE2 n (by rw [hi]; simp)).2.2
     have e2 := (hE2 m (by rw [hj]; simp)).2.2
     exact hRl.step.rel.sep n m b0 d0 i j c1 d1 hnm (c3 ho) d2 (by rw [e1]; exact hi) (by rw [e2]; exact hj) hin hjn
   have hstep : StepR E F2 w E2 F' w' := by
    refine ⟨fun n i hi => (hEE n i hi).2, hrelF, hRl.step.os, hRl.step.tape, hRl.step.output, hRl.step.size, fun k hk hno => ?_, fun n b i hn ho hi hin => ?_⟩
    ·refine hRl.step.keep k hk fun n b i hn ho hi hin => hno n b i (h3.own hn ho) ho hi hin
    ·obtain ⟨_, b0, _, c1, _, c3⟩ := hFm n b hn (live_of_own ho)
     have e1 := (hE2 n (by rw [hi]; simp)).2.2
     rcases hRl.step.own n b0 i c1 (c3 ho) (by rw [e1]; exact hi) hin with h | ⟨m, d, j, m1, m2, m3, m4, m5⟩
     ·exact .inl h
     ·exact .inr ⟨m, d, j, h3.own m1 m2, m2, m3, m4, m5⟩
   have hres : CGives E F2 w L nx nx v upd v' w' := by
    refine ⟨E2, ?_, hstep, fun n h1 h2 => ?_⟩
    ·exact VR.mono ⟨Env.no_le _, fun _ h => h, fun _ _ => rfl⟩ _ _ (hwk v0 v v' q3 q4 hP.nf r2)
    ·have := (hE2 n h2).2.1; rw [h1] at this; exact absurd this.symm h2
   exact ⟨v', r1, v', rfl, hres⟩
  rcases hP.e with rfl | rfl
  ·exact key
  ·exact key
 have hrun : (callFunc f args'.toArray).run C.P w = .ok (.enter f args'.toArray) w := callFunc_run hf (by rw [hb]; rfl) hnum
 rw [hrun]
 exact hcall
end
end Go.Tx
end
section
namespace Go.Tx
section
variable (C : Cx) (F0 : SF)
def restK (ops l : List Oper) (K : RK) : RK := fun t H nx fps => execR C F0 ops l t H nx fps K
theorem restK_app (ops l : List Oper) (K : RK) (a : Option PV) (t : List (Option PV)) (H : List (Nm × SBlk)) (nx : Nat) (fps : FPs) : restK C F0 ops l K (a :: t) H nx fps = execR C F0 ops l (a :: t) H nx fps K := propext ⟨fun h => h, fun h => h⟩
def callK (d : Option Nat) (t : List (Option PV)) (H : List (Nm × SBlk)) (fps : FPs) (K : RK) : PV → List (Nm × SBlk) → List Nm → Nat → Prop := fun v upd rd nx' => K (putT t d v) (updH H upd) nx' (fps ++ [(rd, keys upd)])
theorem callK_app (d : Option Nat) (t : List (Option PV)) (H : List (Nm × SBlk)) (fps : FPs) (K : RK) (v : PV) (upd : List (Nm × SBlk)) (rd : List Nm) (nx : Nat) : callK d t H fps K v upd rd nx = K (putT t d v) (updH H upd) nx (fps ++ [(rd, keys upd)]) := propext ⟨fun h => h, fun h => h⟩
def opVK (o : Oper) (t : List (Option PV)) (H : List (Nm × SBlk)) (nx : Nat) (fps : FPs) (K : RK) : Prop := opVC C.calm F0 o t H nx fps K
theorem x_nil (ops : List Oper) (t : List (Option PV)) (H : List (Nm × SBlk)) (nx : Nat) (fps : FPs) (K : RK) : execR C F0 ops [] t H nx fps K = K t H nx fps := propext ⟨fun h => h, fun h => h⟩
theorem x_cons (ops : List Oper) (o : Oper) (l : List Oper) (t : List (Option PV)) (H : List (Nm × SBlk)) (nx : Nat) (fps : FPs) (K : RK) : execR C F0 ops (o :: l) t H nx fps K =
  (match o.guard with
  | none => opVK C F0 o t H nx fps (restK C F0 ops l K)
  | some (j, want) =>
   match guardVal ops t j with
   | some (.bool g) =>
    brB g want (opVK C F0 o (setG ops t j want) H nx fps (restK C F0 ops l K))
     (execR C F0 ops l (putT (setG ops t j (!want)) o.dst undefP) H nx (fps ++ [([], [])]) K)
   | some (.tup []) => execR C F0 ops l (putT t o.dst undefP) H nx (fps ++ [([], [])]) K
   | _ => False) := propext ⟨fun h => h, fun h => h⟩
def panicK (t : List (Option PV)) (H : List (Nm × SBlk)) (nx : Nat) (x : Operand) : Prop := PanicVC C t H nx x
theorem o_any (o : Oper) (t : List (Option PV)) (H : List (Nm × SBlk)) (nx : Nat) (fps : FPs) (K : RK) :
  opVC C F0 o t H nx fps K = (match o.op with
  | .call ⟨.value fo, args, _⟩ =>
   match evalT t fo, vals (evalT t) args.toList with
   | some (.fn (.func f) xs ys), some asx => CallVD C (CallVC C.P f (xs ++ asx ++ ys) (look F0 H) C.L nx (callK o.dst t H fps K)) F0 t H nx f (xs ++ asx ++ ys)
   | _, _ => False
  | .call ⟨.invoke x name, args, _⟩ =>
   match evalT t x, vals (evalT t) args.toList with
   | some (.ifc ty v), some asx =>
    match C.ms.get ty name with
    | some f => CallVD C (CallVC C.P f (v :: asx) (look F0 H) C.L nx (callK o.dst t H fps K)) F0 t H nx f (v :: asx)
    | none => False
   | _, _ => False
  | .panic x => panicK C t H nx x
  | op =>
   match semOp C.T C.wr (evalT t) (look F0 H) ⟨C.L, nx⟩ op with
   | some r => r.vc ∧ K (putT t o.dst r.v) (updH H r.upd) (nx + 32) (fps ++ [(r.rd, keys r.upd)])
   | none => False) := propext ⟨fun h => h, fun h => h⟩
theorem o_calm (o : Oper) (t : List (Option PV)) (H : List (Nm × SBlk)) (nx : Nat) (fps : FPs) (K : RK) :
  opVK C F0 o t H nx fps K = (match o.op with
  | .call ⟨.value fo, args, _⟩ =>
   match evalT t fo, vals (evalT t) args.toList with
   | some (.fn (.func f) xs ys), some asx => CallVC C.P f (xs ++ asx ++ ys) (look F0 H) C.L nx (callK o.dst t H fps K)
   | _, _ => False
  | .call ⟨.invoke x name, args, _⟩ =>
   match evalT t x, vals (evalT t) args.toList with
   | some (.ifc ty v), some asx =>
    match C.ms.get ty name with
    | some f => CallVC C.P f (v :: asx) (look F0 H) C.L nx (callK o.dst t H fps K)
    | none => False
   | _, _ => False
  | .panic x => PanicVC C.calm t H nx x
  | op =>
   match semOp C.T C.wr (evalT t) (look F0 H) ⟨C.L, nx⟩ op with
   | some r => r.vc ∧ K (putT t o.dst r.v) (updH H r.upd) (nx + 32) (fps ++ [(r.rd, keys r.upd)])
   | none => False) := propext ⟨fun h => h, fun h => h⟩
def restS (ops l : List Oper) (K : SK) : SK := fun t H nx => execS C F0 ops l t H nx K
theorem restS_app (ops l : List Oper) (K : SK) (a : Option PV) (t : List (Option PV)) (H : List (Nm × SBlk)) (nx : Nat) : restS C F0 ops l K (a :: t) H nx = execS C F0 ops l (a :: t) H nx K := propext ⟨fun h => h, fun h => h⟩
theorem seqK_app (K : SK) (a : Option PV) (t : List (Option PV)) (H : List (Nm × SBlk)) (nx : Nat) (fps : FPs) : seqK K (a :: t) H nx fps = K (a :: t) H nx := propext ⟨fun h => h, fun h => h⟩
theorem ycK_app (d : Option Nat) (t : List (Option PV)) (H : List (Nm × SBlk)) (K : SK) (v : PV) (upd : List (Nm × SBlk)) (nx : Nat) : ycK d t H K v upd nx = K (putT t d v) (updH H upd) nx := propext ⟨fun h => h, fun h => h⟩
theorem nilK.intro {b0 : Bool} {n : Nat} {d : Option Nat} {t : List (Option PV)} {H : List (Nm × SBlk)} {nx : Nat} {K : SK} (h : ∀ b : Bool, (b = true → n = 0) → K (putT t d (.bool (nilB b0 b))) H nx) : nilK b0 n d t H nx K := h
theorem xs_nil (ops : List Oper) (t : List (Option PV)) (H : List (Nm × SBlk)) (nx : Nat) (K : SK) : execS C F0 ops [] t H nx K = K t H nx := propext ⟨fun h => h, fun h => h⟩
theorem xs_cons (ops : List Oper) (o : Oper) (l : List Oper) (t : List (Option PV)) (H : List (Nm × SBlk)) (nx : Nat) (K : SK) : execS C F0 ops (o :: l) t H nx K =
  (match o.guard with
  | none => opVCs C F0 o t H nx (restS C F0 ops l K)
  | some (j, want) =>
   match guardVal ops t j with
   | some (.bool g) =>
    brB g want (opVCs C F0 o (setG ops t j want) H nx (restS C F0 ops l K))
     (execS C F0 ops l (putT (setG ops t j (!want)) o.dst undefP) H nx K)
   | some (.tup []) => execS C F0 ops l (putT t o.dst undefP) H nx K
   | _ => False) := propext ⟨fun h => h, fun h => h⟩
theorem os_any (o : Oper) (t : List (Option PV)) (H : List (Nm × SBlk)) (nx : Nat) (K : SK) :
  opVCs C F0 o t H nx K = (match nilT C.T (evalT t) o.op with
  | some (b0, n) => nilK b0 n o.dst t H nx K
  | none =>
   match yldT (evalT t) o.op with
   | some (l, asx) => YVC C.P C.ys l asx (look F0 H) C.L nx (ycK o.dst t H K)
   | none =>
    match cut3 C.T (look F0 H) (evalT t) o.op with
    | some p => p ∧ K (unsetT t o.dst) H nx
    | none => opVC C F0 o t H nx [] (seqK K)) := propext ⟨fun h => h, fun h => h⟩
variable (st : St) (Q : Exit → St → Prop)
def regS (Q : Exit → St → Prop) : SK := fun t H nx => Q .normal ⟨t, H, nx⟩
theorem regS_app (a : Option PV) (t : List (Option PV)) (H : List (Nm × SBlk)) (nx : Nat) : regS Q (a :: t) H nx = Q .normal ⟨a :: t, H, nx⟩ := propext ⟨fun h => h, fun h => h⟩
def vcK (b : Code) (Q : Exit → St → Prop) : St → Prop := fun s => vcC C F0 b s Q
theorem vcK_app (b : Code) (t : List (Option PV)) (H : List (Nm × SBlk)) (nx : Nat) : vcK C F0 b Q ⟨t, H, nx⟩ = vcC C F0 b ⟨t, H, nx⟩ Q := propext ⟨fun h => h, fun h => h⟩
def regK (Q : Exit → St → Prop) : RK := fun t H nx _ => Q .normal ⟨t, H, nx⟩
theorem regK_app (a : Option PV) (t : List (Option PV)) (H : List (Nm × SBlk)) (nx : Nat) (fps : FPs) : regK Q (a :: t) H nx fps = Q .normal ⟨a :: t, H, nx⟩ := propext ⟨fun h => h, fun h => h⟩
def regKD (ops : List Oper) (Q : Exit → St → Prop) : RK := fun t H nx fps => okDyn ops fps = true ∧ Q .normal ⟨t, H, nx⟩
theorem regKD_app (ops : List Oper) (a : Option PV) (t : List (Option PV)) (H : List (Nm × SBlk)) (nx : Nat) (fps : FPs) : regKD ops Q (a :: t) H nx fps = (okDyn ops fps = true ∧ Q .normal ⟨a :: t, H, nx⟩) := propext ⟨fun h => h, fun h => h⟩
def loopK (c : Code) (st : St) (Q : Exit → St → Prop) : Prop := LoopVC C F0 (vcC C F0 c) st Q
theorem v_skip : vcC C F0 .skip st Q = Q .normal st := propext ⟨fun h => h, fun h => h⟩
theorem v_ret : vcC C F0 .ret st Q = Q .ret st := propext ⟨fun h => h, fun h => h⟩
theorem v_exit (id : Nat) : vcC C F0 (.exit id) st Q = Q (.exit id) st := propext ⟨fun h => h, fun h => h⟩
theorem v_seq (a b : Code) : vcC C F0 (.seq a b) st Q = vcC C F0 a st (thenQ (vcK C F0 b Q) Q) := propext ⟨fun h => h, fun h => h⟩
theorem v_cond (c : Operand) (x y : Code) : vcC C F0 (.cond c x y) st Q = (match evalT st.t c with | some (.bool g) => brB g true (vcC C F0 x st Q) (vcC C F0 y st Q) | _ => False) := propext ⟨fun h => h, fun h => h⟩
theorem v_block (id : Nat) (c : Code) : vcC C F0 (.block id c) st Q = vcC C F0 c st (blockQ id Q) := propext ⟨fun h => h, fun h => h⟩
theorem v_scope (c : Code) : vcC C F0 (.scope c) st Q = vcC C F0 c st (noGotoQ Q) := propext ⟨fun h => h, fun h => h⟩
theorem v_label (l : Nat) : vcC C F0 (.label l) st Q = Q .normal st := propext ⟨fun h => h, fun h => h⟩
theorem v_loop (c : Code) : vcC C F0 (.loop c) st Q = loopK C F0 c st Q := propext ⟨fun h => h, fun h => h⟩
theorem v_region (id : Nat) (ops : List Oper) : vcC C F0 (.region id ⟨ops⟩ false) st Q = (dstOk ops st.t.length = true ∧ execS C F0 ops ops st.t st.H st.nx (regS Q)) := propext ⟨fun h => h, fun h => h⟩
theorem v_regionD (id : Nat) (ops : List Oper) : vcC C F0 (.region id ⟨ops⟩ true) st Q = RegVD C (RegVX C (RegX C F0 ops st Q) (okStatic ops st.t.length = true ∧ execR C F0 ops ops st.t st.H st.nx [] (regKD ops Q))) F0 ops st := propext ⟨fun h => h, fun h => h⟩
def rangeK (g : Operand) (ps : Array Tmp) (assign body : Code) (st : St) (Q : Exit → St → Prop) : Prop := RangeVD C (RangeVC C F0 g ps assign body st Q) F0 g ps assign body st
theorem v_range (g : Operand) (ps : Array Tmp) (assign body : Code) : vcC C F0 (.rangeFunc g ps assign body) st Q = rangeK C F0 g ps assign body st Q := propext ⟨fun h => h, fun h => h⟩
theorem regVD_live (P : Program) (T : Tys) (ms : Meths) (wr : Bool) (L : Nat) (ro : Option Nat) (ys : List YRec) (B : List Deferred) (ch : List PanicEntry) (dq : St → Prop) (p : Prop) (F0 : SF) (ops : List Oper) (st : St) : RegVD ⟨P, T, ms, wr, L, ro, ys, B, false, ch, dq⟩ p F0 ops st = p := rfl
theorem regVX_live (P : Program) (T : Tys) (ms : Meths) (wr : Bool) (L : Nat) (ro : Option Nat) (ys : List YRec) (B : List Deferred) (dq : St → Prop) (x p : Prop) : RegVX ⟨P, T, ms, wr, L, ro, ys, B, false, [], dq⟩ x p = p := rfl
theorem regVX_dies (P : Program) (T : Tys) (ms : Meths) (wr : Bool) (L : Nat) (ro : Option Nat) (ys : List YRec) (B : List Deferred) (ch : List PanicEntry) (dq : St → Prop) (x p : Prop) : RegVX ⟨P, T, ms, wr, L, ro, ys, B, true, ch, dq⟩ x p = p := rfl
theorem callVD_live (P : Program) (T : Tys) (ms : Meths) (wr : Bool) (L : Nat) (ro : Option Nat) (ys : List YRec) (B : List Deferred) (ch : List PanicEntry) (dq : St → Prop) (p : Prop) (F0 : SF) (t : List (Option PV)) (H : List (Nm × SBlk)) (nx : Nat) (f : FuncId) (asx : List PV) : CallVD ⟨P, T, ms, wr, L, ro, ys, B, false, ch, dq⟩ p F0 t H nx f asx = p := rfl
theorem loopK.intro {c : Code} {st : St} {Q : Exit → St → Prop} {ι : Type} (I : ι → St) (pre : ι → Prop) (μ : ι → Nat) (x0 : ι) (h0 : pre x0) (hs : Sub C.L F0 st (I x0))
  (round : ∀ x, pre x → vcC C F0 c (I x) (thenQ (fun s => ∃ y, pre y ∧ μ y < μ x ∧ Sub C.L F0 s (I y)) Q)) : loopK C F0 c st Q := ⟨ι, I, pre, μ, x0, h0, hs, round⟩
end
theorem brB_tt (A B : Prop) : brB true true A B = A := propext ⟨fun h => h.1 rfl, fun h => ⟨fun _ => h, fun h => by cases h⟩⟩
theorem brB_ff (A B : Prop) : brB false false A B = A := propext ⟨fun h => h.1 rfl, fun h => ⟨fun _ => h, fun h => by cases h⟩⟩
theorem brB_tf (A B : Prop) : brB true false A B = B := propext ⟨fun h => h.2 rfl, fun h => ⟨(fun h => by cases h), fun _ => h⟩⟩
theorem brB_ft (A B : Prop) : brB false true A B = B := propext ⟨fun h => h.2 rfl, fun h => ⟨(fun h => by cases h), fun _ => h⟩⟩
theorem brB.mk {g want : Bool} {A B : Prop} (h1 : g = want → A) (h2 : g = !want → B) : brB g want A B := ⟨h1, h2⟩
theorem nm_eq (a i j : Nat) : ((⟨a, i⟩ : Nm) = ⟨a, j⟩) = (i = j) := by simp
theorem nm_out {n : Nm} {L : Nat} (h : n.l ≤ L) (i : Nat) : (n = (⟨L + 1, i⟩ : Nm)) = False := by
 apply eq_false; rintro rfl; simp at h; omega
theorem nm_out' {n : Nm} {L : Nat} (h : n.l ≤ L) (i : Nat) : ((⟨L + 1, i⟩ : Nm) = n) = False := by
 apply eq_false; rintro rfl; simp at h; omega
theorem panicK.intro {C : Cx} {t : List (Option PV)} {H : List (Nm × SBlk)} {nx : Nat} {x : Operand} {ty : TypeId} (hv : evalT t x = some (.ifc ty (.agg []))) (hd : C.dies = true) (hch : C.ch = [{ v := .iface ty (.agg #[]), recovered := false }]) (hq : C.dq ⟨t, H, nx⟩) : panicK C t H nx x := by
 unfold panicK PanicVC
 rw [hd, hv]
 exact ⟨hch, hq⟩
def subT : List (Option PV) → List (Option PV) → Prop
 | [], [] => True
 | _ :: t, none :: t' => subT t t'
 | o :: t, some v :: t' => o = some v ∧ subT t t'
 | _, _ => False
theorem subT_spec : ∀ {t t' : List (Option PV)}, subT t t' → t.length = t'.length ∧ ∀ (i : Nat) (v : PV), t'[i]? = some (some v) → t[i]? = some (some v)
 | [], [], _ => ⟨rfl, by intro i v h; cases h⟩
 | o :: t, none :: t', h => by
  obtain ⟨h1, h2⟩ := subT_spec (t := t) (t' := t') h
  refine ⟨by simp [h1], fun i v hv => ?_⟩
  cases i with
  | zero => simp at hv
  | succ i => simpa using h2 i v (by simpa using hv)
 | o :: t, some u :: t', h => by
  obtain ⟨rfl, h⟩ := h
  obtain ⟨h1, h2⟩ := subT_spec (t := t) (t' := t') h
  refine ⟨by simp [h1], fun i v hv => ?_⟩
  cases i with
  | zero => simp at hv; subst hv; simp
  | succ i => simpa using h2 i v (by simpa using hv)
 | [], none :: _, h => h.elim
 | [], some _ :: _, h => h.elim
 | _ :: _, [], h => by simp [subT] at h
theorem rangeK.intro {C : Cx} {F0 : SF} {g : Operand} {ps : Array Tmp} {assign body : Code} {st : St} {Q : Exit → St → Prop} {f : FuncId} {fl cl : List PV} (hg : evalT st.t g = some (.fn (.func f) fl cl)) (hro : C.ro = none) (hfn : ∃ fn, C.P.funcs[f]? = some fn ∧ fn.body.isNone = false ∧ (fn.name == "runtime.NumGoroutine") = false)
  {v : PV} {upd : List (Nm × SBlk)} {rd : List Nm} {top : Nat} (t0 : List (Option PV)) (ht : subT st.t t0) (hc : ∀ y : YRec, y.R.params = ps → y.R.assign = assign → y.R.body = body → y.t = t0 → ICon C.P [y] f (fl ++ [.fn (.yield y.l) [] []] ++ cl) (look F0 st.H) C.L st.nx top v upd rd)
  (hq : Q .normal ⟨st.t, updH st.H upd, top⟩) : rangeK C F0 g ps assign body st Q := by
 unfold rangeK
 refine RangeVD.live ?_
 unfold RangeVC
 rw [hg]
 obtain ⟨h1, h2⟩ := subT_spec ht
 refine ⟨hro, hfn, t0, v, upd, rd, top, ⟨h1.symm, fun i v hv => ?_⟩, hc, hq⟩
 simp only [TF, List.getD_eq_getElem?_getD] at hv ⊢
 cases hx : t0[i]? with
 | none => rw [hx] at hv; cases hv
 | some x => rw [hx] at hv; simp at hv; subst hv; rw [h2 i v hx]; rfl
def subH (F0 : SF) (H : List (Nm × SBlk)) : List (Nm × SBlk) → Prop
 | [] => True
 | (n, b) :: l => look F0 H n = some b ∧ subH F0 H l
def subK (L : Nat) (ks : List Nm) : List (Nm × SBlk) → Prop
 | [] => True
 | (n, _) :: l => (n.l = L ∨ n ∈ ks) ∧ subK L ks l
theorem Sub.of {L : Nat} {F0 : SF} {st st' : St} (hF : ∀ n : Nm, n.l = L → F0 n = none) (h1 : subT st.t st'.t) (h2 : subH F0 st.H st'.H) (h3 : subK L (keys st'.H) st.H) (h4 : st.nx ≤ st'.nx) : Sub L F0 st st' := by
 intro B E0 w0 E a w hd hR
 have hk : ∀ (H : List (Nm × SBlk)) (n : Nm), n.l ≠ L → n ∉ keys st'.H → subK L (keys st'.H) H → look F0 H n = F0 n := by
  intro H
  induction H with
  | nil => intro n _ _ _; rfl
  | cons x H ih =>
   obtain ⟨m, c⟩ := x
   intro n h1 h2 h3
   simp only [look]
   split
   ·rename_i he; subst he
    rcases h3.1 with h | h
    ·exact absurd h h1
    ·exact absurd h h2
   ·exact ih n h1 h2 h3.2
 have hin : ∀ (H : List (Nm × SBlk)) (n : Nm), subH F0 st.H H → n ∈ keys H → look F0 H n = look F0 st.H n := by
  intro H
  induction H with
  | nil => intro n _ h; cases h
  | cons x H ih =>
   obtain ⟨m, c⟩ := x
   intro n h1 h2
   simp only [look]
   split
   ·rename_i he; subst he; exact h1.1.symm
   ·rename_i he
    simp only [keys, List.map_cons, List.mem_cons] at h2
    rcases h2 with h2 | h2
    ·exact absurd h2 he
    ·exact ih n h1.2 h2
 have hout : ∀ (H : List (Nm × SBlk)) (n : Nm), n ∉ keys H → look F0 H n = F0 n := by
  intro H
  induction H with
  | nil => intro n _; rfl
  | cons x H ih =>
   obtain ⟨m, c⟩ := x
   intro n h
   simp only [keys, List.map_cons, List.mem_cons, not_or] at h
   simp only [look]
   rw [if_neg h.1]
   exact ih n h.2
 have hs : SLe (look F0 st'.H) (look F0 st.H) := by
  intro n b hb
  by_cases hkn : n ∈ keys st'.H
  ·rw [hin st'.H n h2 hkn] at hb; exact .inr (.inl hb)
  ·rw [hout st'.H n hkn] at hb
   by_cases hl : n.l = L
   ·rw [hF n hl] at hb; cases hb
   ·rw [← hk st.H n hl hkn h3] at hb; exact .inr (.inl hb)
 have hS := StepR.less hR.step.rel hs
 obtain ⟨t1, t2⟩ := subT_spec h1
 refine ⟨E, hR.step.trans hS, ⟨by rw [← t1]; exact hR.tmps.size, fun i v hv => ?_⟩, hR.marks.mono hS.ext, fun n a b => ?_⟩
 ·simp only [TF] at hv
  rw [List.getD_eq_getElem?_getD] at hv
  cases hx : st'.t[i]? with
  | none => rw [hx] at hv; cases hv
  | some x =>
   rw [hx] at hv; simp at hv; subst hv
   have := t2 i v hx
   obtain ⟨v', a1, a2⟩ := hR.tmps.val i v (by simp [TF, List.getD_eq_getElem?_getD, this])
   exact ⟨v', a1, VR.mono hS.ext _ _ a2⟩
 ·have := hR.news n a b; exact ⟨this.1, by omega⟩
end Go.Tx
end
section
namespace Go.Tx
theorem PostF.of {T : Tys} {F : SF} {rl : List ResultVar} {L : Nat} {v : PV} {upd : List (Nm × SBlk)} {e : Exit} {st : St} (he : e = .normal ∨ e = .ret) {p : Prop} {v0 : PV} (h : resVal T (look F st.H) st.t rl = some (p, v0)) (hp : p) (hw : Wk (look F st.H) v0 v) (hn : ∀ n ∈ wkN v0 v, n.l = L + 1)
  (hf : Tx.nf v = true) (ho : UpdIn L (look F st.H) upd) (ha : UpdAll L (keys upd) st.H) : PostF T F rl L v upd e st := ⟨he, ⟨_, _, h, hp, hw, hn⟩, hf, ho, ha⟩
theorem PostF.int {T : Tys} {F : SF} {rl : List ResultVar} {L : Nat} {k : IntKind} {a b : Int} {e : Exit} {st : St} (he : e = .normal ∨ e = .ret) (h : resVal T (look F st.H) st.t rl = some (True ∧ True, .int k a)) (hab : a = b) (ha : UpdAll L [] st.H) : PostF T F rl L (.int k b) [] e st :=
 ⟨he, ⟨_, _, h, ⟨trivial, trivial⟩, by subst hab; rfl, by intro n hn; cases hn⟩, rfl, trivial, ha⟩
theorem PostF.bool {T : Tys} {F : SF} {rl : List ResultVar} {L : Nat} {a b : Bool} {e : Exit} {st : St} (he : e = .normal ∨ e = .ret) (h : resVal T (look F st.H) st.t rl = some (True ∧ True, .bool a)) (hab : a = b) (ha : UpdAll L [] st.H) : PostF T F rl L (.bool b) [] e st :=
 ⟨he, ⟨_, _, h, ⟨trivial, trivial⟩, by subst hab; rfl, by intro n hn; cases hn⟩, rfl, trivial, ha⟩
theorem shr_eq (x : Int) {b : Int} (h0 : 0 ≤ b) (h1 : b ≤ 62) : x.fdiv (2 ^ min b.toNat 64) = x / 2 ^ b.toNat := by
 have hm : min b.toNat 64 = b.toNat := by omega
 rw [hm, Int.fdiv_eq_ediv_of_nonneg]
 exact Int.le_of_lt (Int.pow_pos (by decide))
theorem shr0 {x b : Int} (h0 : 0 ≤ b) (h1 : b ≤ 62) (hx : 0 ≤ x) (hx2 : x < 2 ^ b.toNat) : x.fdiv (2 ^ min b.toNat 64) = 0 := by
 rw [shr_eq x h0 h1]; exact Int.ediv_eq_zero_of_lt hx hx2
theorem pow_le {b : Int} (h0 : 0 ≤ b) (h1 : b ≤ 32) : (2 : Int) ^ b.toNat ≤ 4294967296 ∧ 1 ≤ (2 : Int) ^ b.toNat := by
 have hp : (2 : Nat) ^ b.toNat ≤ 2 ^ 32 := Nat.pow_le_pow_right (by omega) (by omega)
 have hp1 : 1 ≤ (2 : Nat) ^ b.toNat := Nat.one_le_two_pow
 have hc : ((2 : Int) ^ b.toNat) = ((2 ^ b.toNat : Nat) : Int) := by simp
 rw [hc]
 generalize 2 ^ b.toNat = m at hp hp1
 omega
theorem dF {p : Prop} [Decidable p] (h : ¬ p) : decide p = false := decide_eq_false h
theorem dT {p : Prop} [Decidable p] (h : p) : decide p = true := decide_eq_true h
theorem neF {a b : Int} (h : a = b) : (a != b) = false := by simp [h]
theorem neT {a b : Int} (h : a ≠ b) : (a != b) = true := by simp [h]
theorem eqF {a b : Int} (h : a ≠ b) : (a == b) = false := by simp [h]
def eI (n : Int) : List PV := [.int .i64 n]
theorem getD_eI (xs : List Int) {i : Nat} (h : i < xs.length) : (xs.map eI).getD i [] = eI (xs.getD i 0) := by simp [h, List.getD_eq_getElem?_getD]
theorem len_eI (xs : List Int) : (xs.map eI).length = xs.length := by simp
def idxI {α : Type} (p : α → Bool) (X : List α) : Int := match X.findIdx? p with | some i => i | none => -1
theorem idxI_stop {α : Type} {p : α → Bool} {Z : List α} {i : Nat} (hi : i < Z.length) (h : ∀ (j : Nat) (hj : j < Z.length), j < i → p Z[j] = false) (hp : p Z[i] = true) : idxI p Z = i := by
 unfold idxI
 have : Z.findIdx? p = some i := by
  rw [List.findIdx?_eq_some_iff_getElem]
  exact ⟨hi, hp, fun j hj => by simp [h j (by omega) hj]⟩
 rw [this]
theorem idxI_end {α : Type} {p : α → Bool} {Z : List α} (h : ∀ (j : Nat) (hj : j < Z.length), p Z[j] = false) : idxI p Z = -1 := by
 unfold idxI
 have : Z.findIdx? p = none := by
  rw [List.findIdx?_eq_none_iff]
  intro x hx
  obtain ⟨j, hj, rfl⟩ := List.getElem_of_mem hx
  exact h j hj
 rw [this]
theorem idxI_any {α : Type} (p : α → Bool) (Z : List α) : decide (0 ≤ idxI p Z) = Z.any p := by
 unfold idxI
 cases h : Z.findIdx? p with
 | some i =>
  have h1 : decide ((0 : Int) ≤ ((i : Nat) : Int)) = true := by simp
  simp only [h1]
  rw [List.findIdx?_eq_some_iff_getElem] at h
  obtain ⟨hi, hp, _⟩ := h
  symm
  rw [List.any_eq_true]
  exact ⟨Z[i], List.getElem_mem hi, hp⟩
 | none =>
  simp only
  rw [List.findIdx?_eq_none_iff] at h
  have : Z.any p = false := by
   rw [List.any_eq_false]
   intro x hx; simp [h x hx]
  rw [this]; rfl
theorem Con.agree {P : Program} {f : FuncId} {args : List PV} {F F' : SF} {L nx top : Nat} {v : PV} {upd : List (Nm × SBlk)} {rd : List Nm} (h : Con P f args F L nx top v upd rd) (ha : ∀ n ∈ rd, F' n = F n) : Con P f args F' L nx top v upd rd :=
 ⟨h.1, fun F2 h2 => h.2 F2 fun n hn => (h2 n hn).trans (ha n hn)⟩
theorem wk_refl (F : SF) : ∀ x : PV, Wk F x x ∧ wkN x x = [] := by
 intro x
 induction x using PV.rec (motive_3 := fun l => WkL F l l ∧ wkNL l l = []) (motive_2 := fun _ => True) with
 | agg l ih => exact ⟨by simp only [Wk]; exact ih.1, by simp only [wkN]; exact ih.2⟩
 | tup l ih => exact ⟨by simp only [Wk]; exact ih.1, by simp only [wkN]; exact ih.2⟩
 | ifc t v ih => exact ⟨by simp only [Wk]; exact ⟨trivial, ih.1⟩, by simp only [wkN]; exact ih.2⟩
 | _ =>
  first
  | trivial
  | (rename_i x l ihx ihl; refine ⟨?_, ?_⟩; (simp only [WkL]; exact ⟨ihx.1, ihl.1⟩); (simp only [wkNL, ihx.2, ihl.2]; rfl))
  | (refine ⟨?_, ?_⟩ <;> simp only [Wk, wkN]; done)
  | (refine ⟨?_, ?_⟩ <;> simp only [WkL, wkNL]; done)
theorem wkL_refl (F : SF) : ∀ l : List PV, WkL F l l ∧ wkNL l l = []
 | [] => ⟨by simp only [WkL], by simp only [wkNL]⟩
 | x :: l => ⟨by simp only [WkL]; exact ⟨(wk_refl F x).1, (wkL_refl F l).1⟩, by simp only [wkNL, (wk_refl F x).2, (wkL_refl F l).2]; rfl⟩
theorem CallVC.same {P : Program} {f : FuncId} {args : List PV} {F : SF} {L nx top : Nat} {K : PV → List (Nm × SBlk) → List Nm → Nat → Prop} {v : PV} {upd : List (Nm × SBlk)} {rd : List Nm}
  (hc : Con P f args F L nx top v upd rd) (hk : K v upd rd top) : CallVC P f args F L nx K := by
 obtain ⟨h1, h2⟩ := wkL_refl F args
 refine CallVC.gen (args2 := args) (v := v) (upd := upd) (rd := rd) (top := top) h1 ?_ ?_
 ·rw [h2]; exact hc
 ·rw [h2]; exact hk
theorem CallVC.sameP {P : Program} {f : FuncId} {args : List PV} {F : SF} {L nx : Nat} {K : PV → List (Nm × SBlk) → List Nm → Nat → Prop} {v : PV}
  (hc : Con P f args (fun _ => none) L nx nx v [] []) (hp : plainP v = true) (hk : K v [] [] nx) : CallVC P f args F L nx K := by
 obtain ⟨h1, h2⟩ := wkL_refl F args
 refine CallVC.pure (args2 := args) h1 hc hp ?_
 rw [h2]; exact hk
end Go.Tx
end
section
namespace Go.Tx
open Go.Sx (lt_of_get)
mutual
def rn (σ : Nm → Nm) : PV → PV
 | .ptr n r c => .ptr (σ n) r c
 | .sl n r l => .sl (σ n) r l
 | .mp n => .mp (σ n)
 | .fn f x y => .fn f (rnL σ x) (rnL σ y)
 | .ifc t v => .ifc t (rn σ v)
 | .agg l => .agg (rnL σ l)
 | .tup l => .tup (rnL σ l)
 | v => v
def rnL (σ : Nm → Nm) : List PV → List PV
 | [] => []
 | v :: l => rn σ v :: rnL σ l
end
mutual
def nmA (D : Nm → Prop) : PV → Prop
 | .ptr n _ _ => D n
 | .sl n _ _ => D n
 | .mp n => D n
 | .fn _ x y => nmAL D x ∧ nmAL D y
 | .ifc _ v => nmA D v
 | .agg l => nmAL D l
 | .tup l => nmAL D l
 | _ => True
def nmAL (D : Nm → Prop) : List PV → Prop
 | [] => True
 | v :: l => nmA D v ∧ nmAL D l
end
mutual
theorem VR.rn {w : World} {Z : Nat → Prop} {E E' : Env} {σ : Nm → Nm} {D : Nm → Prop} (hE : ∀ n i, D n → E n = some i → E' (σ n) = some i) : ∀ (x : PV) (v : Value), nmA D x → VR w Z E x v → VR w Z E' (rn σ x) v
 | .bool _, v, _, h => by simpa [VR, Tx.rn] using h
 | .int _ _, v, _, h => by simpa [VR, Tx.rn] using h
 | .str _, v, _, h => by simpa [VR, Tx.rn] using h
 | .nilP, v, _, h => by simpa [VR, Tx.rn] using h
 | .nilS, v, _, h => by simpa [VR, Tx.rn] using h
 | .nilM, v, _, h => by simpa [VR, Tx.rn] using h
 | .nilF, v, _, h => by simpa [VR, Tx.rn] using h
 | .nilI, v, _, h => by simpa [VR, Tx.rn] using h
 | .ptr n _ _, v, hd, h => by
  simp only [nmA] at hd
  simp only [VR, Tx.rn] at h ⊢
  obtain ⟨i, hi, h⟩ := h
  exact ⟨i, hE n i hd hi, h⟩
 | .sl n _ _, v, hd, h => by
  simp only [nmA] at hd
  simp only [VR, Tx.rn] at h ⊢
  obtain ⟨i, hi, h⟩ := h
  exact ⟨i, hE n i hd hi, h⟩
 | .mp n, v, hd, h => by
  simp only [nmA] at hd
  simp only [VR, Tx.rn] at h ⊢
  obtain ⟨i, hi, h⟩ := h
  exact ⟨i, hE n i hd hi, h⟩
 | .fp _ _ _ _, v, _, h => by simp only [VR, Tx.rn] at h ⊢; exact h
 | .fs _ _, v, _, h => by simp only [VR, Tx.rn] at h ⊢; exact h
 | .fm _ _, v, _, h => by simp only [VR, Tx.rn] at h ⊢; exact h
 | .fn f x y, v, hd, h => by
  simp only [nmA] at hd
  simp only [VR, Tx.rn] at h ⊢
  obtain ⟨x', y', rfl, b1, b2⟩ := h
  exact ⟨x', y', rfl, VRl.rn hE x _ hd.1 b1, VRl.rn hE y _ hd.2 b2⟩
 | .ifc t u, v, hd, h => by
  simp only [nmA] at hd
  simp only [VR, Tx.rn] at h ⊢
  obtain ⟨u', rfl, b1⟩ := h
  exact ⟨u', rfl, VR.rn hE u _ hd b1⟩
 | .agg l, v, hd, h => by
  simp only [nmA] at hd
  simp only [VR, Tx.rn] at h ⊢
  obtain ⟨l', rfl, b0, b1⟩ := h
  exact ⟨l', rfl, b0, VRl.rn hE l _ hd b1⟩
 | .tup l, v, hd, h => by
  simp only [nmA] at hd
  simp only [VR, Tx.rn] at h ⊢
  obtain ⟨l', rfl, b1⟩ := h
  exact ⟨l', rfl, VRl.rn hE l _ hd b1⟩
theorem VRl.rn {w : World} {Z : Nat → Prop} {E E' : Env} {σ : Nm → Nm} {D : Nm → Prop} (hE : ∀ n i, D n → E n = some i → E' (σ n) = some i) : ∀ (x : List PV) (v : List Value), nmAL D x → VRl w Z E x v → VRl w Z E' (rnL σ x) v
 | [], v, _, h => by simpa [VRl, rnL] using h
 | x :: l, v, hd, h => by
  simp only [nmAL] at hd
  simp only [VRl, rnL] at h ⊢
  obtain ⟨u, t, rfl, b1, b2⟩ := h
  exact ⟨u, t, rfl, VR.rn hE x _ hd.1 b1, VRl.rn hE l _ hd.2 b2⟩
end
theorem rnL_length (σ : Nm → Nm) : ∀ l : List PV, (rnL σ l).length = l.length
 | [] => rfl
 | _ :: l => by simp [rnL, rnL_length σ l]
theorem rnL_get (σ : Nm → Nm) : ∀ (l : List PV) (c : Nat), (rnL σ l)[c]? = (l[c]?).map (rn σ)
 | [], c => by simp [rnL]
 | x :: l, 0 => by simp [rnL]
 | x :: l, c + 1 => by simp only [rnL, List.getElem?_cons_succ]; exact rnL_get σ l c
theorem nmAL_get {D : Nm → Prop} : ∀ {l : List PV}, nmAL D l → ∀ x ∈ l, nmA D x
 | [], _, x, hx => by cases hx
 | a :: l, h, x, hx => by
  simp only [nmAL] at h
  rcases List.mem_cons.1 hx with rfl | hx
  ·exact h.1
  ·exact nmAL_get h.2 x hx
def sg (L nx : Nat) (news : List Nat) (n : Nm) : Nm := if n.l = L + 1 then ⟨L, nx + news.idxOf n.i⟩ else n
def Dn (L : Nat) (news : List Nat) (n : Nm) : Prop := n.l ≤ L ∨ (n.l = L + 1 ∧ n.i ∈ news)
def kp (L nx : Nat) (news : List Nat) (n : Nm) : Nm := if n.l = L ∧ nx ≤ n.i ∧ n.i < nx + news.length then ⟨L + 1, news.getD (n.i - nx) 0⟩ else n
def rowsNm (D : Nm → Prop) : List (List PV) → Prop
 | [] => True
 | r :: l => nmAL D r ∧ rowsNm D l
def BN (L nx : Nat) (news : List Nat) (G : SF) : Option SBlk → SBlk → Prop
 | some (.rows e wd o p rs), .rows e' wd' o' p' rs' => e = e' ∧ wd = wd' ∧ (o' = true → o = true) ∧
   ((p = true ∧ p' = true ∧ rs = rs') ∨ (∃ rs1, WkLL G rs rs1 ∧ (∀ n ∈ wkNLL rs rs1, n.l = L + 1 ∧ n.i ∉ news) ∧ rowsNm (Dn L news) rs1 ∧ rs' = rs1.map (rnL (sg L nx news)) ∧ (p' = true → rs'.all nfl = true)))
 | some (.map o p ks vs), .map o' p' ks' vs' => (o' = true → o = true) ∧ p' = true ∧ p = true ∧ ks = ks' ∧ vs = vs'
 | _, .dead => True
 | _, _ => False
def UpdN (L nx : Nat) (news : List Nat) (G : SF) : List (Nm × SBlk) → Prop
 | [] => True
 | (n, b) :: l => n.l ≤ L ∧ BN L nx news G (G (kp L nx news n)) b ∧ UpdN L nx news G l
structure PostN (T : Tys) (F : SF) (rl : List ResultVar) (L nx : Nat) (v : PV) (upd : List (Nm × SBlk)) (k : Nat) (e : Exit) (st : St) : Prop where
 e : e = .normal ∨ e = .ret
 res : ∃ (news : List Nat) (p : Prop) (v0 v1 : PV), news.length = k ∧ news.Nodup ∧ resVal T (look F st.H) st.t rl = some (p, v0) ∧ p ∧ Wk (look F st.H) v0 v1 ∧ (∀ n ∈ wkN v0 v1, n.l = L + 1 ∧ n.i ∉ news) ∧ nmA (Dn L news) v1 ∧ v = rn (sg L nx news) v1 ∧
  UpdN L nx news (look F st.H) upd
 all : UpdAll L (keys upd) st.H
theorem UpdN.mem {L nx : Nat} {news : List Nat} {G : SF} {n : Nm} {b : SBlk} : ∀ {l : List (Nm × SBlk)}, UpdN L nx news G l → (n, b) ∈ l → n.l ≤ L ∧ BN L nx news G (G (kp L nx news n)) b
 | (m, c) :: l, h, hm => by
  rcases List.mem_cons.1 hm with hm | hm
  ·injection hm with h1 h2; subst h1; subst h2; exact ⟨h.1, h.2.1⟩
  ·exact UpdN.mem h.2.2 hm
theorem rowsNm_get {D : Nm → Prop} : ∀ {rs : List (List PV)}, rowsNm D rs → ∀ r ∈ rs, nmAL D r
 | [], _, r, h => by cases h
 | a :: l, h, r, hr => by
  rcases List.mem_cons.1 hr with rfl | hr
  ·exact h.1
  ·exact rowsNm_get h.2 r hr
theorem setAll_key {κ α : Type} [DecidableEq κ] {n : κ} : ∀ (x : List (κ × α)) (f : κ → Option α), n ∈ keys x → ∃ u, (n, u) ∈ x ∧ setAll f x n = some u := by
 intro x
 induction x with
 | nil => intro f h; cases h
 | cons a x ih =>
  intro f h
  obtain ⟨m, u⟩ := a
  simp only [setAll]
  by_cases hx : n ∈ keys x
  ·obtain ⟨u', q1, q2⟩ := ih (fun q => if q = m then some u else f q) hx
   exact ⟨u', by simp [q1], q2⟩
  ·simp only [keys, List.map_cons, List.mem_cons] at h
   rcases h with h | h
   ·subst h; exact ⟨u, by simp, by rw [setAll_not hx]; simp⟩
   ·exact absurd h hx
def cutF (L : Nat) (F : SF) : SF := fun n => if n.l ≤ L then F n else none
theorem cutF_le (L : Nat) (F : SF) : SLe (cutF L F) F := by
 intro n b hb
 simp only [cutF] at hb
 split at hb
 ·exact .inr (.inl hb)
 ·cases hb
theorem cgives_of {E E' : Env} {F2 : SF} {w w' : World} {L nx k : Nat} {st : St} {upd : List (Nm × SBlk)} {news : List Nat} {v0 v1 : PV} {v' : Value} (hR : HRel E F2 w) (hfr : ∀ j, nx ≤ j → j < nx + k → E ⟨L, j⟩ = none) (hdp : ∀ n : Nm, L < n.l → E n = none)
  (hstep0 : StepR E (cutF L F2) w E' (look (cutF L F2) st.H) w') (hnews : ∀ n, E n = none → E' n ≠ none → n.l = L + 1) (hk : news.length = k) (hnd : news.Nodup) (q3 : Wk (look (cutF L F2) st.H) v0 v1) (q4 : ∀ n ∈ wkN v0 v1, n.l = L + 1 ∧ n.i ∉ news) (q5 : nmA (Dn L news) v1)
  (hok : UpdN L nx news (look (cutF L F2) st.H) upd) (hall : UpdAll L (keys upd) st.H) (r2 : VR w' (Zn E' (look (cutF L F2) st.H) w') E' v0 v') : CGives E F2 w L nx (nx + k) (rn (sg L nx news) v1) upd v' w' := by
 have h3 := cutF_le L F2
 let F3 := cutF L F2
 let G := look F3 st.H
 let Fm : SF := fun n => if n.l ≤ L ∨ n.i ∈ news then G n else none
 have hm : SLe Fm G := by
  intro n b hb
  simp only [Fm] at hb
  split at hb
  ·exact .inr (.inl hb)
  ·cases hb
 have hSm := StepR.less hstep0.rel hm
 let E2 : Env := fun n => if n.l ≤ L then (match E n with | some i => some i | none => if n.l = L ∧ nx ≤ n.i ∧ n.i < nx + news.length then E' (kp L nx news n) else none) else none
 have hlE : ∀ n i, E n = some i → n.l ≤ L := by
  intro n i hi
  rcases Nat.lt_or_ge L n.l with h | h
  ·rw [hdp n h] at hi; cases hi
  ·exact h
 have hkE : ∀ n i, E n = some i → kp L nx news n = n := by
  intro n i hi
  unfold kp
  rw [if_neg]
  rintro ⟨h1, h2, h3⟩
  have := hfr n.i h2 (by omega)
  have e : n = ⟨L, n.i⟩ := by cases n; simp at h1; subst h1; rfl
  rw [e, this] at hi; cases hi
 have hEE : ∀ n i, E n = some i → E' n = some i ∧ E2 n = some i := by
  intro n i hi
  exact ⟨hstep0.le n i hi, by simp only [E2]; rw [if_pos (hlE n i hi), hi]⟩
 have hE2 : ∀ n i, E2 n = some i → n.l ≤ L ∧ E' (kp L nx news n) = some i ∧ ((E n = some i ∧ kp L nx news n = n) ∨ (E n = none ∧ n.l = L ∧ nx ≤ n.i ∧ n.i < nx + news.length)) := by
  intro n i hi
  simp only [E2] at hi
  split at hi
  rotate_left
  ·cases hi
  rename_i hl
  cases he : E n with
  | some j =>
   rw [he] at hi; simp only at hi; injection hi with hi; subst hi
   have := hkE n j he
   exact ⟨hl, by rw [this]; exact hstep0.le n j he, .inl ⟨rfl, this⟩⟩
  | none =>
   rw [he] at hi; simp only at hi
   split at hi
   ·rename_i hw; exact ⟨hl, hi, .inr ⟨rfl, hw⟩⟩
   ·cases hi
 have hsig : ∀ n i, Dn L news n → E' n = some i → E2 (sg L nx news n) = some i := by
  intro n i hD hi
  rcases hD with hD | ⟨hD1, hD2⟩
  ·have e : sg L nx news n = n := by unfold sg; rw [if_neg (by omega)]
   rw [e]
   cases he : E n with
   | none => have := hnews n he (by rw [hi]; simp); omega
   | some j =>
    obtain ⟨a1, a2⟩ := hEE n j he
    rw [a1] at hi; rw [a2]; exact hi
  ·have hlt := List.idxOf_lt_length_of_mem hD2
   have e : sg L nx news n = ⟨L, nx + news.idxOf n.i⟩ := by unfold sg; rw [if_pos hD1]
   rw [e]
   simp only [E2]
   rw [if_pos (Nat.le_refl _), hfr _ (by omega) (by omega)]
   simp only
   rw [if_pos ⟨trivial, by omega, by omega⟩]
   have e2 : kp L nx news ⟨L, nx + news.idxOf n.i⟩ = n := by
    unfold kp
    rw [if_pos ⟨rfl, by simp, by simp; omega⟩]
    simp only [Nat.add_sub_cancel_left]
    have : news.getD (news.idxOf n.i) 0 = n.i := by
     rw [List.getD_eq_getElem?_getD, List.getElem?_eq_getElem hlt]; simp
    rw [this]
    cases n; simp at hD1; subst hD1; rfl
   rw [e2]; exact hi
 let F' := F2.upd upd
 have hBlive : ∀ {ob : Option SBlk} {b : SBlk}, BN L nx news G ob b → b.live = true → ∃ b0, ob = some b0 ∧ b0.live = true ∧ (b.own = true → b0.own = true) := by
  intro ob b hb hl
  cases ob with
  | none => cases b <;> first | exact (show False from hb).elim | (cases hl; done)
  | some b0 =>
   refine ⟨b0, rfl, ?_⟩
   cases b0 <;> cases b <;> first | exact (show False from hb).elim | (cases hl; done) | skip
   ·exact ⟨rfl, hb.2.2.1⟩
   ·exact ⟨rfl, hb.1⟩
 have hF' : ∀ n b, F' n = some b → b.live = true → n.l ≤ L ∧ ((n ∈ keys upd ∧ BN L nx news G (G (kp L nx news n)) b) ∨ (n ∉ keys upd ∧ F2 n = some b ∧ G n = some b ∧ kp L nx news n = n)) := by
  intro n b hn hl
  have hn' : setAll F2 upd n = some b := by rw [← upd_eq]; exact hn
  by_cases hk : n ∈ keys upd
  ·obtain ⟨u, u1, u2⟩ := setAll_key upd F2 hk
   rw [hn'] at u2; injection u2 with u2; subst u2
   obtain ⟨c1, c2⟩ := hok.mem u1
   exact ⟨c1, .inl ⟨hk, c2⟩⟩
  ·rw [setAll_not hk] at hn'
   obtain ⟨i, hi⟩ := (hR.blk n b hn').def_ hl
   have hll := hlE n i hi
   refine ⟨hll, .inr ⟨hk, hn', ?_, hkE n i hi⟩⟩
   show look F3 st.H n = some b
   rw [hall.look hll hk]
   simp only [F3, cutF]; rw [if_pos hll]; exact hn'
 have hFm : ∀ n b, F' n = some b → b.live = true → ∃ b0, G (kp L nx news n) = some b0 ∧ b0.live = true ∧ (b.own = true → b0.own = true) := by
  intro n b hn hl
  obtain ⟨h1, h2⟩ := hF' n b hn hl
  rcases h2 with ⟨_, h2⟩ | ⟨_, _, h2, h4⟩
  ·exact hBlive h2 hl
  ·exact ⟨b, by rw [h4]; exact h2, hl, id⟩
 have hkin : ∀ n, n.l ≤ L → (kp L nx news n).l ≤ L ∨ (kp L nx news n).i ∈ news := by
  intro n hn
  unfold kp
  split
  ·rename_i hw
   right
   simp only
   rw [List.getD_eq_getElem?_getD, List.getElem?_eq_getElem (by omega)]
   simp
  ·exact .inl hn
 have hzone : ∀ q, Zn E' Fm w' q → Zn E2 F' w' q := by
  rintro q ⟨k1, k2⟩
  refine ⟨k1, fun n b i hn ho hi hz he => ?_⟩
  obtain ⟨b0, c1, _, c3⟩ := hFm n b hn (live_of_own ho)
  obtain ⟨e1, e2, _⟩ := hE2 n i hi
  exact k2 _ b0 i (by simp only [Fm]; rw [if_pos (hkin n e1)]; exact c1) (c3 ho) e2 hz he
 have hzone' : ∀ q, Zn E' G w' q → Zn E2 F' w' q := fun q hq => hzone q (hSm.ext.zone q hq)
 have hwk : ∀ (x y : PV) (u : Value), Wk G x y → (∀ n ∈ wkN x y, n.l = L + 1 ∧ n.i ∉ news) → nmA (Dn L news) y → VR w' (Zn E' G w') E' x u → VR w' (Zn E2 F' w') E2 (rn (sg L nx news) y) u := by
  intro x y u h1 h2 h3 h4
  have := wk_vr hstep0.rel hm x y u h1 (fun n hn b hb => by
   have := h2 n hn
   simp only [Fm] at hb
   rw [if_neg (by rintro (h | h); omega; exact this.2 h)] at hb; cases hb) h4
  have := VR.mono (E' := E') (Z' := Zn E2 F' w') ⟨Env.le.refl _, hzone, fun _ _ => rfl⟩ _ _ this
  exact VR.rn hsig y u h3 this
 have hrelF : HRel E2 F' w' := by
  refine ⟨fun n b hn => ?_, fun n m b d i j hn hm' hnm ho hl hi hj hin hjn => ?_⟩
  ·by_cases hl : b.live = true
   rotate_left
   ·cases b <;> first | trivial | exact absurd rfl hl
   obtain ⟨h1, h2⟩ := hF' n b hn hl
   rcases h2 with ⟨hk', h2⟩ | ⟨hk', h2, h4, h5⟩
   rotate_left
   ·have := BRel.back hEE (hR.blk n b h2) (hstep0.rel.blk n b h4)
    exact this.mono ⟨Env.le.refl _, hzone', fun _ _ => rfl⟩ fun _ _ _ => rfl
   obtain ⟨b0, g1, g2, g3⟩ := hBlive h2 hl
   have hb0 := hstep0.rel.blk _ b0 g1
   rw [g1] at h2
   have hin : ∀ i, E' (kp L nx news n) = some i → E2 n = some i := by
    intro i hi
    by_cases hw : n.l = L ∧ nx ≤ n.i ∧ n.i < nx + news.length
    ·have he : E n = none := by
      have e : n = ⟨L, n.i⟩ := by cases n; simp at hw; obtain ⟨rfl, _⟩ := hw; rfl
      rw [e]; exact hfr _ hw.2.1 (by omega)
     simp only [E2]
     rw [if_pos h1, he]
     simp only
     rw [if_pos hw]; exact hi
    ·have e : kp L nx news n = n := by unfold kp; rw [if_neg hw]
     rw [e] at hi
     have e2 : sg L nx news n = n := by unfold sg; rw [if_neg (by omega)]
     have := hsig n i (.inl h1) hi
     rw [e2] at this; exact this
   cases b0 <;> cases b <;> first | exact (show False from h2).elim | (cases hl; done) | skip
   ·rename_i e wd o p rs e' wd' o' p' rs'
    obtain ⟨rfl, rfl, ho, hrs⟩ := h2
    obtain ⟨i, hi, hor⟩ := hb0
    refine ⟨i, hin i hi, ?_⟩
    rcases hor with ⟨z1, rfl, z3, z4⟩ | ⟨hz, hRr⟩
    ·refine .inl ⟨z1, ?_, z3, z4⟩
     rcases hrs with ⟨_, _, rfl⟩ | ⟨rs1, hrs, _, _, rfl, _⟩
     ·rfl
     ·cases rs1 with
      | nil => rfl
      | cons a l => simp [WkLL] at hrs
    ·refine .inr ⟨hz, ?_⟩
     obtain ⟨cs, fz, b1, b2, b3, b4⟩ := hRr.cells
     rcases hrs with ⟨rfl, rfl, rfl⟩ | ⟨rs1, hrs, hns, hnm, rfl, hnf⟩
     ·exact ⟨hRr.wd_eq, hRr.o0, hRr.wd_pos, hRr.len, hRr.le, hRr.cap, cs, fz, b1, b2, fun h => b3 (ho h), VRr.mono ⟨Env.le.refl _, hzone', fun _ _ => rfl⟩ _ _ _ b4⟩
     ·obtain ⟨l1, l2⟩ := wkLL_get hrs
      have hlen1 : ∀ row ∈ rs1, row.length = wd := by
       intro row hrow
       obtain ⟨r, hr⟩ := List.getElem?_of_mem hrow
       have hlt := lt_of_get hr
       have hr0 := List.getElem?_eq_getElem (l := rs) (i := r) (by omega)
       obtain ⟨k1, _⟩ := l2 r _ row hr0 hr
       rw [← (wkL_get k1).1]
       exact hRr.len _ (List.mem_of_getElem? hr0)
      have hlen' : ∀ row ∈ rs1.map (rnL (sg L nx news)), row.length = wd := by
       intro row hrow
       obtain ⟨row1, h, rfl⟩ := List.mem_map.1 hrow
       rw [rnL_length]; exact hlen1 row1 h
      have hcells : VRr w' (Zn E2 F' w') E2 (rs1.map (rnL (sg L nx news))) i.o cs := by
       refine (VRr_iff hlen').2 fun r row' c y hr' hc' => ?_
       rw [List.getElem?_map] at hr'
       cases hr1 : rs1[r]? with
       | none => rw [hr1] at hr'; cases hr'
       | some row1 =>
        rw [hr1] at hr'; simp at hr'; subst hr'
        rw [rnL_get] at hc'
        cases hc1 : row1[c]? with
        | none => rw [hc1] at hc'; cases hc'
        | some y1 =>
         rw [hc1] at hc'; simp at hc'; subst hc'
         have hlt := lt_of_get hr1
         have hr0 := List.getElem?_eq_getElem (l := rs) (i := r) (by omega)
         obtain ⟨k1, k2⟩ := l2 r _ row1 hr0 hr1
         obtain ⟨k3, k4⟩ := wkL_get k1
         have hct := lt_of_get hc1
         have hc0 := List.getElem?_eq_getElem (l := rs[r]) (i := c) (by omega)
         obtain ⟨k5, k6⟩ := k4 c _ y1 hc0 hc1
         obtain ⟨u, a1, a2, a3⟩ := (VRr_iff hRr.len).1 b4 r _ c _ hr0 hc0
         exact ⟨u, a1, a2, hwk _ y1 u k5 (fun n hn => hns n (k2 n (k6 n hn))) (nmAL_get (rowsNm_get hnm row1 (List.mem_of_getElem? hr1)) y1 (List.mem_of_getElem? hc1)) (VR.up a3)⟩
      refine ⟨hRr.wd_eq, hRr.o0, hRr.wd_pos, hlen', by rw [List.length_map, ← l1]; exact hRr.le, hRr.cap, cs, fz, b1, b2, fun h => b3 (ho h), ?_⟩
      cases p' with
      | false => exact hcells
      | true =>
       have hnf := hnf rfl
       rw [List.all_eq_true] at hnf
       refine (VRr_iff hlen').2 fun r row c y hr hc => ?_
       obtain ⟨u, a1, a2, a3⟩ := (VRr_iff hlen').1 hcells r row c y hr hc
       exact ⟨u, a1, a2, VR.nf y u (nfl_get (hnf row (List.mem_of_getElem? hr)) y (List.mem_of_getElem? hc)) a3⟩
   ·rename_i o p ks vs o' p' ks' vs'
    obtain ⟨ho, rfl, rfl, rfl, rfl⟩ := h2
    obtain ⟨i, hi, hz, ents, clk, hb, hmr⟩ := hb0
    have hX0 : Ext Env.no w' (Zn E' G w') Env.no w' (Zn E2 F' w') := ⟨Env.le.refl _, hzone', fun _ _ => rfl⟩
    exact ⟨i, hin i hi, hz, ents, clk, hb, VRl.mono hX0 _ _ hmr.1, VRl.mono hX0 _ _ hmr.2⟩
  ·obtain ⟨b0, c1, _, c3⟩ := hFm n b hn (live_of_own ho)
   obtain ⟨d0, d1, d2, _⟩ := hFm m d hm' hl
   obtain ⟨n1, n2, n3⟩ := hE2 n i hi
   obtain ⟨m1, m2, m3⟩ := hE2 m j hj
   refine hstep0.rel.sep _ _ b0 d0 i j c1 d1 ?_ (c3 ho) d2 n2 m2 hin hjn
   intro he
   apply hnm
   rcases n3 with ⟨_, n3⟩ | ⟨_, n3⟩ <;> rcases m3 with ⟨_, m3⟩ | ⟨_, m3⟩
   ·rw [n3, m3] at he; exact he
   ·rw [n3] at he
    have : (kp L nx news m).l = L + 1 := by unfold kp; rw [if_pos m3]
    rw [← he] at this; omega
   ·rw [m3] at he
    have : (kp L nx news n).l = L + 1 := by unfold kp; rw [if_pos n3]
    rw [he] at this; omega
   ·unfold kp at he
    rw [if_pos n3, if_pos m3] at he
    injection he with _ he
    rw [List.getD_eq_getElem?_getD, List.getD_eq_getElem?_getD, List.getElem?_eq_getElem (by omega), List.getElem?_eq_getElem (by omega)] at he
    simp only [Option.getD_some] at he
    have := (List.getElem_inj hnd).1 he
    cases n; cases m
    simp at n3 m3 this ⊢
    omega
 have hstep : StepR E F2 w E2 F' w' := by
  refine ⟨fun n i hi => (hEE n i hi).2, hrelF, hstep0.os, hstep0.tape, hstep0.output, hstep0.size, fun q hq hno => ?_, fun n b i hn ho hi hin => ?_⟩
  ·refine hstep0.keep q hq fun n b i hn ho hi hin => hno n b i (h3.own hn ho) ho hi hin
  ·obtain ⟨b0, c1, _, c3⟩ := hFm n b hn (live_of_own ho)
   obtain ⟨_, e2, _⟩ := hE2 n i hi
   rcases hstep0.own _ b0 i c1 (c3 ho) e2 hin with h | ⟨m, d, j, m1, m2, m3, m4, m5⟩
   ·exact .inl h
   ·exact .inr ⟨m, d, j, h3.own m1 m2, m2, m3, m4, m5⟩
 show CGives E F2 w L nx (nx + k) (rn (sg L nx news) v1) upd v' w'
 refine ⟨E2, hwk v0 v1 v' q3 q4 q5 r2, hstep, fun n h1 h2 => ?_⟩
 cases he : E2 n with
 | none => exact absurd he h2
 | some i =>
  obtain ⟨_, _, h⟩ := hE2 n i he
  rcases h with ⟨h, _⟩ | ⟨_, h⟩
  ·rw [h1] at h; cases h
  ·exact ⟨h.1, h.2.1, by omega⟩
theorem ICon.con {P : Program} {f : FuncId} {args : List PV} {F : SF} {L nx top : Nat} {v : PV} {upd : List (Nm × SBlk)} {rd : List Nm} (h : ICon P [] f args F L nx top v upd rd) : Con P f args F L nx top v upd rd :=
 ⟨h.1, fun F2 hF E w args' hR hfr hdp ha => h.2 F2 hF E w args' hR hfr hdp ha InvY.nil⟩
theorem Sub.nilName {L : Nat} {F0 : SF} {t : List (Option PV)} {H : List (Nm × SBlk)} {nx : Nat} (d : Nat) (e : TypeId) {wd : Nat} (hwd : 0 < wd) (hd : t[d]? = some (some .nilS)) :
  Sub L F0 ⟨t, H, nx⟩ ⟨t.set d (some (.sl ⟨L, nx⟩ 0 0)), updH H [(⟨L, nx⟩, .rows e wd true true [])], nx + 1⟩ := by
 intro B E0 w0 E a w hd0 hR
 have hf := (hR.fresh hd0).1 nx (Nat.le_refl _)
 have hS := StepR.emptyName hR.step.rel hf e hwd true none
 have hl : look F0 (updH H [(⟨L, nx⟩, SBlk.rows e wd true true [])]) = (look F0 H).set ⟨L, nx⟩ (.rows e wd true true []) := by rw [look_updH]; rfl
 refine ⟨E.set ⟨L, nx⟩ ⟨0, 0, wd, 0, true, none⟩, by rw [hl]; exact hR.step.trans hS, ⟨by simpa using hR.tmps.size, fun i v hv => ?_⟩, by rw [hl]; exact hR.marks.mono hS.ext, fun n h1 h2 => ?_⟩
 ·simp only [TF, List.getD_eq_getElem?_getD, List.getElem?_set] at hv
  by_cases hi : d = i
  ·subst hi
   rw [if_pos rfl] at hv
   have hlt := lt_of_get hd
   rw [if_pos hlt] at hv
   simp at hv; subst hv
   obtain ⟨v', a1, a2⟩ := hR.tmps.val d .nilS (by simp [TF, List.getD_eq_getElem?_getD, hd])
   refine ⟨v', a1, ?_⟩
   simp only [VR] at a2 ⊢
   subst a2
   exact ⟨_, Env.set_self _ _ _, .inl ⟨rfl, trivial, rfl⟩⟩
  ·rw [if_neg hi] at hv
   obtain ⟨v', a1, a2⟩ := hR.tmps.val i v (by simpa [TF, List.getD_eq_getElem?_getD] using hv)
   exact ⟨v', a1, by rw [hl]; exact VR.mono hS.ext _ _ a2⟩
 ·by_cases he : n = ⟨L, nx⟩
  ·subst he; exact ⟨rfl, by simp⟩
  ·rw [Env.set_ne E _ he] at h2
   have := hR.news n h1 h2
   exact ⟨this.1, by simp only at this ⊢; omega⟩
theorem Sub.trans {L : Nat} {F0 : SF} {s s1 s2 : St} (h : Sub L F0 s s1) (k : Sub L F0 s1 s2) : Sub L F0 s s2 := fun B E0 w0 E a w hd hR => by
 obtain ⟨E1, h1⟩ := h B E0 w0 E a w hd hR
 exact k B E0 w0 E1 a w hd h1
def PostS (T : Tys) (F : SF) (rl : List ResultVar) (L nx : Nat) (v : PV) (upd : List (Nm × SBlk)) (k : Nat) (e : Exit) (st : St) : Prop := ∃ st', Sub (L + 1) F st st' ∧ PostN T F rl L nx v upd k e st'
theorem PostS.now {T : Tys} {F : SF} {rl : List ResultVar} {L nx : Nat} {v : PV} {upd : List (Nm × SBlk)} {k : Nat} {e : Exit} {st : St} (h : PostN T F rl L nx v upd k e st) : PostS T F rl L nx v upd k e st := ⟨st, Sub.refl _ _ _, h⟩
section
variable {C : Cx}
theorem ICon.bodyN (hC : C.Ok) (hro : C.ro = none) {f : FuncId} {fn : Func} {c : Code} (hf : C.P.funcs[f]? = some fn) (hb : fn.body = some c) (hnum : (fn.name == "runtime.NumGoroutine") = false) {args : List PV} {F : SF} {L nx k : Nat} (hL : C.L = L + 1) {v : PV} {upd : List (Nm × SBlk)} {rd : List Nm} (hrd : ∀ n ∈ rd, n.l ≤ L)
  (H : ∀ F3 : SF, (∀ n ∈ rd, F3 n = F n) → (∀ n : Nm, L < n.l → F3 n = none) → vcC C F3 c ⟨initT args fn.ntmps, [], 0⟩ (PostS C.T F3 fn.results.toList L nx v upd k)) (hdi : C.dies = false := by rfl) (hB : C.B = [] := by rfl) : ICon C.P C.ys f args F L nx (nx + k) v upd rd := by
 refine ⟨by omega, fun F2 hF2 E w args' hR hfr hdp hargs hy => ?_⟩
 let F3 : SF := cutF L F2
 have h3 : SLe F3 F2 := cutF_le L F2
 have hS0 := StepR.less hR h3
 have hvc := H F3 (fun n hn => by simp only [F3, cutF]; rw [if_pos (hrd n hn)]; exact hF2 n hn) (fun n hn => by simp only [F3, cutF]; rw [if_neg (by omega)])
 have hdom : Dom0 C.L E := fun n hn => hdp n (by omega)
 have htp := vcC_ok (w0 := w) hdi hC hdom (hy.step hR hS0) hS0.rel c _ _ hvc
 have hargs3 := VRl.mono hS0.ext _ _ hargs
 obtain ⟨hlen, hget⟩ := VRl.get hargs3
 have hrel : Rel C.B C.L F3 E w E ⟨initT args fn.ntmps, [], 0⟩ { tmps := args'.toArray ++ Array.replicate (fn.ntmps - args'.toArray.size) undef, defers := [] } w := by
  refine ⟨StepR.refl hS0.rel, ⟨by simp [initT, hlen], fun i x hx => ?_⟩, (by rw [hB]; exact MarksOk.nil), fun n h1 h2 => absurd h1 h2⟩
  simp only [TF, initT] at hx
  rw [List.getD_eq_getElem?_getD] at hx
  by_cases hi : i < args.length
  ·rw [List.getElem?_append_left (by simpa using hi)] at hx
   simp only [List.getElem?_map] at hx
   cases hy : args[i]? with
   | none => rw [hy] at hx; cases hx
   | some y =>
    rw [hy] at hx; simp at hx; subst hx
    obtain ⟨v', a1, a2⟩ := hget i y hy
    refine ⟨v', ?_, a2⟩
    rw [Array.getElem?_append_left (by simp; omega)]
    simpa using a1
  ·rw [List.getElem?_append_right (by simp; omega)] at hx
   simp only [List.length_map, List.getElem?_replicate] at hx
   split at hx
   rotate_left
   ·cases hx
   rename_i hlt
   simp at hx; subst hx
   refine ⟨undef, ?_, VR_undef⟩
   rw [Array.getElem?_append_right (by simp; omega)]
   simp only [List.size_toArray, Array.getElem?_replicate]
   rw [if_pos (by omega)]
 have hcall : Calls C.P f args'.toArray w fun e w' => ∃ v', e = .returned v' ∧ CGives E F2 w L nx (nx + k) v upd v' w' := by
  rw [← callsIn_wide (n := 0)]
  refine callsIn_of_wp_marks hf hb trivial ?_
  have hW : W C.ro = Fence.wide := by rw [hro]; rfl
  rw [← hW]
  refine wpIn_mono (htp _ _ E hrel) ?_
  rintro e a w' ⟨st0, ⟨st, hsub, hP⟩, E0', hRl0⟩
  rw [← hL] at hsub
  obtain ⟨E', hRl⟩ := hsub C.B E w E0' a w' hdom hRl0
  obtain ⟨Ds, d1, d2, d3⟩ := hRl.marks
  have key : LeavesInM (W C.ro) 0 C.P fn a.tmps (fun e w' => ∃ v', e = .returned v' ∧ CGives E F2 w L nx (nx + k) v upd v' w') a.defers .returning w' := by
   rw [d2, hB]
   refine marks_out (by simp) Ds w' d1 (fun D hD => ⟨(d3 D hD).1, (d3 D hD).2.2⟩) hRl.step hRl.tmps fun w'' s1 s2 => ?_
   obtain ⟨news, p, v0, v1, hk, hnd, q1, q2, q3, q4, q5, rfl, hok⟩ := hP.res
   obtain ⟨v', r1, r2⟩ := run_res hC.T s1.rel s2 q1 q2
   exact ⟨v', r1, v', rfl, cgives_of hR hfr hdp s1 (fun n h1 h2 => by have := (hRl.news n h1 h2).1; omega) hk hnd q3 q4 q5 hok hP.all r2⟩
  rcases hP.e with rfl | rfl
  ·exact key
  ·exact key
 have hrun : (callFunc f args'.toArray).run C.P w = .ok (.enter f args'.toArray) w := callFunc_run hf (by rw [hb]; rfl) hnum
 rw [hrun]
 exact hcall
theorem Con.bodyN (hC : C.Ok) (hro : C.ro = none) (hys : C.ys = []) {f : FuncId} {fn : Func} {c : Code} (hf : C.P.funcs[f]? = some fn) (hb : fn.body = some c) (hnum : (fn.name == "runtime.NumGoroutine") = false) {args : List PV} {F : SF} {L nx k : Nat} (hL : C.L = L + 1) {v : PV} {upd : List (Nm × SBlk)} {rd : List Nm} (hrd : ∀ n ∈ rd, n.l ≤ L)
  (H : ∀ F3 : SF, (∀ n ∈ rd, F3 n = F n) → (∀ n : Nm, L < n.l → F3 n = none) → vcC C F3 c ⟨initT args fn.ntmps, [], 0⟩ (PostS C.T F3 fn.results.toList L nx v upd k)) (hdi : C.dies = false := by rfl) (hB : C.B = [] := by rfl) : Con C.P f args F L nx (nx + k) v upd rd := by
 have h := ICon.bodyN hC hro hf hb hnum hL (nx := nx) hrd H hdi hB
 rw [hys] at h
 exact h.con
end
end Go.Tx
end
section
namespace Go.Tx
open Go.Sx (lt_of_get)
def setPs (t : List (Option PV)) : List (Nat × PV) → List (Option PV)
 | [] => t
 | (p, v) :: l => setPs (t.set p (some v)) l
theorem TRelF.setPs {w : World} {Z : Nat → Prop} {E : Env} : ∀ (ps : List Nat) (args : List PV) (args' : List Value) (t : List (Option PV)) (a : Array Value), TRelF w Z E (TF t) t.length a → VRl w Z E args args' → (∀ p ∈ ps, p < t.length) →
  TRelF w Z E (TF (setPs t (ps.zip args))) (setPs t (ps.zip args)).length ((ps.zip args').foldl (fun tmps (p, v) => tmps.setIfInBounds p v) a) ∧ (setPs t (ps.zip args)).length = t.length
 | [], args, args', t, a, h, _, _ => by simpa [Tx.setPs] using h
 | p :: ps, [], args', t, a, h, hv, _ => by
  simp only [VRl] at hv
  subst hv
  simpa [Tx.setPs] using h
 | p :: ps, x :: args, args', t, a, h, hv, hp => by
  simp only [VRl] at hv
  obtain ⟨v, tl, rfl, h1, h2⟩ := hv
  simp only [List.zip_cons_cons, Tx.setPs, List.foldl_cons]
  have hlt := hp p (by simp)
  have hT : TRelF w Z E (TF (t.set p (some x))) (t.set p (some x)).length (a.setIfInBounds p v) := by
   refine ⟨by simpa using h.size, fun i u hu => ?_⟩
   simp only [TF, List.getD_eq_getElem?_getD, List.getElem?_set] at hu
   by_cases hi : p = i
   ·subst hi
    rw [if_pos rfl, if_pos hlt] at hu
    simp at hu; subst hu
    exact ⟨v, by simp [Array.getElem?_setIfInBounds, h.size, hlt], h1⟩
   ·rw [if_neg hi] at hu
    obtain ⟨v', a1, a2⟩ := h.val i u (by simpa [TF, List.getD_eq_getElem?_getD] using hu)
    exact ⟨v', by rw [Array.getElem?_setIfInBounds_ne (by omega)]; exact a1, a2⟩
  obtain ⟨g1, g2⟩ := TRelF.setPs ps args tl (t.set p (some x)) (a.setIfInBounds p v) hT h2 (fun q hq => by simpa using hp q (by simp [hq]))
  exact ⟨g1, by rw [g2, List.length_set]⟩
theorem MarksOk.turn {B : List Deferred} {n0 : Nat} {E : Env} {F : SF} {w w' : World} {ds : List Deferred} {D : Nat} {r : Loop} (h : MarksOk B n0 (Zn E F w) w ds) (hl : w.heap[D]? = some (.loop r)) (ht : Turn D w w') : MarksOk B n0 (Zn E F w') w' ds := by
 obtain ⟨Ds, h1, h2, h3⟩ := h
 refine ⟨Ds, h1, h2, fun D' h' => ?_⟩
 obtain ⟨a, b, c⟩ := h3 D' h'
 have hne : D' ≠ D := by
  rintro rfl
  rw [hl] at c
  cases c
 exact ⟨a, ⟨by rw [ht.size]; exact b.1, b.2⟩, (ht.keep _ hne).trans c⟩
def PostY (F : SF) (L nx : Nat) (upd : List (Nm × SBlk)) (k : Nat) (e : Exit) (st : St) : Prop :=
 e = .normal ∧ ∃ st', Sub (L + 1) F st st' ∧ ∃ news : List Nat, news.length = k ∧ news.Nodup ∧ UpdN L nx news (look F st'.H) upd ∧ UpdAll L (keys upd) st'.H
theorem YCon.body {C : Cx} (hC : C.Ok) {y : YRec} (hro : C.ro = some y.l) (hys : C.ys = []) {args : List PV} {F : SF} {L nx k : Nat} (hL : C.L = L + 1) {upd : List (Nm × SBlk)} {rd : List Nm} (hrd : ∀ n ∈ rd, n.l ≤ L) (hlen : args.length = y.R.params.size) (hps : ∀ p ∈ y.R.params.toList, p < y.t.length)
  (H : ∀ F3 : SF, (∀ n ∈ rd, F3 n = F n) → (∀ n : Nm, L < n.l → F3 n = none) → vcC C F3 y.R.assign ⟨setPs y.t (y.R.params.toList.zip args), [], 0⟩ (thenQ (fun st => vcC C F3 y.R.body st (PostY F3 L nx upd k)) (fun _ _ => False))) (hdi : C.dies = false := by rfl) (hB : C.B = [] := by rfl) :
  YCon C.P y args F L nx (nx + k) (.bool true) upd rd := by
 refine ⟨by omega, fun F2 hF2 E w args' hR hfr hdp hargs hy => ?_⟩
 obtain ⟨hst, hpe, hheap, htm⟩ := hy y (by simp)
 have hlen' : args'.length = y.R.params.size := by rw [(VRl.get hargs).1]; exact hlen
 refine ⟨hlen', roundIn_of_wpIn (F := W none) trivial ?_⟩
 let F3 : SF := cutF L F2
 have h3 : SLe F3 F2 := cutF_le L F2
 have hS0 := StepR.less hR h3
 have hvc := H F3 (fun n hn => by simp only [F3, cutF]; rw [if_pos (hrd n hn)]; exact hF2 n hn) (fun n hn => by simp only [F3, cutF]; rw [if_neg (by omega)])
 have hdom : Dom0 C.L E := fun n hn => hdp n (by omega)
 have hno := noData_loop hheap
 have hlt := heap_lt hheap
 let B : Obj := .loop { y.R with state := .busy }
 let wb := w.putObj y.l B
 have tb : Turn y.l w wb := turn_put w y.l B
 have hRb : HRel E F3 wb := hS0.rel.turn hno tb
 have hbl : wb.heap[y.l]? = some B := World.putObj_heap_same hlt
 obtain ⟨ht1, ht2⟩ := TRelF.setPs y.R.params.toList args args' y.t y.R.tmps (htm.mono hS0.ext) (VRl.mono hS0.ext _ _ hargs) hps
 have hfold : (y.R.params.zip args'.toArray).foldl (fun tmps (x : Tmp × Value) => tmps.setIfInBounds x.1 x.2) y.R.tmps = (y.R.params.toList.zip args').foldl (fun tmps (x : Nat × Value) => tmps.setIfInBounds x.1 x.2) y.R.tmps := by
  rw [← Array.foldl_toList]; simp
 have hrel : Rel C.B C.L F3 E w E ⟨setPs y.t (y.R.params.toList.zip args), [], 0⟩ { tmps := (y.R.params.zip args'.toArray).foldl (fun tmps (x : Tmp × Value) => tmps.setIfInBounds x.1 x.2) y.R.tmps, defers := [] } w := by
  refine ⟨StepR.refl hS0.rel, ?_, (by rw [hB]; exact MarksOk.nil), fun n h1 h2 => absurd h1 h2⟩
  rw [hfold]
  exact ht1
 have hW : (W none).inRound y.l = W C.ro := by rw [hro]; rfl
 rw [hW]
 have htp := vcC_ok (w0 := w) hdi hC hdom (by rw [hys]; exact InvY.nil) hS0.rel _ _ _ hvc
 refine wpIn_mono (htp _ _ E hrel) ?_
 rintro e1 a1 w1 ⟨st1, hq1, E1, hR1⟩
 cases e1 with
 | normal =>
  have hl1 : w1.heap[y.l]? = some (.loop y.R) := (hR1.step.keep _ hlt (hS0.rel.unowned hno)).trans hheap
  have t1 := turn_put w1 y.l B
  refine ⟨w1.putObj y.l B, run_beginRound hl1 hst, ?_⟩
  have hS2 : StepR E F3 wb E1 (look F3 st1.H) (w1.putObj y.l B) := hR1.step.turn2 (noData_loop hl1) tb t1 ((World.putObj_heap_same (heap_lt hl1)).trans hbl.symm)
  have hR2 : Rel C.B C.L F3 E wb E1 st1 a1 (w1.putObj y.l B) := by
   refine ⟨hS2, ⟨hR1.tmps.size, fun i v hv => ?_⟩, by rw [tb.size]; exact hR1.marks.turn hl1 t1, hR1.news⟩
   obtain ⟨v', b1, b2⟩ := hR1.tmps.val i v hv
   exact ⟨v', b1, b2.turn (noData_loop hl1) t1⟩
  have htp2 := vcC_ok (w0 := wb) hdi hC hdom (by rw [hys]; exact InvY.nil) hRb _ _ _ hq1
  refine wpIn_mono (htp2 _ _ E1 hR2) ?_
  rintro e2 a2 w2 ⟨st2, ⟨rfl, st', hsub, news, hk, hnd, hok, hall⟩, E2', hR3'⟩
  rw [← hL] at hsub
  obtain ⟨E2, hR3⟩ := hsub C.B E wb E2' a2 w2 hdom hR3'
  have hl2 : w2.heap[y.l]? = some B := (hR3.step.keep _ (heap_lt hbl) (hRb.unowned (noData_loop hbl))).trans hbl
  have t2 := turn_put w2 y.l (.loop y.R)
  have t0 : Turn y.l wb w := ⟨rfl, rfl, rfl, tb.size.symm, fun k hk => (tb.keep k hk).symm⟩
  have hS4 : StepR E F3 w E2 (look F3 st'.H) (w2.putObj y.l (.loop y.R)) := hR3.step.turn2 (noData_loop hl2) t0 t2 ((World.putObj_heap_same (heap_lt hl2)).trans hheap.symm)
  have hrec : ({ ({ y.R with state := LoopState.busy } : Loop) with state := if (none : Option Code).isNone = true then LoopState.ready else LoopState.done, pending := none } : Loop) = y.R := by
   cases hy' : y.R with
   | mk a b c d e f g h => rw [hy'] at hst hpe; simp only at hst hpe; subst hst; subst hpe; rfl
  refine ⟨.bool true, w2.putObj y.l (.loop y.R), ?_, .bool true, rfl, ?_⟩
  ·rw [run_endRound none hl2, hrec]; rfl
  ·exact cgives_of (v0 := .bool true) (v1 := .bool true) hR hfr hdp hS4 (fun n h1 h2 => by have := (hR3.news n h1 h2).1; omega) hk hnd (by simp [Wk]) (by simp [wkN]) (by simp [nmA]) hok hall (by simp [VR])
 | _ => exact hq1.elim
theorem YVC.one {P : Program} {y : YRec} {asx : List PV} {F : SF} {L nx top : Nat} {K : PV → List (Nm × SBlk) → Nat → Prop} {v : PV} {upd : List (Nm × SBlk)} {rd : List Nm} (h : YCon P y asx F L nx top v upd rd) (hk : K v upd top) : YVC P [y] y.l asx F L nx K :=
 ⟨y, by simp, rfl, v, upd, rd, top, h, hk⟩
theorem Sub.slots {L : Nat} {F0 : SF} {t t' : List (Option PV)} {H : List (Nm × SBlk)} {nx nx' : Nat} (h1 : subT t t') (h4 : nx ≤ nx') : Sub L F0 ⟨t, H, nx⟩ ⟨t', H, nx'⟩ := by
 intro B E0 w0 E a w hd hR
 obtain ⟨t1, t2⟩ := subT_spec h1
 refine ⟨E, hR.step, ⟨by rw [← t1]; exact hR.tmps.size, fun i v hv => ?_⟩, hR.marks, fun n a b => ?_⟩
 ·simp only [TF, List.getD_eq_getElem?_getD] at hv
  cases hx : t'[i]? with
  | none => rw [hx] at hv; cases hv
  | some x =>
   rw [hx] at hv; simp at hv; subst hv
   exact hR.tmps.val i v (by simp [TF, List.getD_eq_getElem?_getD, t2 i v hx])
 ·have := hR.news n a b; exact ⟨this.1, by simp only at this ⊢; omega⟩
theorem PostN.val {T : Tys} {F : SF} {rl : List ResultVar} {L nx : Nat} {e : Exit} {st : St} {v v0 : PV} {upd : List (Nm × SBlk)} {p : Prop} (news : List Nat) (he : e = .normal ∨ e = .ret) (hnd : news.Nodup) (hres : resVal T (look F st.H) st.t rl = some (p, v0)) (hp : p) (hnm : nmA (Dn L news) v0) (hv : v = rn (sg L nx news) v0)
  (hupd : UpdN L nx news (look F st.H) upd) (hall : UpdAll L (keys upd) st.H) : PostN T F rl L nx v upd news.length e st :=
 ⟨he, ⟨news, p, v0, v0, rfl, hnd, hres, hp, (wk_refl _ _).1, (by intro n hn; rw [(wk_refl F v0).2] at hn; cases hn), hnm, hv, hupd⟩, hall⟩
theorem BN.same {L nx : Nat} {news : List Nat} {G : SF} {e : TypeId} {wd : Nat} {o : Bool} {rs : List (List PV)} : BN L nx news G (some (.rows e wd o true rs)) (.rows e wd o true rs) := ⟨rfl, rfl, id, .inl ⟨rfl, rfl, rfl⟩⟩
theorem loopK.unit {C : Cx} {F0 : SF} {c : Code} {st : St} {Q : Exit → St → Prop} (h : vcC C F0 c st (thenQ (fun s => ∃ _ : Unit, True ∧ 0 < 0 ∧ Sub C.L F0 s st) Q)) : loopK C F0 c st Q :=
 ⟨Unit, fun _ => st, fun _ => True, fun _ => 0, (), trivial, Sub.refl _ _ _, fun _ _ => h⟩
end Go.Tx
end
section
namespace Go.Tx
def okDynN (ops : List Oper) (fps : List (List Nat × List Nat)) : Bool :=
 fps.zipIdx.all fun x => fps.zipIdx.all fun y => !unord ops x.2 y.2 || disj x.1.2 (y.1.1 ++ y.1.2)
def numF (φ : Nm → Nat) (f : List Nm × List Nm) : List Nat × List Nat := (f.1.map φ, f.2.map φ)
theorem okDyn_num {ops : List Oper} {fps : List (List Nm × List Nm)} (φ : Nm → Nat) (h : okDynN ops (fps.map (numF φ)) = true) : okDyn ops fps = true := by
 unfold okDyn
 unfold okDynN at h
 rw [List.all_eq_true] at h ⊢
 intro x hx
 rw [List.all_eq_true]
 intro y hy
 obtain ⟨f, i⟩ := x
 obtain ⟨g, j⟩ := y
 rw [List.mem_zipIdx_iff_getElem?] at hx hy
 have h1 := h (numF φ f, i) (by rw [List.mem_zipIdx_iff_getElem?]; simp only [List.getElem?_map] at *; rw [hx]; rfl)
 rw [List.all_eq_true] at h1
 have h2 := h1 (numF φ g, j) (by rw [List.mem_zipIdx_iff_getElem?]; simp only [List.getElem?_map] at *; rw [hy]; rfl)
 simp only [Bool.or_eq_true] at h2 ⊢
 refine h2.imp id fun hd => ?_
 unfold disj
 rw [List.all_eq_true]
 intro n hn
 simp only [Bool.not_eq_true', List.contains_eq_mem, decide_eq_false_iff_not]
 intro hm
 refine disj_spec hd (x := φ n) (List.mem_map.2 ⟨n, hn, rfl⟩) ?_
 simp only [numF, List.mem_append, List.mem_map] at hm ⊢
 rcases hm with hm | hm
 ·exact .inl ⟨n, hm, rfl⟩
 ·exact .inr ⟨n, hm, rfl⟩
theorem wkLL_refl (F : SF) : ∀ rs : List (List PV), WkLL F rs rs ∧ wkNLL rs rs = []
 | [] => ⟨trivial, rfl⟩
 | r :: rs => by
  obtain ⟨h1, h2⟩ := wkL_refl F r
  obtain ⟨h3, h4⟩ := wkLL_refl F rs
  exact ⟨⟨h1, h3⟩, by simp only [wkNLL, h2, h4, List.append_nil]⟩
theorem BN.ren {L nx : Nat} {news : List Nat} {G : SF} {ob : Option SBlk} {e : TypeId} {wd : Nat} {o : Bool} {rs rs' : List (List PV)} (hb : ob = some (.rows e wd o false rs)) (h : rowsNm (Dn L news) rs) (he : rs' = rs.map (rnL (sg L nx news))) : BN L nx news G ob (.rows e wd o false rs') := by
 subst hb
 obtain ⟨h1, h2⟩ := wkLL_refl G rs
 exact ⟨rfl, rfl, id, .inr ⟨rs, h1, (by intro n hn; rw [h2] at hn; cases hn), h, he, (by intro h; cases h)⟩⟩
theorem BN.pure {L nx : Nat} {news : List Nat} {G : SF} {ob : Option SBlk} {e : TypeId} {wd : Nat} {o : Bool} {rs : List (List PV)} (hb : ob = some (.rows e wd o true rs)) : BN L nx news G ob (.rows e wd o true rs) := by
 subst hb; exact ⟨rfl, rfl, id, .inl ⟨rfl, rfl, rfl⟩⟩
theorem kp_at {L nx : Nat} {news : List Nat} {j : Nat} (hj : j < news.length) : kp L nx news ⟨L, nx + j⟩ = ⟨L + 1, news.getD j 0⟩ := by
 unfold kp
 rw [if_pos ⟨rfl, by simp, by simp; omega⟩]
 simp
theorem kp_at0 {L nx : Nat} {news : List Nat} (hj : 0 < news.length) : kp L nx news ⟨L, nx⟩ = ⟨L + 1, news.getD 0 0⟩ := kp_at (j := 0) hj
end Go.Tx
end
section
namespace Go.Tx
open Go.Sx (TK tk cellsOf cellsOf_eq lt_of_get)
def Shp (T : Tys) : Nat → TypeId → List PV → Prop
 | 0, _, _ => False
 | n + 1, t, xs =>
  match T.get t with
  | some ⟨.bool, _, _, _, _, _⟩ => ∃ b, xs = [.bool b]
  | some ⟨.int k, _, _, _, _, _⟩ => ∃ m, xs = [.int k m] ∧ (Lit.int k m).wf = true
  | some ⟨.str, _, _, _, _, _⟩ => ∃ s : List UInt8, xs = [.str s] ∧ s.length ≤ maxLen
  | some ⟨.slice e, _, _, _, _, _⟩ => ∃ wd rs, xs = [.fs wd rs] ∧ rs.length ≤ maxLen ∧ (T.get e).map (·.size) = some wd ∧ ∀ r ∈ rs, Shp T n e r
  | some ⟨.struct fs, _, _, _, _, _⟩ => fs.foldr (fun f k ys => ∃ a b, ys = a ++ b ∧ Shp T n f.2 a ∧ k b) (fun ys => ys = []) xs
  | some ⟨.array m e, _, _, _, _, _⟩ => (List.range m).foldr (fun _ k ys => ∃ a b, ys = a ++ b ∧ Shp T n e a ∧ k b) (fun ys => ys = []) xs
  | _ => False
section
variable {H : Type} {enc : TypeId × Value → H} {P : Program} {W : World} {spare : Nat → Bool} {held : Bool} {T : Tys}
def Zw (W : World) (b : Nat) : Prop := b < W.heap.size
theorem TOk.cells {t : TypeId} {i : TI} {z : Value} (h : TOk P t i z) : P.cellsOf t = i.size := by
 obtain ⟨x, h1, _, h3, _⟩ := h.sx.info
 simp [Program.cellsOf, h1, h3]
end
end Go.Tx
end
section
namespace Go.Tx
open Go.Sx (TK tk cellsOf cellsOf_eq lt_of_get)
section
variable {H : Type} {enc : TypeId × Value → H} {P : Program} {W : World} {spare : Nat → Bool} {held : Bool} {T : Tys}
theorem callFunc_land {f : FuncId} {fn : Func} {args : Array Value} {K : Value → World → Prop} (h1 : P.funcs[f]? = some fn) (h2 : fn.body.isNone = false) (h3 : (fn.name == "runtime.NumGoroutine") = false) (h : Lands P K ((callFunc f args).run P W)) : Calls P f args W fun e w'' => ∃ v, e = .returned v ∧ K v w'' := by
 rw [callFunc_run h1 h2 h3] at h
 exact h
theorem hrel_no : HRel Env.no (fun _ => none) W := ⟨fun n b h => (by cases h), fun n m b c i j h => (by cases h)⟩
theorem zn_no : Zn Env.no (fun _ => none) W = Zw W := by
 funext b
 apply propext
 exact ⟨fun h => h.1, fun h => ⟨h, fun n c i hn => by cases hn⟩⟩
theorem law_of_con {f : FuncId} {fn : Func} {xs : List PV} (hc : Con P f xs (fun _ => none) 0 0 0 (.bool true) [] []) {args : List Value} (hv : VRl W (Zw W) Env.no xs args) (h1 : P.funcs[f]? = some fn) (h2 : fn.body.isNone = false) (h3 : (fn.name == "runtime.NumGoroutine") = false) :
  Calls P f args.toArray W fun e w' => e = .returned (.bool true) ∧ Go.RowKit.Below W.heap.size W w' := by
 have h := hc.2 (fun _ => none) (fun _ _ => rfl) Env.no W args hrel_no (fun _ _ _ => rfl) (fun _ _ => rfl) (by rw [zn_no]; exact hv)
 have h := callFunc_land h1 h2 h3 h
 refine Calls.mono h ?_
 rintro e w' ⟨v, rfl, E', q1, q2, _⟩
 simp only [VR] at q1
 subst q1
 exact ⟨rfl, ⟨q2.os, q2.tape, q2.output, q2.size, fun k hk => q2.keep k hk fun n b i hn => by cases hn⟩⟩
section
variable {n : Nat} {t : TypeId} {xs zr : List PV} {s b : Nat} {q : Bool} {ls : List (Nat × TypeId)}
theorem Shp.bool (hg : T.get t = some ⟨.bool, zr, s, b, q, ls⟩) (h : Shp T (n + 1) t xs) : ∃ b, xs = [.bool b] := by unfold Shp at h; rw [hg] at h; exact h
theorem Shp.int {k : IntKind} (hg : T.get t = some ⟨.int k, zr, s, b, q, ls⟩) (h : Shp T (n + 1) t xs) : ∃ m, xs = [.int k m] ∧ (Lit.int k m).wf = true := by unfold Shp at h; rw [hg] at h; exact h
theorem Shp.str (hg : T.get t = some ⟨.str, zr, s, b, q, ls⟩) (h : Shp T (n + 1) t xs) : ∃ s : List UInt8, xs = [.str s] ∧ s.length ≤ maxLen := by unfold Shp at h; rw [hg] at h; exact h
theorem Shp.slice {e : TypeId} (hg : T.get t = some ⟨.slice e, zr, s, b, q, ls⟩) (h : Shp T (n + 1) t xs) : ∃ wd rs, xs = [.fs wd rs] ∧ rs.length ≤ maxLen ∧ (T.get e).map (·.size) = some wd ∧ ∀ r ∈ rs, Shp T n e r := by unfold Shp at h; rw [hg] at h; exact h
theorem Shp.struct {fs : List (Nat × TypeId)} (hg : T.get t = some ⟨.struct fs, zr, s, b, q, ls⟩) (h : Shp T (n + 1) t xs) : fs.foldr (fun f k ys => ∃ a b, ys = a ++ b ∧ Shp T n f.2 a ∧ k b) (fun ys => ys = []) xs := by unfold Shp at h; rw [hg] at h; exact h
theorem Shp.array {m : Nat} {e : TypeId} (hg : T.get t = some ⟨.array m e, zr, s, b, q, ls⟩) (h : Shp T (n + 1) t xs) : (List.range m).foldr (fun _ k ys => ∃ a b, ys = a ++ b ∧ Shp T n e a ∧ k b) (fun ys => ys = []) xs := by unfold Shp at h; rw [hg] at h; exact h
end
end
end Go.Tx
end
namespace Go.Tx
theorem okS0 {a : List Oper} {b : Nat} (h : okStatic a b = true) : okStatic a b = true := h
theorem sd1 {A B : Prop} (h : B) (a : A := by first | omega | exact ⟨by omega, by omega⟩ | exact ⟨by omega, by omega, by omega⟩ | exact ⟨⟨by omega, by omega⟩, by omega, by omega⟩ | exact okDyn_num (fun x => x.i) (by kernel_rfl) | kernel_rfl | exact okDyn_num (fun _ => 0) (by kernel_rfl)) : A ∧ B := ⟨a, h⟩
theorem nqL (L : Nat) {i p : Nat} (h : p < 10000 * (i + 1)) : (∀ kk, (10000 * (i + 1) + kk = p) = False) ∧ (∀ kk, (p = 10000 * (i + 1) + kk) = False) ∧ (10000 * (i + 1) = p) = False ∧ (p = 10000 * (i + 1)) = False ∧ ∀ kk, ((⟨L + 1, p⟩ : Nm) == ⟨L + 1, 10000 * (i + 1) + kk⟩) = false := ⟨fun kk => by apply eq_false; omega, fun kk => by apply eq_false; omega, by apply eq_false; omega, by apply eq_false; omega, fun kk => by simp; omega⟩
theorem sd2 {A B : Prop} (h : B) (a : A := by first | omega | exact ⟨by omega, by omega⟩ | exact ⟨by omega, by omega, by omega⟩ | exact ⟨⟨by omega, by omega⟩, by omega, by omega⟩ | exact okS0 (by kernel_rfl)) : A ∧ B := ⟨a, h⟩
theorem hfz {F : SF} {L : Nat} (h : ∀ n : Nm, L < n.l → F n = none) (n : Nm) (hn : n.l = L + 1) : F n = none := h n (by omega)
theorem PostF.rs {T : Tys} {F : SF} {rl : List ResultVar} {L : Nat} {v : PV} {e : Exit} {st : St} {v0 : PV} (he : e = .normal ∨ e = .ret) (hw : Wk (look F st.H) v0 v := by simp [Wk, WkL, Tx.look, List.take_of_length_le]) (h : resVal T (look F st.H) st.t rl = some (True, v0) := by simp only [resVal, resVals, resVal1, one, go_sem]) (hn : ∀ n ∈ wkN v0 v, n.l = L + 1 := by simp [wkN, wkNL]) (hf : Tx.nf v = true := by simp [Tx.nf, nfl]) (ha : UpdAll L (keys ([] : List (Nm × SBlk))) st.H := by simp [UpdAll, keys]) : PostF T F rl L v [] e st := PostF.of (p := True) he h trivial hw hn hf trivial ha
theorem Sub.o {L : Nat} {F0 : SF} {st st' : St} (hF : ∀ n : Nm, L < n.l → F0 n = none) (h2 : subH F0 st.H st'.H) (h1 : subT st.t st'.t := by simp only [go_sem, subT, and_self, Int.natCast_succ, Int.natCast_zero]) (h3 : subK (L + 1) (keys st'.H) st.H := by simp [subK, keys]) (h4 : st.nx ≤ st'.nx := by simp only []; omega) : Sub (L + 1) F0 st st' := Sub.of (hfz hF) h1 h2 h3 h4
end Go.Tx
