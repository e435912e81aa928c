/- Lemmas for the walk: T34, T35. -/
import Derived.Test.YtfhhbkehlfipgaaTxE
section
set_option linter.unusedSimpArgs false
set_option linter.unusedVariables false
set_option linter.unnecessarySimpa false
set_option linter.unusedSectionVars false
namespace Go.Tx
open Go.Sx (lt_of_get)
set_option linter.unusedSimpArgs false
set_option linter.unusedVariables false

/-! ### A block whose rows are seen as trees from now on -/
theorem setAll_none' {κ α : Type} [DecidableEq κ] {n : κ} {x : List (κ × α)} {f : κ → Option α} (h : n ∉ keys x) : setAll f x n = f n := setAll_not h
theorem keys_unown (F : SF) : ∀ (l : List Nm) (n : Nm), n ∈ keys (unown F l) → n ∈ l
  | [], _, h => by simp [unown, keys] at h
  | m :: l, n, h => by
    simp only [unown, keys, List.map_append, List.mem_append] at h
    rcases h with h | h
    · have : n = m := by
        split at h <;> simp at h <;> exact h
      simp [this]
    · exact List.mem_cons_of_mem _ (keys_unown F l n h)
theorem StepR.freeze {E : Env} {F : SF} {w : World} (h : HRel E F w) {n : Nm} {e : TypeId} {wd : Nat} {o : Bool} {rs rs1 : List (List PV)} (hn : F n = some (.rows e wd o false rs)) (hw : WkLL F rs rs1) (hne : n ∉ wkNLL rs rs1) :
    StepR E F w E ((F.upd (unown F (wkNLL rs rs1))).set n (.rows e wd o false rs1)) w := by
  generalize hns : wkNLL rs rs1 = ns at hne ⊢
  have hle : SLe (F.upd (unown F ns)) F := unown_le F ns
  have hS := StepR.less h hle
  have hFn : F.upd (unown F ns) n = some (.rows e wd o false rs) := by
    rw [upd_eq, setAll_not (fun hk => hne (keys_unown F ns n hk))]; exact hn
  let F4 : SF := (F.upd (unown F ns)).set n (.rows e wd o false rs1)
  have hown : ∀ m b, F4 m = some b → b.own = true → ∃ c, F m = some c ∧ c.own = true := by
    intro m b hb ho
    simp only [F4, SF.set] at hb
    split at hb
    · rename_i he
      subst he
      injection hb with hb; subst hb
      exact ⟨_, hn, ho⟩
    · exact ⟨b, hle.own hb ho, ho⟩
  have hown3 : ∀ m b, F4 m = some b → b.own = true → ∃ c, (F.upd (unown F ns)) m = some c ∧ c.own = true := by
    intro m b hb ho
    simp only [F4, SF.set] at hb
    split at hb
    · rename_i he
      subst he
      injection hb with hb; subst hb
      exact ⟨_, hFn, ho⟩
    · exact ⟨b, hb, ho⟩
  have hlive : ∀ m b, F4 m = some b → b.live = true → ∃ c, F m = some c ∧ c.live = true := by
    intro m b hb ho
    simp only [F4, SF.set] at hb
    split at hb
    · rename_i he
      subst he
      exact ⟨_, hn, rfl⟩
    · rcases hle m b hb with rfl | h1 | ⟨_, _, _, _, h1, _⟩ | ⟨_, _, _, h1, _⟩
      · cases ho
      · exact ⟨b, h1, ho⟩
      · exact ⟨_, h1, rfl⟩
      · exact ⟨_, h1, rfl⟩
  have hzone : ∀ q, Zn E (F.upd (unown F ns)) w q → Zn E F4 w q := by
    rintro q ⟨k1, k2⟩
    refine ⟨k1, fun m b i hm ho hi hz => ?_⟩
    obtain ⟨c, c1, c2⟩ := hown3 m b hm ho
    exact k2 m c i c1 c2 hi hz
  have hX : Ext E w (Zn E (F.upd (unown F ns)) w) E w (Zn E F4 w) := ⟨Env.le.refl _, hzone, fun _ _ => rfl⟩
  have hrel : HRel E F4 w := by
    refine ⟨fun m b hm => ?_, fun m1 m2 b c i j h1 h2 h12 ho hl hi hj hz1 hz2 => ?_⟩
    · by_cases hmn : m = n
      · subst hmn
        have hb : b = .rows e wd o false rs1 := by
          simp only [F4, SF.set, if_true] at hm; injection hm with hm; exact hm.symm
        subst hb
        obtain ⟨i, hi, hor⟩ := h.blk m _ hn
        refine ⟨i, hi, ?_⟩
        rcases hor with ⟨z1, rfl, z3, z4⟩ | ⟨hz, hRr⟩
        · refine .inl ⟨z1, ?_, z3, z4⟩
          cases rs1 with
          | nil => rfl
          | cons a l => simp [WkLL] at hw
        · refine .inr ⟨hz, ?_⟩
          obtain ⟨cs, fz, b1, b2, b3, b4⟩ := hRr.cells
          obtain ⟨l1, l2⟩ := wkLL_get hw
          have hlen1 : ∀ row ∈ rs1, row.length = wd := by
            intro row hrow
            obtain ⟨r, hr⟩ := List.getElem?_of_mem hrow
            have hlt := lt_of_get hr
            have hr0 := List.getElem?_eq_getElem (l := rs) (i := r) (by omega)
            obtain ⟨k1, _⟩ := l2 r _ row hr0 hr
            rw [← (wkL_get k1).1]
            exact hRr.len _ (List.mem_of_getElem? hr0)
          refine ⟨hRr.wd_eq, hRr.o0, hRr.wd_pos, hlen1, by rw [← l1]; exact hRr.le, hRr.cap, cs, fz, b1, b2, b3, ?_⟩
          refine (VRr_iff hlen1).2 fun r row1 c y hr1 hc1 => ?_
          have hlt := lt_of_get hr1
          have hr0 := List.getElem?_eq_getElem (l := rs) (i := r) (by omega)
          obtain ⟨k1, k2⟩ := l2 r _ row1 hr0 hr1
          obtain ⟨k3, k4⟩ := wkL_get k1
          have hct := lt_of_get hc1
          have hc0 := List.getElem?_eq_getElem (l := rs[r]) (i := c) (by omega)
          obtain ⟨k5, k6⟩ := k4 c _ y hc0 hc1
          obtain ⟨u, a1, a2, a3⟩ := (VRr_iff hRr.len).1 b4 r _ c _ hr0 hc0
          refine ⟨u, a1, a2, ?_⟩
          have hno : ∀ m ∈ wkN (rs[r])[c] y, ∀ c, (F.upd (unown F ns)) m = some c → c.own = false := fun m hm c hc => unown_own (by rw [← hns]; exact k2 m (k6 m hm)) hc
          exact VR.mono hX _ _ (wk_vr h hle _ y u k5 hno a3)
      · have hm' : (F.upd (unown F ns)) m = some b := by simp only [F4, SF.set, if_neg hmn] at hm; exact hm
        exact (hS.rel.blk m b hm').mono hX fun _ _ _ => rfl
    · obtain ⟨c1, d1, d2⟩ := hown m1 b h1 ho
      obtain ⟨c2, e1, e2⟩ := hlive m2 c h2 hl
      exact h.sep m1 m2 c1 c2 i j d1 e1 h12 d2 e2 hi hj hz1 hz2
  refine ⟨Env.le.refl _, hrel, rfl, rfl, rfl, Nat.le_refl _, fun _ _ _ => rfl, fun m b i hm ho hi hz => ?_⟩
  obtain ⟨c, c1, c2⟩ := hown m b hm ho
  exact .inr ⟨m, c, i, c1, c2, hi, hz, rfl⟩
theorem upd_append (l l' : List (Nm × SBlk)) (F : SF) : F.upd (l ++ l') = (F.upd l).upd l' := by
  induction l generalizing F with
  | nil => rfl
  | cons a l ih => obtain ⟨n, b⟩ := a; exact ih _
/-- A call after a block's rows were turned to trees. -/
theorem Con.frz {P : Program} {f : FuncId} {args : List PV} {F : SF} {L nx top : Nat} {v : PV} {upd : List (Nm × SBlk)} {rd : List Nm} {n : Nm} {e : TypeId} {wd : Nat} {o : Bool} {rs rs1 : List (List PV)} (hn : F n = some (.rows e wd o false rs)) (hw : WkLL F rs rs1) (hne : n ∉ wkNLL rs rs1)
    (hc : Con P f args (F.upd (unown F (wkNLL rs rs1) ++ [(n, .rows e wd o false rs1)])) L nx top v upd rd) : Con P f args F L nx top v (unown F (wkNLL rs rs1) ++ [(n, .rows e wd o false rs1)] ++ upd) (n :: (wkNLL rs rs1 ++ rd)) := by
  refine ⟨hc.1, fun F2 hF2 E w args' hR hfr hdp hv => ?_⟩
  have hu : unown F2 (wkNLL rs rs1) = unown F (wkNLL rs rs1) := by
    have : ∀ l : List Nm, (∀ m ∈ l, F2 m = F m) → unown F2 l = unown F l := by
      intro l
      induction l with
      | nil => intro _; rfl
      | cons m l ih => intro h; simp only [unown, h m (by simp), ih (fun q hq => h q (by simp [hq]))]
    exact this _ (fun m hm => hF2 m (by simp [hm]))
  have hw2 : WkLL F2 rs rs1 := by
    have : ∀ a b : List (List PV), (∀ m ∈ wkNLL a b, F2 m = F m) → WkLL F a b → WkLL F2 a b := by
      intro a
      induction a with
      | nil => intro b _ h; cases b <;> simp [WkLL] at h ⊢
      | cons r a ih =>
        intro b hm h
        cases b with
        | nil => simp [WkLL] at h
        | cons r' b =>
          simp only [WkLL] at h ⊢
          exact ⟨wkL_congr h.1 (fun m hq => hm m (by simp [wkNLL, hq])), ih b (fun m hq => hm m (by simp [wkNLL, hq])) h.2⟩
    exact this _ _ (fun m hm => hF2 m (by simp [hm])) hw
  have hS := StepR.freeze hR ((hF2 n (by simp)).trans hn) hw2 hne
  rw [hu] at hS
  have hF4 : ∀ G : SF, G.upd (unown F (wkNLL rs rs1) ++ [(n, .rows e wd o false rs1)]) = (G.upd (unown F (wkNLL rs rs1))).set n (.rows e wd o false rs1) := fun G => by rw [upd_append]; rfl
  rw [← hF4] at hS
  have hL := hc.2 (F2.upd (unown F (wkNLL rs rs1) ++ [(n, .rows e wd o false rs1)])) (fun m hm => by rw [upd_eq, upd_eq]; exact setAll_at (hF2 m (by simp [hm]))) E w args' hS.rel hfr hdp (VRl.mono hS.ext _ _ hv)
  have conv : ∀ v' w', CGives E (F2.upd (unown F (wkNLL rs rs1) ++ [(n, .rows e wd o false rs1)])) w L nx top v upd v' w' → CGives E F2 w L nx top v (unown F (wkNLL rs rs1) ++ [(n, .rows e wd o false rs1)] ++ upd) v' w' := by
    rintro v' w' ⟨E', q1, q2, q3⟩
    unfold CGives
    rw [upd_append _ upd]
    exact ⟨E', q1, hS.trans q2, q3⟩
  unfold Lands Sx.Lands at hL ⊢
  split at hL
  · exact conv _ _ hL
  · exact conv _ _ hL
  · intro cs
    obtain ⟨e, w', fr, ⟨v', he, hK⟩, hrest⟩ := hL cs
    exact ⟨e, w', fr, ⟨v', he, conv _ _ hK⟩, hrest⟩
  · exact hL
theorem Sub.mem {L : Nat} {F0 : SF} {t : List (Option PV)} {H H' : List (Nm × SBlk)} {nx : Nat} (h : ∀ (E : Env) (w : World), HRel E (look F0 H) w → StepR E (look F0 H) w E (look F0 H') w) : Sub L F0 ⟨t, H, nx⟩ ⟨t, H', nx⟩ := by
  intro E0 w0 E a w hd0 hR
  have hS := h E w hR.step.rel
  refine ⟨E, hR.step.trans hS, ⟨by simpa using hR.tmps.size, fun i v hv => ?_⟩, hR.marks.mono hS.ext, hR.news⟩
  obtain ⟨v', a1, a2⟩ := hR.tmps.val i v hv
  exact ⟨v', a1, VR.mono hS.ext _ _ a2⟩
/-- What was owned is owned no more. -/
theorem Sub.letGo {L : Nat} {F0 : SF} {t : List (Option PV)} {H : List (Nm × SBlk)} {nx : Nat} (ns : List Nm) : Sub L F0 ⟨t, H, nx⟩ ⟨t, updH H (unown (look F0 H) ns), nx⟩ :=
  Sub.mem fun E w hR => by rw [look_updH]; exact StepR.less hR (unown_le _ _)
/-- A block's rows are seen as trees. -/
theorem Sub.freeze {L : Nat} {F0 : SF} {t : List (Option PV)} {H : List (Nm × SBlk)} {nx : Nat} {n : Nm} {e : TypeId} {wd : Nat} {o : Bool} {rs : List (List PV)} (rs1 : List (List PV)) (hn : look F0 H n = some (.rows e wd o false rs)) (hw : WkLL (look F0 H) rs rs1) (hne : n ∉ wkNLL rs rs1) :
    Sub L F0 ⟨t, H, nx⟩ ⟨t, updH H (unown (look F0 H) (wkNLL rs rs1) ++ [(n, .rows e wd o false rs1)]), nx⟩ :=
  Sub.mem fun E w hR => by
    rw [look_updH, upd_append]
    exact StepR.freeze hR hn hw hne
end Go.Tx
end

section
set_option linter.unusedSimpArgs false
set_option linter.unusedVariables false
set_option linter.unnecessarySimpa false
set_option linter.unusedSectionVars false
namespace Go.Tx
open Go.Sx (lt_of_get)
set_option linter.unusedSimpArgs false
set_option linter.unusedVariables false
/-- A contract with new names, seen from outside with trees. -/
theorem Con.frozen {P : Program} {f : FuncId} {args : List PV} {F : SF} {L nx k top : Nat} {v0 v : PV} {upd : List (Nm × SBlk)} {rd : List Nm} (h : Con P f args F (L + 1) k top v0 upd rd) (hk : ∀ n ∈ keys upd, n.l = L + 1) (hw : ∀ F : SF, Wk (F.upd upd) v0 v) (hn : ∀ n ∈ wkN v0 v, n.l = L + 1) (hf : nf v = true) : Con P f args F L nx nx v [] rd := by
  refine ⟨Nat.le_refl _, fun F2 hF2 E w args' hR _ hdp hv => ?_⟩
  have hL := h.2 F2 hF2 E w args' hR (fun k _ _ => hdp _ (by simp)) (fun n hn => hdp n (by omega)) hv
  have conv : ∀ v' w', CGives E F2 w (L + 1) k top v0 upd v' w' → CGives E F2 w L nx nx v [] v' w' := by
    rintro v' w' ⟨E1, q1, q2, q3⟩
    have hll : ∀ n b, F2 n = some b → b.live = true → n.l ≤ L := by
      intro n b hb hl
      obtain ⟨i, hi⟩ := (hR.blk n b hb).def_ hl
      rcases Nat.lt_or_ge L n.l with h | h
      · rw [hdp n h] at hi; cases hi
      · exact h
    let Fm : SF := fun n => if n.l ≤ L then (F2.upd upd) n else none
    have hm : SLe Fm (F2.upd upd) := by
      intro n b hb
      simp only [Fm] at hb
      split at hb
      · exact .inr (.inl hb)
      · cases hb
    have hG : ∀ n : Nm, n.l ≤ L → (F2.upd upd) n = F2 n := fun n hl => by rw [upd_eq, setAll_not (fun hk' => by have := hk n hk'; omega)]
    have hEE : ∀ n i, E n = some i → E1 n = some i ∧ E n = some i := fun n i h => ⟨q2.le n i h, h⟩
    have hzone : ∀ q, Zn E1 Fm w' q → Zn E F2 w' q := by
      rintro q ⟨k1, k2⟩
      refine ⟨k1, fun n b i hn ho hi hz he => ?_⟩
      have hl := hll n b hn (live_of_own ho)
      exact k2 n b i (by simp only [Fm]; rw [if_pos hl, hG n hl]; exact hn) ho (q2.le n i hi) hz he
    have hSm := StepR.less q2.rel hm
    have hzone' : ∀ q, Zn E1 (F2.upd upd) w' q → Zn E F2 w' q := fun q hq => hzone q (hSm.ext.zone q hq)
    have hEx : Ext Env.no w' (Zn E1 Fm w') Env.no w' (Zn E F2 w') := ⟨Env.le.refl _, hzone, fun _ _ => rfl⟩
    have hrel : HRel E F2 w' := by
      refine ⟨fun n b hn => ?_, fun n m b d i j hn hm' hnm ho hl hi hj hin hjn => ?_⟩
      · by_cases hl : b.live = true
        · have h1 := hll n b hn hl
          have := BRel.back hEE (hR.blk n b hn) (q2.rel.blk n b ((hG n h1).trans hn))
          exact this.mono ⟨Env.le.refl _, hzone', fun _ _ => rfl⟩ fun _ _ _ => rfl
        · cases b <;> first | trivial | exact absurd rfl hl
      · exact q2.rel.sep n m b d i j ((hG n (hll n b hn (live_of_own ho))).trans hn) ((hG m (hll m d hm' hl)).trans hm') hnm ho hl (q2.le _ _ hi) (q2.le _ _ hj) hin hjn
    have hstep : StepR E F2 w E F2 w' := ⟨Env.le.refl _, hrel, q2.os, q2.tape, q2.output, q2.size, q2.keep, fun n b i hn ho hi hin => q2.own n b i ((hG n (hll n b hn (live_of_own ho))).trans hn) ho (q2.le _ _ hi) hin⟩
    have hx := wk_vr q2.rel hm v0 v v' (hw F2) (fun n hn' b hb => by
      have := hn n hn'
      simp only [Fm] at hb
      rw [if_neg (by omega)] at hb; cases hb) q1
    have hy := VR.mono hEx _ _ (VR.nf v v' hf hx)
    exact ⟨E, VR.mono ⟨fun n i h => (by cases h), fun _ h => h, fun _ _ => rfl⟩ _ _ hy, hstep, fun n h1 h2 => absurd h1 h2⟩
  unfold Lands Sx.Lands at hL ⊢
  split at hL
  · exact conv _ _ hL
  · exact conv _ _ hL
  · intro cs
    obtain ⟨e, w', fr, ⟨v', he, hK⟩, hrest⟩ := hL cs
    exact ⟨e, w', fr, ⟨v', he, conv _ _ hK⟩, hrest⟩
  · exact hL
end Go.Tx
end
