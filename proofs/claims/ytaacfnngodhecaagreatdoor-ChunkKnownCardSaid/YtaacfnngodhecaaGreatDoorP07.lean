/- Lemmas for the walk: U16, U17, U18, U15d. -/
import Derived.Test.YtaacfnngodhecaaGreatDoorP06
import Derived.LoopIn
set_option linter.all false
section
namespace Go.Tx
mutual
def Wk (F : SF) : PV → PV → Prop
 | .nilS, .fs wd rs => rs = [] ∧ 0 < wd
 | .sl n r l, .fs wd rs => match F n with | some (.rows _ wd' _ true rs') => wd' = wd ∧ r + l ≤ rs'.length ∧ rs = (rs'.drop r).take l | _ => False
 | .mp n, .fm ks vs => match F n with | some (.map _ true ks' vs') => ks = ks' ∧ vs = vs' | _ => False
 | .agg l, .agg l' => WkL F l l'
 | .tup l, .tup l' => WkL F l l'
 | .ifc t v, .ifc t' v' => t = t' ∧ Wk F v v'
 | x, y => x = y
def WkL (F : SF) : List PV → List PV → Prop
 | [], [] => True
 | x :: l, y :: l' => Wk F x y ∧ WkL F l l'
 | _, _ => False
end
mutual
def wkN : PV → PV → List Nm
 | .sl n _ _, .fs _ _ => [n]
 | .mp n, .fm _ _ => [n]
 | .agg l, .agg l' => wkNL l l'
 | .tup l, .tup l' => wkNL l l'
 | .ifc _ v, .ifc _ v' => wkN v v'
 | _, _ => []
def wkNL : List PV → List PV → List Nm
 | x :: l, y :: l' => wkN x y ++ wkNL l l'
 | _, _ => []
end
section
variable {P : Program} {E : Env} {F F' : SF} {w : World}
theorem zone_of (h : HRel E F w) (hs : SLe F' F) {n : Nm} {b : SBlk} {i : BI} (hF : F n = some b) (hl : b.live = true) (hi : E n = some i) (hz : i.z = false) (hno : ∀ c, F' n = some c → c.own = false) : Zn E F' w i.b := by
 refine ⟨(h.blk n b hF).lt hl hi hz, fun m c j hm ho hj hjz he => ?_⟩
 by_cases hmn : m = n
 ·subst hmn; rw [hno c hm] at ho; cases ho
 ·exact h.sep m n c b j i (hs.own hm ho) hF hmn ho hl hj hi hjz hz he
theorem wk_vr (h : HRel E F w) (hs : SLe F' F) : ∀ (x y : PV) (v : Value), Wk F x y → (∀ n ∈ wkN x y, ∀ c, F' n = some c → c.own = false) → VR w (Zn E F w) E x v → VR w (Zn E F' w) E y v := by
  have hX : Ext E w (Zn E F w) E w (Zn E F' w) := (StepR.less h hs).ext
  have same : ∀ (x y : PV) (v : Value), VR w (Zn E F w) E x v → x = y → VR w (Zn E F' w) E y v := fun x y v hv e => by subst e; exact VR.mono hX _ _ hv
  intro x
  induction x using PV.rec (motive_3 := fun x => ∀ (y : List PV) (v : List Value), WkL F x y → (∀ n ∈ wkNL x y, ∀ c, F' n = some c → c.own = false) → VRl w (Zn E F w) E x v → VRl w (Zn E F' w) E y v) (motive_2 := fun _ => True) with
  | nilS =>
    intro y v hw hno hv
    cases y <;> simp only [Wk] at hw <;> first | exact same _ _ _ hv rfl | exact same _ _ _ hv hw | skip
    obtain ⟨rfl, h0⟩ := hw
    simp only [VR] at hv ⊢; subst hv
    exact ⟨none, 0, rfl, Nat.le_refl _, by simp [maxLen], h0, by simp, .inl trivial⟩
  | sl n r l =>
    intro y v hw hno hv
    cases y <;> simp only [Wk] at hw <;> first | exact same _ _ _ hv hw | skip
    rename_i wd rs
    split at hw
    rotate_left
    · exact hw.elim
    rename_i e wd' own rs' hF
    obtain ⟨rfl, hle, rfl⟩ := hw
    simp only [VR] at hv ⊢
    obtain ⟨i, hi, hor⟩ := hv
    have hlen : ((rs'.drop r).take l).length = l := by simp; omega
    rcases hor with ⟨hz, rfl, rfl⟩ | ⟨hz, rfl⟩
    · obtain ⟨j, hj, hor⟩ := h.blk _ _ hF
      rw [hi] at hj; injection hj with hj; subst hj
      rcases hor with ⟨_, rfl, q3, q4⟩ | ⟨q, _⟩
      · exact ⟨i.za, 0, by simp, by simp, by simp [maxLen], by omega, by simp, .inl (by simp)⟩
      · rw [hz] at q; cases q
    · have hR := rowsRel_of h hF hi hz
      obtain ⟨cs, fz, b1, b2, b3, b4⟩ := hR.cells
      have hl' : ∀ row ∈ (rs'.drop r).take l, row.length = wd' := fun row hr => hR.len row (List.mem_of_mem_drop (List.mem_of_mem_take hr))
      have hle2 := hR.le
      have hcap := hR.cap
      by_cases hl0 : l = 0
      · exact ⟨_, i.n - r, by rw [hlen], by rw [hlen]; omega, by omega, hR.wd_pos, hl', .inl (by simp [hl0])⟩
      rw [offS_pos (by omega)]
      refine ⟨some ⟨i.b, i.o + r * i.wd, none⟩, i.n - r, by rw [hlen], by rw [hlen]; omega, by omega, hR.wd_pos, hl', .inr ⟨i.b, i.o + r * i.wd, cs, e, fz, rfl, ?_, b1, ?_⟩⟩
      · exact zone_of h hs hF rfl hi hz (hno n (by simp [wkN]))
      · rw [hR.wd_eq]
        exact VRr.mono ⟨Env.le.refl _, hX.zone, hX.heap⟩ _ _ _ (VRr.drop hR.len b4)
  | mp n =>
    intro y v hw hno hv
    cases y <;> simp only [Wk] at hw <;> first | exact same _ _ _ hv hw | skip
    rename_i ks vs
    split at hw
    rotate_left
    · exact hw.elim
    rename_i own ks' vs' hF
    obtain ⟨rfl, rfl⟩ := hw
    simp only [VR] at hv ⊢
    obtain ⟨i, hi, hz, rfl⟩ := hv
    obtain ⟨j, hj, _, ents, clk, hb, hm⟩ := h.blk _ _ hF
    rw [hi] at hj; injection hj with hj; subst hj
    have hX0 : Ext Env.no w (Zn E F w) Env.no w (Zn E F' w) := hX.no
    exact ⟨i.b, ents, clk, rfl, zone_of h hs hF rfl hi hz (hno n (by simp [wkN])), hb, VRl.mono hX0 _ _ hm.1, VRl.mono hX0 _ _ hm.2⟩
  | agg l ih =>
    intro y v hw hno hv
    cases y <;> simp only [Wk] at hw <;> first | exact same _ _ _ hv hw | skip
    simp only [VR] at hv ⊢
    obtain ⟨l', rfl, h1, h2⟩ := hv
    exact ⟨l', rfl, h1, ih _ l' hw (by simpa [wkN] using hno) h2⟩
  | tup l ih =>
    intro y v hw hno hv
    cases y <;> simp only [Wk] at hw <;> first | exact same _ _ _ hv hw | skip
    simp only [VR] at hv ⊢
    obtain ⟨l', rfl, h2⟩ := hv
    exact ⟨l', rfl, ih _ l' hw (by simpa [wkN] using hno) h2⟩
  | ifc t u ih =>
    intro y v hw hno hv
    cases y <;> simp only [Wk] at hw <;> first | exact same _ _ _ hv hw | skip
    obtain ⟨rfl, hw⟩ := hw
    simp only [VR] at hv ⊢
    obtain ⟨u', rfl, h2⟩ := hv
    exact ⟨u', rfl, ih _ u' hw (by simpa [wkN] using hno) h2⟩
  | _ =>
    first
    | trivial
    | (intro y v hw hno hv; cases y <;> simp only [Wk] at hw <;> first | exact same _ _ _ hv rfl | exact same _ _ _ hv hw)
    | (intro y v hw hno hv
       cases y with
       | nil => simpa only [VRl] using hv
       | cons _ _ => simp only [WkL] at hw)
    | (rename_i x l ihx ihl
       intro y v hw hno hv
       cases y with
       | nil => simp only [WkL] at hw
       | cons y l' =>
         simp only [WkL] at hw
         simp only [wkNL, List.mem_append] at hno
         simp only [VRl] at hv ⊢
         obtain ⟨u, t, rfl, h1, h2⟩ := hv
         exact ⟨u, t, rfl, ihx y u hw.1 (fun n hn => hno n (.inl hn)) h1, ihl l' t hw.2 (fun n hn => hno n (.inr hn)) h2⟩)
theorem wkL_vr (h : HRel E F w) (hs : SLe F' F) : ∀ (x y : List PV) (v : List Value), WkL F x y → (∀ n ∈ wkNL x y, ∀ c, F' n = some c → c.own = false) → VRl w (Zn E F w) E x v → VRl w (Zn E F' w) E y v
 | [], [], v, _, _, hv => by simpa only [VRl] using hv
 | x :: l, y :: l', v, hw, hno, hv => by
  simp only [WkL] at hw
  simp only [wkNL, List.mem_append] at hno
  simp only [VRl] at hv ⊢
  obtain ⟨u, t, rfl, h1, h2⟩ := hv
  exact ⟨u, t, rfl, wk_vr h hs x y u hw.1 (fun n hn => hno n (.inl hn)) h1, wkL_vr h hs l l' t hw.2 (fun n hn => hno n (.inr hn)) h2⟩
 | [], _ :: _, _, hw, _, _ => by simp [WkL] at hw
 | _ :: _, [], _, hw, _, _ => by simp [WkL] at hw
def unown (F : SF) : List Nm → List (Nm × SBlk)
 | [] => []
 | n :: l => (match F n with
  | some (.rows e wd true p rs) => [(n, .rows e wd false p rs)]
  | some (.map true p ks vs) => [(n, .map false p ks vs)]
  | _ => []) ++ unown F l
theorem unown_mem {F : SF} {m : Nm} {b : SBlk} : ∀ {l : List Nm}, (m, b) ∈ unown F l →
  (∃ e wd p rs, F m = some (.rows e wd true p rs) ∧ b = .rows e wd false p rs) ∨ (∃ p ks vs, F m = some (.map true p ks vs) ∧ b = .map false p ks vs)
 | [], h => by cases h
 | n :: l, h => by
  simp only [unown, List.mem_append] at h
  rcases h with h | h
  ·split at h
   ·rename_i e wd p rs hF
    simp only [List.mem_singleton, Prod.mk.injEq] at h
    obtain ⟨rfl, rfl⟩ := h
    exact .inl ⟨e, wd, p, rs, hF, rfl⟩
   ·rename_i p ks vs hF
    simp only [List.mem_singleton, Prod.mk.injEq] at h
    obtain ⟨rfl, rfl⟩ := h
    exact .inr ⟨p, ks, vs, hF, rfl⟩
   ·cases h
  ·exact unown_mem h
theorem setAll_get {κ α : Type} [DecidableEq κ] : ∀ (l : List (κ × α)) (f : κ → Option α) (k : κ), setAll f l k = f k ∨ ∃ v, (k, v) ∈ l ∧ setAll f l k = some v
 | [], f, k => .inl rfl
 | (n, v) :: l, f, k => by
  simp only [setAll]
  rcases setAll_get l (fun q => if q = n then some v else f q) k with h | ⟨u, h1, h2⟩
  ·rw [h]
   by_cases hk : k = n
   ·subst hk; simp only [if_true]; exact .inr ⟨v, by simp, rfl⟩
   ·simp only [if_neg hk]; exact .inl trivial
  ·exact .inr ⟨u, by simp [h1], h2⟩
theorem unown_le (F : SF) (l : List Nm) : SLe (F.upd (unown F l)) F := by
 intro n b hb
 rw [upd_eq] at hb
 rcases setAll_get (unown F l) F n with h | ⟨v, h1, h2⟩
 ·rw [h] at hb; exact .inr (.inl hb)
 ·rw [h2] at hb; injection hb with hb; subst hb
  exact .inr (.inr (unown_mem h1))
theorem unown_own {F : SF} {l : List Nm} {n : Nm} (hn : n ∈ l) {c : SBlk} (hc : (F.upd (unown F l)) n = some c) : c.own = false := by
 rw [upd_eq] at hc
 have key : ∀ (l : List Nm), n ∈ l → (∃ b, F n = some b ∧ b.own = true) → n ∈ keys (unown F l) := by
  intro l
  induction l with
  | nil => intro h; cases h
  | cons m l ih =>
   intro h hF
   simp only [unown, keys, List.map_append, List.mem_append]
   rcases List.mem_cons.1 h with rfl | h
   ·obtain ⟨b, h1, h2⟩ := hF
    left
    rw [h1]
    cases b with
    | rows e wd own p rs => simp only [SBlk.own] at h2; subst h2; simp
    | map own p ks vs => simp only [SBlk.own] at h2; subst h2; simp
    | dead => cases h2
   ·exact .inr (ih h hF)
 rcases setAll_get (unown F l) F n with h | ⟨v, h1, h2⟩
 ·rw [h] at hc
  cases ho : c.own with
  | false => rfl
  | true =>
   have hk := key l hn ⟨c, hc, ho⟩
   have : ∃ v, (n, v) ∈ unown F l ∧ setAll F (unown F l) n = some v := by
    have gen : ∀ (x : List (Nm × SBlk)) (f : SF), n ∈ keys x → ∃ v, (n, v) ∈ x ∧ setAll f x n = some v := by
     intro x
     induction x with
     | nil => intro f h; cases h
     | cons a x ih =>
      intro f h
      obtain ⟨m, u⟩ := a
      simp only [setAll]
      by_cases hx : n ∈ keys x
      ·obtain ⟨v, q1, q2⟩ := ih (fun q => if q = m then some u else f q) hx
       exact ⟨v, by simp [q1], q2⟩
      ·simp only [keys, List.map_cons, List.mem_cons] at h
       rcases h with h | h
       ·subst h; exact ⟨u, by simp, by rw [setAll_not hx]; simp⟩
       ·exact absurd h hx
    exact gen _ _ hk
   obtain ⟨v, q1, q2⟩ := this
   rw [h, hc] at q2; injection q2 with q2; subst q2
   rcases unown_mem q1 with ⟨_, _, _, _, _, rfl⟩ | ⟨_, _, _, _, rfl⟩ <;> cases ho
 ·rw [h2] at hc; injection hc with hc; subst hc
  rcases unown_mem h1 with ⟨_, _, _, _, _, rfl⟩ | ⟨_, _, _, _, rfl⟩ <;> rfl
def CGives (E : Env) (F : SF) (w : World) (L nx top : Nat) (v : PV) (upd : List (Nm × SBlk)) (v' : Value) (w' : World) : Prop :=
 ∃ E', VR w' (Zn E' (F.upd upd) w') E' v v' ∧ StepR E F w E' (F.upd upd) w' ∧ ∀ n, E n = none → E' n ≠ none → n.l = L ∧ nx ≤ n.i ∧ n.i < top
def Con (P : Program) (f : FuncId) (args : List PV) (F : SF) (L nx top : Nat) (v : PV) (upd : List (Nm × SBlk)) (rd : List Nm) : Prop :=
 nx ≤ top ∧ ∀ (F2 : SF), (∀ n ∈ rd, F2 n = F n) → ∀ (E : Env) (w : World) (args' : List Value), HRel E F2 w → (∀ k, nx ≤ k → k < top → E ⟨L, k⟩ = none) → (∀ n : Nm, L < n.l → E n = none) →
  VRl w (Zn E F2 w) E args args' → Lands P (CGives E F2 w L nx top v upd) ((callFunc f args'.toArray).run P w)
theorem run_callValue {Z : Nat → Prop} {ρ : Operand → Option PV} {ρ' : Operand → Value} (hρ : RRel w Z E ρ ρ') {o : Oper} {f : Operand} {args : Array Operand} {ats : Array TypeId} (ho : o.op = .call ⟨.value f, args, ats⟩)
  {g : FuncId} {fl cl asx : List PV} (hv : ρ f = some (.fn (.func g) fl cl)) (has : vals ρ args.toList = some asx) :
  ∃ args', (execOp ρ' o).run P w = (callFunc g args'.toArray).run P w ∧ VRl w Z E (fl ++ asx ++ cl) args' := by
 have hd := hρ _ _ hv
 simp only [VR] at hd
 obtain ⟨fl', cl', he, e1, e2⟩ := hd
 have e3 := vals_rel hρ has
 refine ⟨fl' ++ args.toList.map ρ' ++ cl', ?_, VRl.append (VRl.append e1 e3) e2⟩
 unfold execOp
 rw [ho]
 simp only [resolve, he, Deferred.ofValue, Sem.run_bind, Sem.run_pure, Result.andThen_ok, invoke]
 congr 2
 apply Array.ext'; simp
theorem wk_congr {F F2 : SF} : ∀ (x y : PV), (∀ n ∈ wkN x y, F2 n = F n) → Wk F x y → Wk F2 x y := by
  intro x
  induction x using PV.rec (motive_3 := fun l => ∀ l', (∀ n ∈ wkNL l l', F2 n = F n) → WkL F l l' → WkL F2 l l') (motive_2 := fun _ => True) with
  | sl n r l => intro y hn hw; cases y <;> simp only [Wk] at hw ⊢ <;> first | exact hw | (rw [hn n (by simp [wkN])]; exact hw)
  | mp n => intro y hn hw; cases y <;> simp only [Wk] at hw ⊢ <;> first | exact hw | (rw [hn n (by simp [wkN])]; exact hw)
  | agg l ih => intro y hn hw; cases y <;> simp only [Wk] at hw ⊢ <;> first | exact hw | exact ih _ (by simpa [wkN] using hn) hw
  | tup l ih => intro y hn hw; cases y <;> simp only [Wk] at hw ⊢ <;> first | exact hw | exact ih _ (by simpa [wkN] using hn) hw
  | ifc t v ih => intro y hn hw; cases y <;> simp only [Wk] at hw ⊢ <;> first | exact hw | exact ⟨hw.1, ih _ (by simpa [wkN] using hn) hw.2⟩
  | _ =>
    first
    | trivial
    | (intro y hn hw; cases y <;> simp only [Wk] at hw ⊢ <;> exact hw)
    | (intro y hn hw; cases y <;> first | trivial | (simp only [Wk] at hw ⊢; done) | (simp only [Wk] at hw ⊢; exact hw))
    | (intro l' _ hw
       cases l' with
       | nil => exact hw
       | cons _ _ => simp only [WkL] at hw)
    | (rename_i x l ihx ihl
       intro l' hn hw
       cases l' with
       | nil => simp only [WkL] at hw
       | cons y l' =>
         simp only [WkL] at hw ⊢
         simp only [wkNL, List.mem_append] at hn
         exact ⟨ihx y (fun n hn' => hn n (.inl hn')) hw.1, ihl l' (fun n hn' => hn n (.inr hn')) hw.2⟩)
theorem wkL_congr' {F F2 : SF} : ∀ (l l' : List PV), (∀ n ∈ wkNL l l', F2 n = F n) → WkL F l l' → WkL F2 l l' := by
 intro l
 induction l with
 | nil =>
  intro l' _ hw
  cases l' with
  | nil => exact hw
  | cons _ _ => simp only [WkL] at hw
 | cons x l ih =>
  intro l' hn hw
  cases l' with
  | nil => simp only [WkL] at hw
  | cons y l' =>
   simp only [WkL] at hw ⊢
   simp only [wkNL, List.mem_append] at hn
   exact ⟨wk_congr x y (fun n hn' => hn n (.inl hn')) hw.1, ih l' (fun n hn' => hn n (.inr hn')) hw.2⟩
theorem wkL_congr {F F2 : SF} {l l' : List PV} (h : WkL F l l') (hn : ∀ n ∈ wkNL l l', F2 n = F n) : WkL F2 l l' := wkL_congr' l l' hn h
def IsCall (P : Program) (ρ : Operand → Option PV) (o : Oper) (f : FuncId) (asx : List PV) : Prop :=
 (∀ c, o.op ≠ .defer c) ∧ ∀ (ρ2 : Operand → Option PV), (∀ x ∈ o.op.operands, ρ2 x = ρ x) → ∀ (E : Env) (w : World) (Z : Nat → Prop) (ρ' : Operand → Value), RRel w Z E ρ2 ρ' →
  ∃ args', (execOp ρ' o).run P w = (callFunc f args'.toArray).run P w ∧ VRl w Z E asx args'
theorem isCall_value {ρ : Operand → Option PV} {o : Oper} {fo : Operand} {args : Array Operand} {ats : Array TypeId} (ho : o.op = .call ⟨.value fo, args, ats⟩) {f : FuncId} {xs ys asx : List PV}
  (hv : ρ fo = some (.fn (.func f) xs ys)) (has : vals ρ args.toList = some asx) : IsCall P ρ o f (xs ++ asx ++ ys) := by
 refine ⟨(by rw [ho]; intro c hc; cases hc), fun ρ2 hρ2 E w Z ρ' hρ => ?_⟩
 rw [ho] at hρ2
 simp only [Op.operands, Call.operands] at hρ2
 exact run_callValue (P := P) hρ ho (by rw [hρ2 fo (by simp)]; exact hv) (by rw [vals_congr (fun x hx => hρ2 x (by simp; exact .inr (by simpa using hx)))]; exact has)
abbrev Meths := List (TypeId × String × FuncId)
def Meths.get (ms : Meths) (t : TypeId) (n : String) : Option FuncId :=
 match ms with
 | [] => none
 | (t', n', f) :: l => if t' = t ∧ n' = n then some f else Meths.get l t n
def Meths.Ok (P : Program) (ms : Meths) : Prop := ∀ t n f, ms.get t n = some f → ∀ (v : Value) (w : World), (method (P.types.size + Made.depth) t v n).run P w = .ok (f, v) w
theorem isCall_invoke {ms : Meths} (hms : ms.Ok P) {ρ : Operand → Option PV} {o : Oper} {x : Operand} {name : String} {args : Array Operand} {ats : Array TypeId} (ho : o.op = .call ⟨.invoke x name, args, ats⟩)
  {t : TypeId} {v : PV} {asx : List PV} {g : FuncId} (hv : ρ x = some (.ifc t v)) (has : vals ρ args.toList = some asx) (hg : ms.get t name = some g) : IsCall P ρ o g (v :: asx) := by
 refine ⟨(by rw [ho]; intro c hc; cases hc), fun ρ2 hρ2 E w Z ρ' hρ => ?_⟩
 rw [ho] at hρ2
 simp only [Op.operands, Call.operands] at hρ2
 have hv2 : ρ2 x = some (.ifc t v) := by rw [hρ2 x (by simp)]; exact hv
 have has2 : vals ρ2 args.toList = some asx := by rw [vals_congr (fun x hx => hρ2 x (by simp; exact .inr (by simpa using hx)))]; exact has
 have hd := hρ _ _ hv2
 simp only [VR] at hd
 obtain ⟨v', he, e1⟩ := hd
 have e3 := vals_rel hρ has2
 refine ⟨v' :: args.toList.map ρ', ?_, by simp only [VRl]; exact ⟨_, _, rfl, e1, e3⟩⟩
 unfold execOp
 rw [ho]
 have hm := hms t name g hg v' w
 have hextr : (#[ρ' x] ++ args.map ρ').extract 1 (#[ρ' x] ++ args.map ρ').size = args.map ρ' := by
  apply Array.ext'
  simp [List.take_of_length_le]
 have h0 : (#[ρ' x] ++ args.map ρ')[0]? = some (ρ' x) := by
  rw [Array.getElem?_append_left (by simp)]; rfl
 have h1 : ∀ r : Array Value, r[0]? = some (ρ' x) → r.extract 1 r.size = args.map ρ' → (invoke (.fn (.method name) #[]) r).run P w = (callFunc g (v' :: args.toList.map ρ').toArray).run P w := by
  intro r h0 h1
  simp only [invoke, h0, h1, callMethod, he]
  simp only [program, Sem.run_bind, Sem.run, Result.andThen_ok, hm]
  congr 2
  apply Array.ext'; simp
 simp only [resolve, Sem.run_bind, Sem.run_pure, Result.andThen_ok]
 exact h1 _ h0 hextr
theorem opFact_call {ρ : Operand → Option PV} {F : SF} {L nx top : Nat} {o : Oper} {f : FuncId} {asx args2 : List PV} (ho : IsCall P ρ o f asx) (hw : WkL F asx args2) {v : PV} {upd : List (Nm × SBlk)} {rd : List Nm}
  (hc : Con P f args2 (F.upd (unown F (wkNL asx args2))) L nx top v upd rd) :
  OpFact P ρ F L nx top o ⟨True, v, unown F (wkNL asx args2) ++ upd, wkNL asx args2 ++ rd⟩ := by
 generalize hns : wkNL asx args2 = ns at hc ⊢
 refine ⟨ho.1, hc.1, fun ρ2 F2 hρ2 hF2 E w ρ' hR hfr hdp hρ => ?_⟩
 obtain ⟨args', h1, h2⟩ := ho.2 ρ2 (fun x hx => hρ2 x (by simpa using hx)) E w _ ρ' hρ
 rw [h1]
 have hFn : ∀ n ∈ ns, F2 n = F n := fun n hn => hF2 n (by simp [hn])
 have hu : unown F2 ns = unown F ns := by
  have : ∀ l : List Nm, (∀ n ∈ l, F2 n = F n) → unown F2 l = unown F l := by
   intro l
   induction l with
   | nil => intro _; rfl
   | cons m l ih => intro h; simp only [unown, h m (by simp), ih (fun n hn => h n (by simp [hn]))]
  exact this ns hFn
 have hwF : WkL F2 asx args2 := wkL_congr hw (by rw [hns]; exact hFn)
 have hle : SLe (F2.upd (unown F2 ns)) F2 := unown_le F2 ns
 have hS := StepR.less hR hle
 have hv2 := wkL_vr hR hle _ _ _ hwF (by rw [hns]; exact fun n hn c hc => unown_own hn hc) h2
 rw [hu] at hS hv2
 have hL := hc.2 (F2.upd (unown F ns)) (fun n hn => by rw [upd_eq, upd_eq]; exact setAll_at (hF2 n (by simp [hn]))) E w args' hS.rel hfr hdp hv2
 have hup : ∀ G : SF, G.upd (unown F ns ++ upd) = (G.upd (unown F ns)).upd upd := by
  intro G
  have : ∀ (l : List (Nm × SBlk)) (G : SF), G.upd (l ++ upd) = (G.upd l).upd upd := by
   intro l
   induction l with
   | nil => intro G; rfl
   | cons a l ih => intro G; obtain ⟨n, b⟩ := a; exact ih _
  exact this _ G
 have conv : ∀ v' w', CGives E (F2.upd (unown F ns)) w L nx top v upd v' w' → ∃ E', VR w' (Zn E' (F2.upd (unown F ns ++ upd)) w') E' v v' ∧ StepR E F2 w E' (F2.upd (unown F ns ++ upd)) w' ∧ ∀ n, E n = none → E' n ≠ none → n.l = L ∧ nx ≤ n.i ∧ n.i < top := by
  rintro v' w' ⟨E', q1, q2, q3⟩
  rw [hup]
  exact ⟨E', q1, hS.trans q2, q3⟩
 unfold Lands Sx.Lands at hL ⊢
 split at hL
 ·exact conv _ _ hL
 ·exact conv _ _ hL
 ·intro cs
  obtain ⟨e, w', fr, ⟨v', he, hK⟩, hrest⟩ := hL cs
  exact ⟨e, w', fr, ⟨v', he, conv _ _ hK⟩, hrest⟩
 ·exact hL
def Dies (P : Program) (ch : List PanicEntry) (K : World → Prop) : Result Next → Prop
 | .ok (.enter f args) w' => Calls P f args w' fun e w'' => e = .panicked ch ∧ K w''
 | .halt (.panic v) w' => ch = [{ v, recovered := false }] ∧ K w'
 | _ => False
theorem Dies.mono {ch : List PanicEntry} {K K' : World → Prop} {r : Result Next} (h : Dies P ch K r) (hk : ∀ w', K w' → K' w') : Dies P ch K' r := by
 unfold Dies at h ⊢
 split at h
 ·intro cs
  obtain ⟨e, w', fr, ⟨he, hK⟩, hrest⟩ := h cs
  exact ⟨e, w', fr, ⟨he, hk _ hK⟩, hrest⟩
 ·exact ⟨h.1, hk _ h.2⟩
 ·exact h
theorem dies_upon {ch : List PanicEntry} {K : World → Prop} {res : Result Next} {r : Option Nat} {n : Nat} {o : Oper} {a : Act} {next : Act → World → Prop} {Q : Exit → Act → World → Prop}
  (h : Dies P ch K res) (hK : ∀ w', K w' → Q (.panic ch) a w') : o.uponIn (W r) n P a next Q res := by
 unfold Dies at h
 split at h
 ·rename_i f args w'
  refine ⟨(fun hd => by cases hd), ?_⟩
  have h1 : CallsIn Fence.wide (n - 1) P f args w' fun e w'' => e = .panicked ch ∧ K w'' := callsIn_wide.2 h
  have h2 : CallsIn (W r) (n - 1) P f args w' fun e w'' => e = .panicked ch ∧ K w'' := h1
  refine h2.mono fun e w'' ⟨he, hk⟩ => ?_
  subst he
  exact hK _ hk
 ·obtain ⟨rfl, hk⟩ := h
  exact hK _ hk
 ·exact h.elim
def DGives (E : Env) (F : SF) (w : World) (upd : List (Nm × SBlk)) (w' : World) : Prop :=
 ∃ E', StepR E F w E' (F.upd upd) w' ∧ ∀ n, E n = none → E' n = none
def DCon (P : Program) (ch : List PanicEntry) (f : FuncId) (args : List PV) (F : SF) (L : Nat) (upd : List (Nm × SBlk)) (rd : List Nm) : Prop :=
 ∀ (F2 : SF), (∀ n ∈ rd, F2 n = F n) → ∀ (E : Env) (w : World) (args' : List Value), HRel E F2 w → (∀ n : Nm, L < n.l → E n = none) →
  VRl w (Zn E F2 w) E args args' → Dies P ch (DGives E F2 w upd) ((callFunc f args'.toArray).run P w)
def DFact (P : Program) (ch : List PanicEntry) (ρ : Operand → Option PV) (F : SF) (L : Nat) (o : Oper) (upd : List (Nm × SBlk)) (rd : List Nm) : Prop :=
 (∀ c, o.op ≠ .defer c) ∧ ∀ (ρ2 : Operand → Option PV) (F2 : SF), (∀ x ∈ o.op.operands.toList, ρ2 x = ρ x) → (∀ n ∈ rd, F2 n = F n) →
  ∀ (E : Env) (w : World) (ρ' : Operand → Value), HRel E F2 w → (∀ n : Nm, L < n.l → E n = none) → RRel w (Zn E F2 w) E ρ2 ρ' → Dies P ch (DGives E F2 w upd) ((execOp ρ' o).run P w)
theorem dFact_call {ch : List PanicEntry} {ρ : Operand → Option PV} {F : SF} {L : Nat} {o : Oper} {f : FuncId} {asx args2 : List PV} (ho : IsCall P ρ o f asx) (hw : WkL F asx args2) {upd : List (Nm × SBlk)} {rd : List Nm}
  (hc : DCon P ch f args2 (F.upd (unown F (wkNL asx args2))) L upd rd) : DFact P ch ρ F L o (unown F (wkNL asx args2) ++ upd) (wkNL asx args2 ++ rd) := by
 generalize hns : wkNL asx args2 = ns at hc ⊢
 refine ⟨ho.1, fun ρ2 F2 hρ2 hF2 E w ρ' hR hdp hρ => ?_⟩
 obtain ⟨args', h1, h2⟩ := ho.2 ρ2 (fun x hx => hρ2 x (by simpa using hx)) E w _ ρ' hρ
 rw [h1]
 have hFn : ∀ n ∈ ns, F2 n = F n := fun n hn => hF2 n (by simp [hn])
 have hu : unown F2 ns = unown F ns := by
  have : ∀ l : List Nm, (∀ n ∈ l, F2 n = F n) → unown F2 l = unown F l := by
   intro l
   induction l with
   | nil => intro _; rfl
   | cons m l ih => intro h; simp only [unown, h m (by simp), ih (fun n hn => h n (by simp [hn]))]
  exact this ns hFn
 have hwF : WkL F2 asx args2 := wkL_congr hw (by rw [hns]; exact hFn)
 have hle : SLe (F2.upd (unown F2 ns)) F2 := unown_le F2 ns
 have hS := StepR.less hR hle
 have hv2 := wkL_vr hR hle _ _ _ hwF (by rw [hns]; exact fun n hn c hc => unown_own hn hc) h2
 rw [hu] at hS hv2
 have hL := hc (F2.upd (unown F ns)) (fun n hn => by rw [upd_eq, upd_eq]; exact setAll_at (hF2 n (by simp [hn]))) E w args' hS.rel hdp hv2
 have hup : F2.upd (unown F ns ++ upd) = (F2.upd (unown F ns)).upd upd := by
  have : ∀ (l : List (Nm × SBlk)) (G : SF), G.upd (l ++ upd) = (G.upd l).upd upd := by
   intro l
   induction l with
   | nil => intro G; rfl
   | cons a l ih => intro G; obtain ⟨n, b⟩ := a; exact ih _
  exact this _ F2
 refine hL.mono fun w' ⟨E', q1, q2⟩ => ⟨E', ?_, q2⟩
 rw [hup]
 exact hS.trans q1
theorem dFact_panic {ρ : Operand → Option PV} {F : SF} {L : Nat} {o : Oper} {x : Operand} (ho : o.op = .panic x) {ty : TypeId} (hv : ρ x = some (.ifc ty (.agg []))) {ch : List PanicEntry} (hch : ch = [{ v := .iface ty (.agg #[]), recovered := false }]) :
  DFact P ch ρ F L o [] [] := by
 refine ⟨(fun c hc => by rw [ho] at hc; cases hc), fun ρ2 F2 hρ2 _ E w ρ' hR _ hρ => ?_⟩
 have h1 := hρ x (.ifc ty (.agg [])) ((hρ2 x (by rw [ho]; simp [Op.operands])).trans hv)
 simp only [VR, VRl] at h1
 obtain ⟨u, h1, l, rfl, _, rfl⟩ := h1
 have hrun : (execOp ρ' o).run P w = .halt (.panic (.iface ty (.agg #[]))) w := by
  unfold execOp
  rw [ho]
  simp [Instr.panic, h1, goPanic, Sem.run, Result.andThen]
 rw [hrun]
 exact ⟨hch, E, StepR.refl hR, fun n h => h⟩
end
end Go.Tx
end
section
namespace Go.Tx
open Go.Sx (lt_of_get)
mutual
def plainP : PV → Bool
 | .bool _ | .int _ _ | .str _ | .nilP | .nilS | .nilM | .nilF | .nilI => true
 | .agg l => plainPL l
 | .tup l => plainPL l
 | .ifc _ v => plainP v
 | _ => false
def plainPL : List PV → Bool
 | [] => true
 | v :: l => plainP v && plainPL l
end
mutual
theorem VR.plain {w w' : World} {Z Z' : Nat → Prop} {E E' : Env} : ∀ (x : PV) (v : Value), plainP x = true → VR w Z E x v → VR w' Z' E' x v
 | .bool _, v, _, h => by simpa [VR] using h
 | .int _ _, v, _, h => by simpa [VR] using h
 | .str _, v, _, h => by simpa [VR] using h
 | .nilP, v, _, h => by simpa [VR] using h
 | .nilS, v, _, h => by simpa [VR] using h
 | .nilM, v, _, h => by simpa [VR] using h
 | .nilF, v, _, h => by simpa [VR] using h
 | .nilI, v, _, h => by simpa [VR] using h
 | .agg l, v, hp, h => by
  simp only [plainP] at hp
  simp only [VR] at h ⊢
  obtain ⟨l', h1, h2, h3⟩ := h
  exact ⟨l', h1, h2, VRl.plain l l' hp h3⟩
 | .tup l, v, hp, h => by
  simp only [plainP] at hp
  simp only [VR] at h ⊢
  obtain ⟨l', h1, h3⟩ := h
  exact ⟨l', h1, VRl.plain l l' hp h3⟩
 | .ifc _ u, v, hp, h => by
  simp only [plainP] at hp
  simp only [VR] at h ⊢
  obtain ⟨u', h1, h3⟩ := h
  exact ⟨u', h1, VR.plain u u' hp h3⟩
 | .ptr _ _ _, v, hp, _ => by simp [plainP] at hp
 | .sl _ _ _, v, hp, _ => by simp [plainP] at hp
 | .mp _, v, hp, _ => by simp [plainP] at hp
 | .fp _ _ _ _, v, hp, _ => by simp [plainP] at hp
 | .fs _ _, v, hp, _ => by simp [plainP] at hp
 | .fm _ _, v, hp, _ => by simp [plainP] at hp
 | .fn _ _ _, v, hp, _ => by simp [plainP] at hp
theorem VRl.plain {w w' : World} {Z Z' : Nat → Prop} {E E' : Env} : ∀ (x : List PV) (v : List Value), plainPL x = true → VRl w Z E x v → VRl w' Z' E' x v
 | [], v, _, h => by simpa [VRl] using h
 | x :: l, v, hp, h => by
  simp only [plainPL, Bool.and_eq_true] at hp
  simp only [VRl] at h ⊢
  obtain ⟨u, t, h1, h2, h3⟩ := h
  exact ⟨u, t, h1, VR.plain x u hp.1 h2, VRl.plain l t hp.2 h3⟩
end
section
variable {P : Program} {E : Env} {F : SF} {w : World}
theorem StepR.same {w' : World} (h : HRel E F w) (h1 : w'.os = w.os) (h2 : w'.tape = w.tape) (h3 : w'.output = w.output) (h4 : w.heap.size ≤ w'.heap.size) (h5 : ∀ k, k < w.heap.size → w'.heap[k]? = w.heap[k]?) : StepR E F w E F w' := by
 have hN : NewAt E F w E F w' := ⟨Env.le.refl _, h1, h2, h3, h4, fun k hk _ => h5 k hk, fun n b i hf ho hi hn => .inr ⟨n, b, i, hf, ho, hi, hn, rfl⟩⟩
 refine hN.step ⟨fun n b hf => ?_, h.sep⟩
 by_cases hl : b.live = true
 ·exact (h.blk n b hf).mono hN.ext fun i hi hn => h5 _ ((h.blk n b hf).lt hl hi hn)
 ·cases b <;> first | trivial | exact absurd rfl hl
theorem opFact_pure {ρ : Operand → Option PV} {L nx : Nat} {o : Oper} {f : FuncId} {asx args2 : List PV} (ho : IsCall P ρ o f asx) (hw : WkL F asx args2) {v : PV} (hp : plainP v = true) (hc : Con P f args2 (fun _ => none) L nx nx v [] []) :
  OpFact P ρ F L nx nx o ⟨True, v, [], wkNL asx args2⟩ := by
 generalize hns : wkNL asx args2 = ns
 refine ⟨ho.1, Nat.le_refl _, fun ρ2 F2 hρ2 hF2 E w ρ' hR hfr hdp hρ => ?_⟩
 obtain ⟨args', r1, r2⟩ := ho.2 ρ2 (fun x hx => hρ2 x (by simpa using hx)) E w _ ρ' hρ
 rw [r1]
 have hle : SLe (fun _ => none) F2 := fun n b h => by cases h
 have hS := StepR.less hR hle
 have hwF : WkL F2 asx args2 := wkL_congr hw (by rw [hns]; exact hF2)
 have hv3 := wkL_vr hR hle _ _ _ hwF (fun n _ c hc => by cases hc) r2
 have hL := hc.2 (fun _ => none) (fun _ _ => rfl) E w args' hS.rel (fun k h1 h2 => by omega) hdp hv3
 have conv : ∀ v' w', CGives E (fun _ => none) w L nx nx v [] v' w' → ∃ E', VR w' (Zn E' (F2.upd []) w') E' v v' ∧ StepR E F2 w E' (F2.upd []) w' ∧ ∀ n, E n = none → E' n ≠ none → n.l = L ∧ nx ≤ n.i ∧ n.i < nx := by
  rintro v' w' ⟨E', q1, q2, q3⟩
  exact ⟨E, VR.plain _ _ hp q1, StepR.same hR q2.os q2.tape q2.output q2.size (fun k hk => q2.keep k hk fun n b i hn => by cases hn), fun n h1 h2 => absurd h1 h2⟩
 unfold Lands Sx.Lands at hL ⊢
 split at hL
 ·exact conv _ _ hL
 ·exact conv _ _ hL
 ·intro cs
  obtain ⟨e, w', fr, ⟨v', he, hK⟩, hrest⟩ := hL cs
  exact ⟨e, w', fr, ⟨v', he, conv _ _ hK⟩, hrest⟩
 ·exact hL
end
def look (F0 : SF) : List (Nm × SBlk) → SF
 | [], n => F0 n
 | (m, b) :: l, n => if n = m then some b else look F0 l n
def setH : List (Nm × SBlk) → Nm → SBlk → List (Nm × SBlk)
 | [], n, b => [(n, b)]
 | (m, c) :: l, n, b => if n = m then (n, b) :: l else (m, c) :: setH l n b
def updH : List (Nm × SBlk) → List (Nm × SBlk) → List (Nm × SBlk)
 | H, [] => H
 | H, (n, b) :: l => updH (setH H n b) l
theorem look_setH (F0 : SF) : ∀ (H : List (Nm × SBlk)) (n : Nm) (b : SBlk), look F0 (setH H n b) = (look F0 H).set n b
 | [], n, b => by funext k; simp [setH, look, SF.set]
 | (m, c) :: l, n, b => by
  funext k
  have ih := congrFun (look_setH F0 l n b) k
  simp only [setH]
  split
  ·rename_i h; subst h
   simp only [look, SF.set]
   split <;> rfl
  ·rename_i h
   simp only [look, SF.set] at ih ⊢
   split
   ·rename_i hk; subst hk; rw [if_neg (fun e => h e.symm)]
   ·exact ih
theorem look_updH (F0 : SF) : ∀ (l H : List (Nm × SBlk)), look F0 (updH H l) = (look F0 H).upd l
 | [], H => rfl
 | (n, b) :: l, H => by simp only [updH, SF.upd]; rw [look_updH F0 l, look_setH]
structure St where
 t : List (Option PV)
 H : List (Nm × SBlk)
 nx : Nat
def evalT (t : List (Option PV)) : Operand → Option PV
 | .tmp i => t.getD i none
 | .const v => ofV v
 | .func f => some (.fn (.func f) [] [])
 | .global _ => none
def TF (t : List (Option PV)) : Nat → Option PV := fun k => t.getD k none
theorem evalT_eq (t : List (Option PV)) : evalT t = evalF (TF t) := by funext x; cases x <;> rfl
def putT (t : List (Option PV)) (d : Option Nat) (v : PV) : List (Option PV) :=
 match d with | some d => t.set d (some v) | none => t
theorem putT_length (t : List (Option PV)) (d : Option Nat) (v : PV) : (putT t d v).length = t.length := by cases d <;> simp [putT]
theorem TF_put {t : List (Option PV)} {o : Oper} {r : Option Res} (h : ∀ x, o.dst = some x → x < t.length) : TF (putT t o.dst (match r with | some r => r.v | none => undefP)) = setAll (TF t) (tw o r) := by
 unfold tw
 cases hd : o.dst with
 | none => rfl
 | some d =>
  funext k
  have hlt := h d hd
  simp only [putT, TF, setAll, List.getD_eq_getElem?_getD, List.getElem?_set]
  by_cases hk : k = d
  ·subst hk; simp [hlt] <;> cases r <;> rfl
  ·rw [if_neg (fun e => hk e.symm), if_neg hk]
def mkD (D : Nat) : Deferred := { target := .collected D, args := #[] }
def MarksOk (B : List Deferred) (n0 : Nat) (Z : Nat → Prop) (w : World) (ds : List Deferred) : Prop :=
 ∃ Ds : List Nat, Ds.Nodup ∧ ds = Ds.map mkD ++ B ∧ ∀ D ∈ Ds, n0 ≤ D ∧ Z D ∧ w.heap[D]? = some (.deferred (some []))
theorem MarksOk.nil {B : List Deferred} {n0 : Nat} {Z : Nat → Prop} {w : World} : MarksOk B n0 Z w B := ⟨[], by simp, rfl, by simp⟩
theorem MarksOk.mono {B : List Deferred} {n0 : Nat} {Z Z' : Nat → Prop} {w w' : World} {E E' : Env} {ds : List Deferred} (h : MarksOk B n0 Z w ds) (hX : Ext E w Z E' w' Z') : MarksOk B n0 Z' w' ds := by
 obtain ⟨Ds, h1, h2, h3⟩ := h
 exact ⟨Ds, h1, h2, fun D hD => let ⟨a, b, c⟩ := h3 D hD; ⟨a, hX.zone _ b, (hX.heap _ b).trans c⟩⟩
structure Rel (B : List Deferred) (L : Nat) (F0 : SF) (E0 : Env) (w0 : World) (E : Env) (st : St) (a : Act) (w : World) : Prop where
 step : StepR E0 F0 w0 E (look F0 st.H) w
 tmps : TRelF w (Zn E (look F0 st.H) w) E (TF st.t) st.t.length a.tmps
 marks : MarksOk B w0.heap.size (Zn E (look F0 st.H) w) w a.defers
 news : ∀ n, E0 n = none → E n ≠ none → n.l = L ∧ n.i < st.nx
def Dom0 (L : Nat) (E0 : Env) : Prop := ∀ n : Nm, L ≤ n.l → E0 n = none
theorem Rel.fresh {B : List Deferred} {L : Nat} {F0 : SF} {E0 : Env} {w0 : World} {E : Env} {st : St} {a : Act} {w : World} (h : Rel B L F0 E0 w0 E st a w) (hd : Dom0 L E0) : (∀ k, st.nx ≤ k → E ⟨L, k⟩ = none) ∧ ∀ n : Nm, L < n.l → E n = none := by
 constructor
 ·intro k hk
  cases he : E ⟨L, k⟩ with
  | none => rfl
  | some x => have := (h.news ⟨L, k⟩ (hd _ (Nat.le_refl _)) (by rw [he]; simp)).2; simp only at this; omega
 ·intro n hn
  cases he : E n with
  | none => rfl
  | some x => have := (h.news n (hd _ (by omega)) (by rw [he]; simp)).1; omega
end Go.Tx
end
section
namespace Go.Tx
open Go.Sx (lt_of_get)
structure YRec where
 l : Nat
 R : Loop
 t : List (Option PV)
structure Cx where
 P : Program
 T : Tys
 ms : Meths
 wr : Bool
 L : Nat
 ro : Option Nat
 ys : List YRec
 /-- deferred calls that were there ahead of the walk -/
 B : List Deferred
 /-- may a call end in the panic ch, and what must hold of the state then -/
 dies : Bool
 ch : List PanicEntry
 dq : St → Prop
def Cx.calm (C : Cx) : Cx := { C with dies := false }
structure Cx.Ok (C : Cx) : Prop where
 T : C.T.Ok C.P
 A : AllFields C.T
 mixed : C.P.follows .mixedOrders = true
 ms : C.ms.Ok C.P
def CallVC (P : Program) (f : FuncId) (args : List PV) (F : SF) (L nx : Nat) (K : PV → List (Nm × SBlk) → List Nm → Nat → Prop) : Prop :=
 (∃ args2 v, WkL F args args2 ∧ plainP v = true ∧ Con P f args2 (fun _ => none) L nx nx v [] [] ∧ K v [] (wkNL args args2) nx) ∨
 (∃ args2 v upd rd top, WkL F args args2 ∧ Con P f args2 (F.upd (unown F (wkNL args args2))) L nx top v upd rd ∧ K v (unown F (wkNL args args2) ++ upd) (wkNL args args2 ++ rd) top)
theorem CallVC.pure {P : Program} {f : FuncId} {args args2 : List PV} {F : SF} {L nx : Nat} {K : PV → List (Nm × SBlk) → List Nm → Nat → Prop} {v : PV} (hw : WkL F args args2) (hc : Con P f args2 (fun _ => none) L nx nx v [] []) (hp : plainP v = true) (hk : K v [] (wkNL args args2) nx) : CallVC P f args F L nx K := .inl ⟨_, _, hw, hp, hc, hk⟩
theorem CallVC.gen {P : Program} {f : FuncId} {args args2 : List PV} {F : SF} {L nx top : Nat} {K : PV → List (Nm × SBlk) → List Nm → Nat → Prop} {v : PV} {upd : List (Nm × SBlk)} {rd : List Nm} (hw : WkL F args args2)
  (hc : Con P f args2 (F.upd (unown F (wkNL args args2))) L nx top v upd rd) (hk : K v (unown F (wkNL args args2) ++ upd) (wkNL args args2 ++ rd) top) : CallVC P f args F L nx K := .inr ⟨_, _, _, _, _, hw, hc, hk⟩
def DieVC (C : Cx) (F0 : SF) (t : List (Option PV)) (H : List (Nm × SBlk)) (nx : Nat) (f : FuncId) (asx : List PV) : Prop :=
 ∃ args2 upd rd, WkL (look F0 H) asx args2 ∧ DCon C.P C.ch f args2 ((look F0 H).upd (unown (look F0 H) (wkNL asx args2))) C.L upd rd ∧ C.dq ⟨t, updH H (unown (look F0 H) (wkNL asx args2) ++ upd), nx⟩
def CallVD (C : Cx) (p : Prop) (F0 : SF) (t : List (Option PV)) (H : List (Nm × SBlk)) (nx : Nat) (f : FuncId) (asx : List PV) : Prop :=
 match C.dies with
 | false => p
 | true => p ∨ DieVC C F0 t H nx f asx
def PanicVC (C : Cx) (t : List (Option PV)) (H : List (Nm × SBlk)) (nx : Nat) (x : Operand) : Prop :=
 match C.dies, evalT t x with
 | true, some (.ifc ty (.agg [])) => C.ch = [{ v := .iface ty (.agg #[]), recovered := false }] ∧ C.dq ⟨t, H, nx⟩
 | _, _ => False
abbrev FPs := List (List Nm × List Nm)
abbrev RK := List (Option PV) → List (Nm × SBlk) → Nat → FPs → Prop
def brB (g want : Bool) (A B : Prop) : Prop := (g = want → A) ∧ (g = !want → B)
def guardVal (ops : List Oper) (t : List (Option PV)) (j : Nat) : Option PV :=
 match ops[j]? with
 | some o => match o.dst with | some d => t.getD d none | none => none
 | none => none
def setG (ops : List Oper) (t : List (Option PV)) (j : Nat) (g : Bool) : List (Option PV) :=
 match ops[j]? with
 | some o => putT t o.dst (.bool g)
 | none => t
def opVC (C : Cx) (F0 : SF) (o : Oper) (t : List (Option PV)) (H : List (Nm × SBlk)) (nx : Nat) (fps : FPs) (K : RK) : Prop :=
 match o.op with
 | .call ⟨.value fo, args, _⟩ =>
  match evalT t fo, vals (evalT t) args.toList with
  | some (.fn (.func f) xs ys), some asx => CallVD C (CallVC C.P f (xs ++ asx ++ ys) (look F0 H) C.L nx (fun v upd rd nx' => K (putT t o.dst v) (updH H upd) nx' (fps ++ [(rd, keys upd)]))) F0 t H nx f (xs ++ asx ++ ys)
  | _, _ => False
 | .call ⟨.invoke x name, args, _⟩ =>
  match evalT t x, vals (evalT t) args.toList with
  | some (.ifc ty v), some asx =>
   match C.ms.get ty name with
   | some f => CallVD C (CallVC C.P f (v :: asx) (look F0 H) C.L nx (fun v upd rd nx' => K (putT t o.dst v) (updH H upd) nx' (fps ++ [(rd, keys upd)]))) F0 t H nx f (v :: asx)
   | none => False
  | _, _ => False
 | .panic x => PanicVC C t H nx x
 | op =>
  match semOp C.T C.wr (evalT t) (look F0 H) ⟨C.L, nx⟩ op with
  | some r => r.vc ∧ K (putT t o.dst r.v) (updH H r.upd) (nx + 32) (fps ++ [(r.rd, keys r.upd)])
  | none => False
def execR (C : Cx) (F0 : SF) (ops : List Oper) : List Oper → List (Option PV) → List (Nm × SBlk) → Nat → FPs → RK → Prop
 | [], t, H, nx, fps, K => K t H nx fps
 | o :: l, t, H, nx, fps, K =>
  match o.guard with
  | none => opVC C.calm F0 o t H nx fps (fun t H nx fps => execR C F0 ops l t H nx fps K)
  | some (j, want) =>
   match guardVal ops t j with
   | some (.bool g) =>
    brB g want (opVC C.calm F0 o (setG ops t j want) H nx fps (fun t H nx fps => execR C F0 ops l t H nx fps K))
     (execR C F0 ops l (putT (setG ops t j (!want)) o.dst undefP) H nx (fps ++ [([], [])]) K)
   | some (.tup []) => execR C F0 ops l (putT t o.dst undefP) H nx (fps ++ [([], [])]) K
   | _ => False
section
variable {C : Cx} {F0 : SF}
theorem setG_same {ops : List Oper} {t : List (Option PV)} {j : Nat} {g : Bool} (h : guardVal ops t j = some (.bool g)) : setG ops t j g = t := by
 unfold guardVal at h
 unfold setG
 cases ho : ops[j]? with
 | none => rfl
 | some o =>
  rw [ho] at h
  simp only at h ⊢
  cases hd : o.dst with
  | none => rfl
  | some d =>
   rw [hd] at h
   simp only at h
   simp only [putT]
   apply List.ext_getElem?
   intro k
   rw [List.getElem?_set]
   by_cases hk : d = k
   ·subst hk
    rw [if_pos rfl]
    rw [List.getD_eq_getElem?_getD] at h
    cases hx : t[d]? with
    | none => rw [hx] at h; cases h
    | some x =>
     rw [hx] at h; simp at h; subst h
     rw [if_pos (lt_of_get hx)]
   ·rw [if_neg hk]
theorem CallVD.calm {C : Cx} {p : Prop} {F0 : SF} {t : List (Option PV)} {H : List (Nm × SBlk)} {nx : Nat} {f : FuncId} {asx : List PV} : CallVD C.calm p F0 t H nx f asx = p := rfl
theorem CallVD.cases {C : Cx} {p : Prop} {F0 : SF} {t : List (Option PV)} {H : List (Nm × SBlk)} {nx : Nat} {f : FuncId} {asx : List PV} (h : CallVD C p F0 t H nx f asx) : p ∨ (C.dies = true ∧ DieVC C F0 t H nx f asx) := by
 unfold CallVD at h
 cases hd : C.dies <;> rw [hd] at h
 ·exact .inl h
 ·exact h.imp id fun h => ⟨rfl, h⟩
theorem CallVD.live {C : Cx} {p : Prop} {F0 : SF} {t : List (Option PV)} {H : List (Nm × SBlk)} {nx : Nat} {f : FuncId} {asx : List PV} (h : p) : CallVD C p F0 t H nx f asx := by
 unfold CallVD
 cases C.dies
 ·exact h
 ·exact .inl h
theorem CallVD.die {C : Cx} {p : Prop} {F0 : SF} {t : List (Option PV)} {H : List (Nm × SBlk)} {nx : Nat} {f : FuncId} {asx : List PV} (hd : C.dies = true) (h : DieVC C F0 t H nx f asx) : CallVD C p F0 t H nx f asx := by
 unfold CallVD
 rw [hd]
 exact .inr h
def DOp (C : Cx) (F0 : SF) (o : Oper) (t : List (Option PV)) (H : List (Nm × SBlk)) (nx : Nat) : Prop :=
 C.dies = true ∧ ∃ upd rd, DFact C.P C.ch (evalT t) (look F0 H) C.L o upd rd ∧ C.dq ⟨t, updH H upd, nx⟩
theorem DieVC.op {o : Oper} {t : List (Option PV)} {H : List (Nm × SBlk)} {nx : Nat} {f : FuncId} {asx : List PV} (hd : C.dies = true) (ho : IsCall C.P (evalT t) o f asx) (h : DieVC C F0 t H nx f asx) : DOp C F0 o t H nx := by
 obtain ⟨args2, upd, rd, hw, hc, hk⟩ := h
 exact ⟨hd, _, _, dFact_call ho hw hc, hk⟩
theorem opVC_ok' (hC : C.Ok) {o : Oper} {t : List (Option PV)} {H : List (Nm × SBlk)} {nx : Nat} {fps : FPs} {K : RK} (h : opVC C F0 o t H nx fps K) :
  (∃ r top, OpFact C.P (evalT t) (look F0 H) C.L nx top o r ∧ K (putT t o.dst r.v) (updH H r.upd) top (fps ++ [(r.rd, keys r.upd)])) ∨ DOp C F0 o t H nx := by
 unfold opVC at h
 split at h
 ·rename_i fo args ats ho
  split at h
  rotate_left
  ·exact h.elim
  rename_i f xs ys asx hv has
  rcases h.cases with (⟨args2, v, hw, hp, hc, hk⟩ | ⟨args2, v, upd, rd, top, hw, hc, hk⟩) | ⟨hd, h⟩
  ·exact .inl ⟨_, _, opFact_pure (isCall_value ho hv has) hw hp hc, hk⟩
  ·exact .inl ⟨_, _, opFact_call (isCall_value ho hv has) hw hc, hk⟩
  ·exact .inr (h.op hd (isCall_value ho hv has))
 ·rename_i x name args ats ho
  split at h
  rotate_left
  ·exact h.elim
  rename_i ty v asx hv has
  split at h
  rotate_left
  ·exact h.elim
  rename_i f hg
  rcases h.cases with (⟨args2, v, hw, hp, hc, hk⟩ | ⟨args2, v, upd, rd, top, hw, hc, hk⟩) | ⟨hd, h⟩
  ·exact .inl ⟨_, _, opFact_pure (isCall_invoke hC.ms ho hv has hg) hw hp hc, hk⟩
  ·exact .inl ⟨_, _, opFact_call (isCall_invoke hC.ms ho hv has hg) hw hc, hk⟩
  ·exact .inr (h.op hd (isCall_invoke hC.ms ho hv has hg))
 ·rename_i x ho
  unfold PanicVC at h
  split at h
  ·rename_i ty hd hv
   exact .inr ⟨hd, [], [], dFact_panic ho hv h.1, h.2⟩
  ·exact h.elim
 ·split at h
  rotate_left
  ·exact h.elim
  rename_i r hr
  exact .inl ⟨r, _, opFact_sem hC.T hC.A hr h.1, h.2⟩
theorem opVC_ok (hC : C.Ok) {o : Oper} {t : List (Option PV)} {H : List (Nm × SBlk)} {nx : Nat} {fps : FPs} {K : RK} (h : opVC C.calm F0 o t H nx fps K) :
  ∃ r top, OpFact C.P (evalT t) (look F0 H) C.L nx top o r ∧ K (putT t o.dst r.v) (updH H r.upd) top (fps ++ [(r.rd, keys r.upd)]) := by
 have hC' : C.calm.Ok := ⟨hC.T, hC.A, hC.mixed, hC.ms⟩
 rcases opVC_ok' hC' h with h | ⟨h, _⟩
 ·exact h
 ·cases h
theorem execR_tr (hC : C.Ok) {ops : List Oper} {m : Nat} {K : RK} (hd : ∀ o ∈ ops, ∀ d, o.dst = some d → d < m) : ∀ (l : List Oper) (t : List (Option PV)) (H : List (Nm × SBlk)) (nx : Nat) (fps : FPs), (∀ o ∈ l, o ∈ ops) → t.length = m → execR C F0 ops l t H nx fps K →
  ∃ rs ls t' H' nx', Tr C.P ops C.L m l (TF t) (look F0 H) nx rs ls (TF t') (look F0 H') nx' ∧ t'.length = m ∧ K t' H' nx' (fps ++ rs.map fpOf)
 | [], t, H, nx, fps, _, hm, h => ⟨[], [], t, H, nx, .nil _ _ _, hm, by simpa [execR] using h⟩
 | o :: l, t, H, nx, fps, hsub, hm, h => by
  have hdo : ∀ x, o.dst = some x → x < m := hd o (hsub o (by simp))
  have hsub' : ∀ o ∈ l, o ∈ ops := fun x hx => hsub x (by simp [hx])
  have run : (∀ j want, o.guard = some (j, want) → guardF ops (TF t) j = some (.bool want)) → opVC C.calm F0 o t H nx fps (fun t H nx fps => execR C F0 ops l t H nx fps K) →
    ∃ rs ls t' H' nx', Tr C.P ops C.L m (o :: l) (TF t) (look F0 H) nx rs ls (TF t') (look F0 H') nx' ∧ t'.length = m ∧ K t' H' nx' (fps ++ rs.map fpOf) := by
   intro hg hop
   obtain ⟨r, top, h1, h2⟩ := opVC_ok hC hop
   obtain ⟨rs, ls, t', H', nx', h3, h4, h5⟩ := execR_tr hC hd l _ _ _ _ hsub' (by rw [putT_length]; exact hm) h2
   rw [evalT_eq] at h1
   refine ⟨some r :: rs, nx :: ls, t', H', nx', .run hg h1 ?_, h4, ?_⟩
   ·have e := TF_put (t := t) (o := o) (r := some r) (by rw [hm]; exact hdo)
    simp only at e
    rw [← e, ← look_updH]; exact h3
   ·simpa [fpOf, rdOf, hw] using h5
  have skip : ∀ j want, o.guard = some (j, want) → Off (guardF ops (TF t) j) want → execR C F0 ops l (putT t o.dst undefP) H nx (fps ++ [([], [])]) K →
    ∃ rs ls t' H' nx', Tr C.P ops C.L m (o :: l) (TF t) (look F0 H) nx rs ls (TF t') (look F0 H') nx' ∧ t'.length = m ∧ K t' H' nx' (fps ++ rs.map fpOf) := by
   intro j want hg hoff hk
   obtain ⟨rs, ls, t', H', nx', h3, h4, h5⟩ := execR_tr hC hd l _ _ _ _ hsub' (by rw [putT_length]; exact hm) hk
   refine ⟨none :: rs, nx :: ls, t', H', nx', .skip hg hoff ?_, h4, ?_⟩
   ·have e := TF_put (t := t) (o := o) (r := none) (by rw [hm]; exact hdo)
    simp only at e
    rw [← e]; exact h3
   ·simpa [fpOf, rdOf, hw, keys] using h5
  have hgv : ∀ j, guardF ops (TF t) j = guardVal ops t j := fun j => rfl
  simp only [execR] at h
  split at h
  ·rename_i hg
   exact run (fun j want he => by rw [hg] at he; cases he) h
  ·rename_i j want hg
   split at h
   ·rename_i g hb
    by_cases hgw : g = want
    ·subst hgw
     have h1 := h.1 rfl
     rw [setG_same hb] at h1
     refine run (fun j' want' he => ?_) h1
     rw [hg] at he
     simp only [Option.some.injEq, Prod.mk.injEq] at he
     obtain ⟨rfl, rfl⟩ := he
     rw [hgv]; exact hb
    ·have hgn : g = !want := by cases g <;> cases want <;> simp_all
     have h1 := h.2 hgn
     subst hgn
     rw [setG_same hb] at h1
     exact skip j want hg (.inl (by rw [hgv]; exact hb)) h1
   ·rename_i hb
    exact skip j want hg (.inr (by rw [hgv]; exact hb)) h
   ·exact h.elim
end
def InvY (ys : List YRec) (E : Env) (F : SF) (w : World) : Prop :=
 ∀ y ∈ ys, y.R.state = .ready ∧ y.R.pending = none ∧ w.heap[y.l]? = some (.loop y.R) ∧ TRelF w (Zn E F w) E (TF y.t) y.t.length y.R.tmps
theorem InvY.step {ys : List YRec} {E E' : Env} {F F' : SF} {w w' : World} (h : InvY ys E F w) (hR : HRel E F w) (hS : StepR E F w E' F' w') : InvY ys E' F' w' := fun y hy => by
 obtain ⟨a, b, c, d⟩ := h y hy
 exact ⟨a, b, (hS.keep _ (heap_lt c) (hR.unowned (noData_loop c))).trans c, d.mono hS.ext⟩
theorem InvY.nil {E : Env} {F : SF} {w : World} : InvY [] E F w := fun _ h => by cases h
def YCon (P : Program) (y : YRec) (args : List PV) (F : SF) (L nx top : Nat) (v : PV) (upd : List (Nm × SBlk)) (rd : List Nm) : Prop :=
 nx ≤ top ∧ ∀ (F2 : SF), (∀ n ∈ rd, F2 n = F n) → ∀ (E : Env) (w : World) (args' : List Value), HRel E F2 w → (∀ k, nx ≤ k → k < top → E ⟨L, k⟩ = none) → (∀ n : Nm, L < n.l → E n = none) →
  VRl w (Zn E F2 w) E args args' → InvY [y] E F2 w → args'.length = y.R.params.size ∧
   RoundIn (W none) 0 P y.l y.R.fn ((y.R.params.zip args'.toArray).foldl (fun tmps (t, a) => tmps.setIfInBounds t a) y.R.tmps) y.R.assign y.R.body w (fun e w' => ∃ v', e = .returned v' ∧ CGives E F2 w L nx top v upd v' w')
def YVC (P : Program) (ys : List YRec) (l : Nat) (asx : List PV) (F : SF) (L nx : Nat) (K : PV → List (Nm × SBlk) → Nat → Prop) : Prop :=
 ∃ y ∈ ys, y.l = l ∧ ∃ v upd rd top, YCon P y asx F L nx top v upd rd ∧ K v upd top
def nilL : Option PV → Option PV → Option Nat
 | some (.fs _ rs), some .nilS => some rs.length
 | some (.sl _ _ l), some .nilS => some l
 | _, _ => none
def nilT (T : Tys) (ρ : Operand → Option PV) : Op → Option (Bool × Nat)
 | .binOp .eql t x y _ => match T.get t with | some { k := .slice _, .. } => (nilL (ρ x) (ρ y)).map fun n => (true, n) | _ => none
 | .binOp .neq t x y _ => match T.get t with | some { k := .slice _, .. } => (nilL (ρ x) (ρ y)).map fun n => (false, n) | _ => none
 | _ => none
def nilB : Bool → Bool → Bool
 | true, b => b
 | false, b => !b
def yldT (ρ : Operand → Option PV) : Op → Option (Nat × List PV)
 | .call ⟨.value fo, args, _⟩ => match ρ fo, vals ρ args.toList with | some (.fn (.yield l) [] []), some asx => some (l, asx) | _, _ => none
 | _ => none
def cut3 (T : Tys) (F : SF) (ρ : Operand → Option PV) : Op → Option Prop
 | .slice t x (some lo) (some hi) (some mx) =>
  match T.get t with
  | some { k := .slice e, .. } => match T.get e, ρ x, ρ lo, ρ hi, ρ mx with
   | some _, some (.sl n 0 _), some (.int _ l), some (.int _ h), some (.int _ m) => match F n with
    | some (.rows _ _ _ _ rs) => some (0 ≤ l ∧ l ≤ h ∧ h ≤ m ∧ m ≤ rs.length)
    | _ => none
   | _, _, _, _, _ => none
  | _ => none
 | _ => none
def unsetT (t : List (Option PV)) : Option Nat → List (Option PV)
 | none => t
 | some d => t.set d none
abbrev SK := List (Option PV) → List (Nm × SBlk) → Nat → Prop
def seqK (K : SK) : RK := fun t H nx _ => K t H nx
def ycK (d : Option Nat) (t : List (Option PV)) (H : List (Nm × SBlk)) (K : SK) : PV → List (Nm × SBlk) → Nat → Prop := fun v upd nx => K (putT t d v) (updH H upd) nx
def nilK (b0 : Bool) (n : Nat) (d : Option Nat) (t : List (Option PV)) (H : List (Nm × SBlk)) (nx : Nat) (K : SK) : Prop := ∀ b : Bool, (b = true → n = 0) → K (putT t d (.bool (nilB b0 b))) H nx
def opVCs (C : Cx) (F0 : SF) (o : Oper) (t : List (Option PV)) (H : List (Nm × SBlk)) (nx : Nat) (K : SK) : Prop :=
 match nilT C.T (evalT t) o.op with
 | some (b0, n) => nilK b0 n o.dst t H nx K
 | none =>
  match yldT (evalT t) o.op with
  | some (l, asx) => YVC C.P C.ys l asx (look F0 H) C.L nx (ycK o.dst t H K)
  | none =>
   match cut3 C.T (look F0 H) (evalT t) o.op with
   | some p => p ∧ K (unsetT t o.dst) H nx
   | none => opVC C F0 o t H nx [] (seqK K)
def execS (C : Cx) (F0 : SF) (ops : List Oper) : List Oper → List (Option PV) → List (Nm × SBlk) → Nat → SK → Prop
 | [], t, H, nx, K => K t H nx
 | o :: l, t, H, nx, K =>
  match o.guard with
  | none => opVCs C F0 o t H nx (fun t H nx => execS C F0 ops l t H nx K)
  | some (j, want) =>
   match guardVal ops t j with
   | some (.bool g) =>
    brB g want (opVCs C F0 o (setG ops t j want) H nx (fun t H nx => execS C F0 ops l t H nx K))
     (execS C F0 ops l (putT (setG ops t j (!want)) o.dst undefP) H nx K)
   | some (.tup []) => execS C F0 ops l (putT t o.dst undefP) H nx K
   | _ => False
theorem run_nil {P : Program} {T : Tys} (hT : T.Ok P) {w : World} {Z : Nat → Prop} {E : Env} {ρ : Operand → Option PV} {ρ' : Operand → Value} (hρ : RRel w Z E ρ ρ') {o : Oper} {b0 : Bool} {n : Nat} (h : nilT T ρ o.op = some (b0, n)) :
  (∀ c, o.op ≠ .defer c) ∧ ∃ b : Bool, (b = true → n = 0) ∧ (execOp ρ' o).run P w = .ok (.value (.bool (nilB b0 b))) w := by
 have key : ∀ (x y : Option PV) (x' y' : Value) (m : Nat) (t : TypeId) (e : TypeId), nilL x y = some m → (∀ v, x = some v → VR w Z E v x') → (∀ v, y = some v → VR w Z E v y') → (underlying t).run P w = .ok (.slice e) w →
   ∃ b : Bool, (b = true → m = 0) ∧ (Op.equal t x' y').run P w = .ok b w ∧ (∃ a l c, x' = .slice a l c) ∧ y' = .slice none 0 0 := by
  intro x y x' y' m t e hl hx hy hd
  unfold nilL at hl
  split at hl
  ·rename_i wd rs
   injection hl with hl; subst hl
   have h1 := hx _ rfl
   have h2 := hy _ rfl
   simp only [VR] at h1 h2
   subst h2
   obtain ⟨a, cap, rfl, _, _, _, _, hor⟩ := h1
   cases a with
   | none =>
    refine ⟨true, fun _ => ?_, Sx.run_equal_of fun d => by simp [Op.equalIn, hd], ⟨_, _, _, rfl⟩, rfl⟩
    rcases hor with rfl | ⟨b, o, cs, e, fz, ha, _⟩
    ·rfl
    ·cases ha
   | some a => exact ⟨false, (fun h => by cases h), Sx.run_equal_of fun d => by simp [Op.equalIn, hd], ⟨_, _, _, rfl⟩, rfl⟩
  ·rename_i nn r l
   injection hl with hl; subst hl
   have h1 := hx _ rfl
   have h2 := hy _ rfl
   simp only [VR] at h1 h2
   subst h2
   obtain ⟨i, _, hor⟩ := h1
   rcases hor with ⟨_, rfl, rfl⟩ | ⟨_, rfl⟩
   ·cases hz : i.za with
    | none => exact ⟨true, fun _ => rfl, Sx.run_equal_of fun d => by simp [Op.equalIn, hd], ⟨_, _, _, rfl⟩, rfl⟩
    | some a => exact ⟨false, (fun h => by cases h), Sx.run_equal_of fun d => by simp [Op.equalIn, hd], ⟨_, _, _, rfl⟩, rfl⟩
   ·exact ⟨false, (fun h => by cases h), Sx.run_equal_of fun d => by simp [Op.equalIn, hd], ⟨_, _, _, rfl⟩, rfl⟩
  ·cases hl
 have hsl : ∀ (t : TypeId) (i : TI) (e : TypeId), T.get t = some i → i.k = .slice e → ∃ e', (underlying t).run P w = .ok (.slice e') w := by
  intro t i e h1 h2
  obtain ⟨z, hz⟩ := hT t i h1
  obtain ⟨d, hd, hk⟩ := hz.run_underlying w
  rw [h2] at hk
  obtain rfl := Sx.tk_slice hk
  exact ⟨_, hd⟩
 cases ho : o.op <;> rw [ho] at h <;> simp only [nilT] at h <;> try (cases h; done)
 rename_i op t x y yt
 refine ⟨(fun c hc => by cases hc), ?_⟩
 unfold execOp
 rw [ho]
 cases op <;> simp only [nilT] at h <;> try (cases h; done)
 all_goals
  split at h
  rotate_left
  ·cases h
  rename_i hti
  simp only [Option.map_eq_some_iff, Prod.mk.injEq] at h
  obtain ⟨m, h1, rfl, rfl⟩ := h
  obtain ⟨e', hd⟩ := hsl t _ _ hti rfl
  obtain ⟨b, q1, q2, ⟨a, l, c, q3⟩, q4⟩ := key _ _ (ρ' x) (ρ' y) _ t e' h1 (fun v hv => hρ _ _ hv) (fun v hv => hρ _ _ hv) hd
  refine ⟨b, q1, ?_⟩
  rw [q3, q4] at q2
  simp [q3, q4, eqGuard, binOp, q2, nilB]
theorem run_cut3 {P : Program} {T : Tys} (hT : T.Ok P) {w : World} {E : Env} {F : SF} (h0 : HRel E F w) {ρ : Operand → Option PV} {ρ' : Operand → Value} (hρ : RRel w (Zn E F w) E ρ ρ') {o : Oper} {p : Prop} (h : cut3 T F ρ o.op = some p) (hp : p) :
  (∀ c, o.op ≠ .defer c) ∧ ∃ v, (execOp ρ' o).run P w = .ok (.value v) w := by
 cases ho : o.op <;> rw [ho] at h <;> simp only [cut3] at h <;> try (cases h; done)
 rename_i t x lo hi mx
 refine ⟨(fun c hc => by cases hc), ?_⟩
 cases lo with
 | none => simp at h
 | some lo =>
 cases hi with
 | none => simp at h
 | some hi =>
 cases mx with
 | none => simp at h
 | some mx =>
 simp only at h
 split at h
 rotate_left
 ·cases h
 rename_i hti
 obtain ⟨z, ht⟩ := hT _ _ hti
 obtain ⟨d, hd, hk⟩ := ht.run_underlying w
 obtain rfl := Sx.tk_slice hk
 split at h
 rotate_left
 ·cases h
 rename_i ei n ln kl l kh hh km m hei hx hl hhi hm
 obtain ⟨z2, ht2⟩ := hT _ _ hei
 have hsz := ht2.run_sizeOf w
 split at h
 rotate_left
 ·cases h
 rename_i e wd own pp rs hF
 injection h with h; subst h
 obtain ⟨c1, c2, c3, c4⟩ := hp
 have vx := hρ _ _ hx
 have vl := hρ _ _ hl
 have vh := hρ _ _ hhi
 have vm := hρ _ _ hm
 simp only [VR] at vx vl vh vm
 have hcap : ∃ a len cap, ρ' x = .slice a len cap ∧ rs.length ≤ cap := by
  obtain ⟨i, hi, hor⟩ := vx
  rcases hor with ⟨hz, rfl, hv⟩ | ⟨hz, hv⟩
  ·refine ⟨_, _, _, hv, ?_⟩
   obtain ⟨j, hj, hq⟩ := h0.blk n _ hF
   rw [hi] at hj; injection hj with hj; subst hj
   rcases hq with ⟨_, q, _⟩ | ⟨q, _⟩
   ·rw [q]; simp
   ·rw [hz] at q; cases q
  ·exact ⟨_, _, _, hv, by have := (rowsRel_of h0 hF hi hz).le; omega⟩
 obtain ⟨a, len, cap, hv, hcp⟩ := hcap
 have b1 : ∀ code, (Instr.sliceBound (ρ' mx) cap code).run P w = .ok m.toNat w := fun code => by
  simp only [Instr.sliceBound, vm, asIntOf, Sem.run_bind, Sem.run_pure, Result.andThen_ok]
  rw [if_pos ⟨by omega, by omega⟩, Sem.run_pure]
 have b2 : ∀ code, (Instr.sliceBound (ρ' hi) m.toNat code).run P w = .ok hh.toNat w := fun code => by
  simp only [Instr.sliceBound, vh, asIntOf, Sem.run_bind, Sem.run_pure, Result.andThen_ok]
  rw [if_pos ⟨by omega, by omega⟩, Sem.run_pure]
 have b3 : ∀ code, (Instr.sliceBound (ρ' lo) hh.toNat code).run P w = .ok l.toNat w := fun code => by
  simp only [Instr.sliceBound, vl, asIntOf, Sem.run_bind, Sem.run_pure, Result.andThen_ok]
  rw [if_pos ⟨by omega, by omega⟩, Sem.run_pure]
 have b4 : (Instr.sliceBounds true len cap (some (ρ' lo)) (some (ρ' hi)) (some (ρ' mx))).run P w = .ok (l.toNat, hh.toNat, m.toNat) w := by
  simp only [Instr.sliceBounds, Sem.run_bind, b1, b2, b3, Result.andThen_ok, Sem.run_pure]
 refine ⟨.slice (if m.toNat = l.toNat then a else a.map (·.add (l.toNat * ei.size))) (hh.toNat - l.toNat) (m.toNat - l.toNat), ?_⟩
 unfold execOp
 rw [ho]
 simp only [Option.map_some, Instr.sliceAt, Sem.run_bind, hd, Result.andThen_ok, Instr.slice, hv, b4, hsz, Sem.run_pure]
theorem round_any {P : Program} {l : Nat} {f : FuncId} {tmps : Array Value} {assign body : Code} {w : World} {R : Ending → World → Prop} (ro : Option Nat) (n : Nat) (h : RoundIn (W none) 0 P l f tmps assign body w R) : RoundIn (W ro) n P l f tmps assign body w R :=
 ⟨trivial, fun c cs _ => h.2 c cs (room_wide _)⟩
theorem opVCs_run {C : Cx} {F0 : SF} (hC : C.Ok) {o : Oper} {t : List (Option PV)} {H : List (Nm × SBlk)} {nx : Nat} {K : SK} (h : opVCs C F0 o t H nx K) {E : Env} {a : Act} {w : World} (hR : HRel E (look F0 H) w) (hT : TRelF w (Zn E (look F0 H) w) E (TF t) t.length a.tmps)
  (hfr : ∀ k, nx ≤ k → E ⟨C.L, k⟩ = none) (hdp : ∀ n : Nm, C.L < n.l → E n = none) (hy : InvY C.ys E (look F0 H) w) (hd : ∀ d, o.dst = some d → d < t.length) {ro : Option Nat} {n : Nat} {next : Act → World → Prop} {Q : Exit → Act → World → Prop}
  (hD : ∀ st' E' w', C.dies = true → C.dq st' → st'.t = t → st'.nx = nx → StepR E (look F0 H) w E' (look F0 st'.H) w' → TRelF w' (Zn E' (look F0 st'.H) w') E' (TF t) t.length a.tmps → (∀ n, E n = none → E' n = none) → Q (.panic C.ch) a w')
  (hK : ∀ t' H' nx' E' v w', t'.length = t.length → K t' H' nx' → nx ≤ nx' → StepR E (look F0 H) w E' (look F0 H') w' → TRelF w' (Zn E' (look F0 H') w') E' (TF t') t.length (a.put o.dst v).tmps → (∀ n, E n = none → E' n ≠ none → n.l = C.L ∧ nx ≤ n.i ∧ n.i < nx') → next (a.put o.dst v) w') :
  o.uponIn (W ro) n C.P a next Q ((o.semAt (W ro).round a.eval).run C.P w) := by
 have hev : RRel w (Zn E (look F0 H) w) E (evalT t) a.eval := by rw [evalT_eq]; exact hT.eval
 have fin : ∀ (v : PV) (upd : List (Nm × SBlk)) (top : Nat) (v' : Value) (w' : World) (E' : Env), K (putT t o.dst v) (updH H upd) top → nx ≤ top → VR w' (Zn E' ((look F0 H).upd upd) w') E' v v' → StepR E (look F0 H) w E' ((look F0 H).upd upd) w' → (∀ n, E n = none → E' n ≠ none → n.l = C.L ∧ nx ≤ n.i ∧ n.i < top) → next (a.put o.dst v') w' := by
  intro v upd top v' w' E' hk hle hv hs hn
  refine hK _ _ _ E' _ _ (putT_length _ _ _) hk hle (by rw [look_updH]; exact hs) ?_ hn
  have e := TF_put (t := t) (o := o) (r := some (mkRes True v)) hd
  simp only [mkRes] at e
  rw [e, look_updH]
  exact TRelF.putR (r := some (mkRes True v)) (hT.mono hs.ext) hv hd
 unfold opVCs at h
 split at h
 ·rename_i b0 m hn
  obtain ⟨hnd, b, q1, q2⟩ := run_nil (w := w) (P := C.P) hC.T hev hn
  rw [Oper.semAt_eq (W ro).round a.eval o hnd, q2]
  show next _ _
  refine fin _ [] nx _ _ E (h b q1) (Nat.le_refl _) (by simp [VR]) (StepR.refl hR) (fun n h1 h2 => absurd h1 h2)
 ·split at h
  ·rename_i l asx hyl
   obtain ⟨y, hmem, rfl, v, upd, rd, top, ⟨hle, hc⟩, hk⟩ := h
   have hop : ∃ fo args ats, o.op = .call ⟨.value fo, args, ats⟩ ∧ evalT t fo = some (.fn (.yield y.l) [] []) ∧ vals (evalT t) args.toList = some asx := by
    unfold yldT at hyl
    split at hyl
    ·rename_i fo args ats ho
     split at hyl
     ·rename_i l' as' h1 h2
      injection hyl with hyl; injection hyl with e1 e2; subst e1; subst e2
      exact ⟨fo, args, ats, ho, h1, h2⟩
     ·cases hyl
    ·cases hyl
   obtain ⟨fo, args, ats, ho, h1, h2⟩ := hop
   have hfv := hev _ _ h1
   simp only [VR, VRl] at hfv
   obtain ⟨fl', cl', he, rfl, rfl⟩ := hfv
   have hargs := vals_rel hev h2
   have hy1 : InvY [y] E (look F0 H) w := fun z hz => by simp only [List.mem_singleton] at hz; subst hz; exact hy z hmem
   obtain ⟨c1, c2⟩ := hc _ (fun _ _ => rfl) E w _ hR (fun k a _ => hfr k a) hdp hargs hy1
   have hheap := (hy y hmem).2.2.1
   rw [Oper.semAt_eq (W ro).round a.eval o (fun c hc => by rw [ho] at hc; cases hc)]
   have hrun : (execOp a.eval o).run C.P w = .ok (.round y.l y.R.fn ((y.R.params.zip (args.toList.map a.eval).toArray).foldl (fun tmps (t, a) => tmps.setIfInBounds t a) y.R.tmps) y.R.assign y.R.body) w := by
    unfold execOp
    rw [ho]
    simp only [resolve, he, Deferred.ofValue, Sem.run_bind, Sem.run_pure, Result.andThen_ok, invoke]
    rw [show (([] : List Value).toArray ++ args.map a.eval) = (args.toList.map a.eval).toArray from by apply Array.ext'; simp]
    exact run_yield hheap (by simpa using c1)
   rw [hrun]
   refine ⟨(fun hd => by cases hd), (round_any ro (n - 1) c2).mono ?_⟩
   rintro e w' ⟨v', rfl, E', g1, g2, g3⟩
   exact fin v upd top v' w' E' hk hle g1 g2 g3
  ·split at h
   ·rename_i p hc3
    obtain ⟨hp, hk⟩ := h
    obtain ⟨hnd, v, q2⟩ := run_cut3 (w := w) (P := C.P) hC.T hR hev hc3 hp
    rw [Oper.semAt_eq (W ro).round a.eval o hnd, q2]
    show next _ _
    refine hK _ _ _ E _ _ ?_ hk (Nat.le_refl _) (StepR.refl hR) ?_ (fun n h1 h2 => absurd h1 h2)
    ·cases o.dst <;> simp [unsetT]
    ·cases hod : o.dst with
     | none => simpa [unsetT, Act.put] using hT
     | some d =>
      simp only [unsetT, Act.put]
      refine ⟨by simpa using hT.size, fun i u hu => ?_⟩
      simp only [TF, List.getD_eq_getElem?_getD, List.getElem?_set] at hu
      by_cases hdi : d = i
      ·subst hdi
       rw [if_pos rfl] at hu
       split at hu <;> simp at hu
      ·rw [if_neg hdi] at hu
       obtain ⟨v', a1, a2⟩ := hT.val i u (by simpa [TF, List.getD_eq_getElem?_getD] using hu)
       exact ⟨v', by rw [Array.getElem?_setIfInBounds]; rw [if_neg hdi]; exact a1, a2⟩
   rcases opVC_ok' hC h with ⟨r, top, hf, hk⟩ | ⟨hdi, upd, rd, ⟨hnd, hs⟩, hk⟩
   rotate_left
   ·rw [Oper.semAt_eq (W ro).round a.eval o hnd]
    refine dies_upon (hs _ _ (fun _ _ => rfl) (fun _ _ => rfl) E w a.eval hR hdp hev) ?_
    rintro w' ⟨E', hstep, hno⟩
    rw [← look_updH] at hstep
    exact hD ⟨t, updH H upd, nx⟩ E' w' hdi hk rfl rfl hstep (hT.mono hstep.ext) hno
   obtain ⟨hnd, hnt, hs⟩ := hf
   rw [Oper.semAt_eq (W ro).round a.eval o hnd]
   have hL := hs _ _ (fun _ _ => rfl) (fun _ _ => rfl) E w a.eval hR (fun k a _ => hfr k a) hdp hev
   refine lands_upon hL ?_
   rintro v w' ⟨E', hv', hstep, hfi⟩
   exact fin r.v r.upd top v w' E' hk hnt hv' hstep hfi
theorem seq_ok {C : Cx} {F0 : SF} (hC : C.Ok) {E0 : Env} {F1 : SF} {w0 : World} {ds : List Deferred} {m base : Nat} {ro : Option Nat} {n : Nat} {ops : List Oper} {Q : Exit → Act → World → Prop} {K : SK}
  (hds : ∀ o ∈ ops, ∀ d, o.dst = some d → d < m) (hR0 : HRel E0 F1 w0) (hDQ : ∀ st E a w, C.dies = true → C.dq st → st.t.length = m → base ≤ st.nx → StepR E0 F1 w0 E (look F0 st.H) w → TRelF w (Zn E (look F0 st.H) w) E (TF st.t) m a.tmps → a.defers = ds → (∀ n, E0 n = none → E n ≠ none → n.l = C.L ∧ base ≤ n.i ∧ n.i < st.nx) → Q (.panic C.ch) a w) (hfr : ∀ k, base ≤ k → E0 ⟨C.L, k⟩ = none) (hdp : ∀ n : Nm, C.L < n.l → E0 n = none) (hy : InvY C.ys E0 F1 w0)
  (hQ : ∀ t H nx E a w, K t H nx → t.length = m → base ≤ nx → StepR E0 F1 w0 E (look F0 H) w → TRelF w (Zn E (look F0 H) w) E (TF t) m a.tmps → a.defers = ds → (∀ n, E0 n = none → E n ≠ none → n.l = C.L ∧ base ≤ n.i ∧ n.i < nx) → Q .normal a w) :
  ∀ (l : List Oper) (i : Nat) (t : List (Option PV)) (H : List (Nm × SBlk)) (nx : Nat), ops.drop i = l → i ≤ ops.length → t.length = m → base ≤ nx → execS C F0 ops l t H nx K → ∀ (E : Env) (a : Act) (w : World), StepR E0 F1 w0 E (look F0 H) w → TRelF w (Zn E (look F0 H) w) E (TF t) m a.tmps → a.defers = ds →
   (∀ n, E0 n = none → E n ≠ none → n.l = C.L ∧ base ≤ n.i ∧ n.i < nx) → wpOpsIn (W ro) n C.P ops.toArray Q ((List.range ops.length).drop i) a w := by
 intro l
 induction l with
 | nil =>
  intro i t H nx hd hi hm hb h E a w hS hT hdf hn
  have hlen : i = ops.length := by
   have := List.drop_eq_nil_iff.1 hd
   omega
  subst hlen
  rw [List.drop_of_length_le (by simp)]
  exact hQ t H nx E a w h hm hb hS hT hdf hn
 | cons o l ih =>
  intro i t H nx hd hi hm hb h E a w hS hT hdf hn
  have hlt : i < ops.length := by
   rcases Nat.lt_or_ge i ops.length with h | h
   ·exact h
   ·rw [List.drop_of_length_le h] at hd; cases hd
  have hoi : ops[i]? = some o := by
   have := List.getElem?_drop (xs := ops) (i := i) (j := 0)
   rw [hd] at this
   simpa using this.symm
  have hdr : (List.range ops.length).drop i = i :: (List.range ops.length).drop (i + 1) := by
   rw [List.drop_eq_getElem_cons (by simpa using hlt)]; simp
  have hd' : ops.drop (i + 1) = l := by
   have := List.drop_eq_getElem_cons hlt
   rw [hd] at this
   injection this with _ h2
   exact h2.symm
  rw [hdr]
  simp only [wpOpsIn, List.getElem?_toArray, hoi]
  have hdo : ∀ d, o.dst = some d → d < m := hds o (List.mem_of_getElem? hoi)
  have run : (∀ j want, o.guard = some (j, want) → guardF ops (TF t) j = some (.bool want)) → opVCs C F0 o t H nx (fun t H nx => execS C F0 ops l t H nx K) →
    (if Region.wanted o (yielded ops.toArray a.tmps) = true then o.wpIn (W ro) n C.P a w (wpOpsIn (W ro) n C.P ops.toArray Q ((List.range ops.length).drop (i + 1))) Q
     else (∀ f, o.about C.P w a.eval = some f → (W ro).fn f) ∧ wpOpsIn (W ro) n C.P ops.toArray Q ((List.range ops.length).drop (i + 1)) (a.put o.dst undef) w) := by
   intro hg hop
   have hw : Region.wanted o (yielded ops.toArray a.tmps) = true := by
    cases hgd : o.guard with
    | none => simp [Region.wanted, hgd]
    | some jw =>
     obtain ⟨j, want⟩ := jw
     rw [guardF_wanted hT hgd (hg j want hgd)]
     simp
   rw [if_pos hw]
   refine ⟨fun _ _ => trivial, ?_⟩
   refine opVCs_run hC hop hS.rel (by rw [hm]; exact hT) (fun k hk => ?_) (fun q hq => ?_) (hy.step hR0 hS) (by rw [hm]; exact hdo) (fun st' E' w' e1 e2 e3 e4 e5 e6 e7 => ?_) ?_
   ·cases he : E ⟨C.L, k⟩ with
    | none => rfl
    | some x => have := (hn ⟨C.L, k⟩ (hfr k (by omega)) (by rw [he]; simp)).2.2; simp only at this; omega
   ·cases he : E q with
    | none => rfl
    | some x => have := (hn q (hdp q hq) (by rw [he]; simp)).1; omega
   ·refine hDQ st' E' a w' e1 e2 (by rw [e3]; exact hm) (by omega) (hS.trans e5) (by rw [e3, ← hm]; exact e6) hdf fun q h1 h2 => ?_
    cases he : E q with
    | none => exact absurd (e7 q he) h2
    | some x => have := hn q h1 (by rw [he]; simp); exact ⟨this.1, this.2.1, by omega⟩
   ·intro t' H' nx' E' v w' e1 e2 e3 e4 e5 e6
    refine ih (i + 1) t' H' nx' hd' (by omega) (by rw [e1]; exact hm) (by omega) e2 E' _ w' (hS.trans e4) (by rw [hm] at e5; exact e5) (by cases hdd : o.dst <;> simp [Act.put, hdf]) ?_
    intro q h1 h2
    cases he : E q with
    | none => have := e6 q he h2; exact ⟨this.1, by omega, this.2.2⟩
    | some x => have := hn q h1 (by rw [he]; simp); exact ⟨this.1, this.2.1, by omega⟩
  have skip : ∀ j want, o.guard = some (j, want) → Off (guardF ops (TF t) j) want → execS C F0 ops l (putT t o.dst undefP) H nx K →
    (if Region.wanted o (yielded ops.toArray a.tmps) = true then o.wpIn (W ro) n C.P a w (wpOpsIn (W ro) n C.P ops.toArray Q ((List.range ops.length).drop (i + 1))) Q
     else (∀ f, o.about C.P w a.eval = some f → (W ro).fn f) ∧ wpOpsIn (W ro) n C.P ops.toArray Q ((List.range ops.length).drop (i + 1)) (a.put o.dst undef) w) := by
   intro j want hg hoff hk
   rw [guardF_off hT hg hoff]
   simp only [Bool.false_eq_true, if_false]
   refine ⟨fun _ _ => trivial, ih (i + 1) _ H nx hd' (by omega) (by rw [putT_length]; exact hm) hb hk E _ w hS ?_ (by cases hdd : o.dst <;> simp [Act.put, hdf]) hn⟩
   have e := TF_put (t := t) (o := o) (r := none) (by rw [hm]; exact hdo)
   simp only at e
   rw [e]
   exact hT.putR (r := none) VR_undef hdo
  have hgv : ∀ j, guardF ops (TF t) j = guardVal ops t j := fun j => rfl
  simp only [execS] at h
  split at h
  ·rename_i hg
   exact run (fun j want he => by rw [hg] at he; cases he) h
  ·rename_i j want hg
   split at h
   ·rename_i g hb'
    by_cases hgw : g = want
    ·subst hgw
     have h1 := h.1 rfl
     rw [setG_same hb'] at h1
     exact run (fun j' want' he => by rw [hg] at he; injection he with he; injection he with e1 e2; subst e1; subst e2; rw [hgv]; exact hb') h1
    ·have hgn : g = !want := by cases g <;> cases want <;> first | rfl | exact absurd rfl hgw
     have h1 := h.2 hgn
     subst hgn
     rw [setG_same hb'] at h1
     exact skip j want hg (.inl (by rw [hgv]; exact hb')) h1
   ·rename_i hb'
    exact skip j want hg (.inr (by rw [hgv]; exact hb')) h
   ·exact h.elim
theorem callFunc_run {P : Program} {w : World} {f : FuncId} {fn : Func} {args : Array Value} (h1 : P.funcs[f]? = some fn) (h2 : fn.body.isNone = false) (h3 : (fn.name == "runtime.NumGoroutine") = false) : (callFunc f args).run P w = .ok (.enter f args) w := by
 simp [callFunc, program, Sem.run, h1]
 rw [if_neg (by simpa using h3)]
 simp only [Option.isNone_eq_false_iff] at h2
 obtain ⟨b, hb⟩ := Option.isSome_iff_exists.1 h2
 simp [hb]
def ICon (P : Program) (ys : List YRec) (f : FuncId) (args : List PV) (F : SF) (L nx top : Nat) (v : PV) (upd : List (Nm × SBlk)) (rd : List Nm) : Prop :=
 nx ≤ top ∧ ∀ (F2 : SF), (∀ n ∈ rd, F2 n = F n) → ∀ (E : Env) (w : World) (args' : List Value), HRel E F2 w → (∀ k, nx ≤ k → k < top → E ⟨L, k⟩ = none) → (∀ n : Nm, L < n.l → E n = none) →
  VRl w (Zn E F2 w) E args args' → InvY ys E F2 w → Lands P (CGives E F2 w L nx top v upd) ((callFunc f args'.toArray).run P w)
def IDCon (P : Program) (ys : List YRec) (ch : List PanicEntry) (f : FuncId) (args : List PV) (F : SF) (L : Nat) (upd : List (Nm × SBlk)) (rd : List Nm) : Prop :=
 ∀ (F2 : SF), (∀ n ∈ rd, F2 n = F n) → ∀ (E : Env) (w : World) (args' : List Value), HRel E F2 w → (∀ n : Nm, L < n.l → E n = none) →
  VRl w (Zn E F2 w) E args args' → InvY ys E F2 w → Dies P ch (DGives E F2 w upd) ((callFunc f args'.toArray).run P w)
theorem IDCon.con {P : Program} {ch : List PanicEntry} {f : FuncId} {args : List PV} {F : SF} {L : Nat} {upd : List (Nm × SBlk)} {rd : List Nm} (h : IDCon P [] ch f args F L upd rd) : DCon P ch f args F L upd rd :=
 fun F2 h2 E w args' hR hdp hargs => h F2 h2 E w args' hR hdp hargs InvY.nil
end Go.Tx
end
section
namespace Go.Tx
open Go.Sx (lt_of_get)
section
variable {P : Program} {E0 : Env} {F0 : SF} {w0 : World}
def KF (P : Program) (ch : List PanicEntry) (ops : List Oper) (lev : Nat) (f : Nat → Option PV) (F : SF) (ez : Nat) (rs : List (Option Res)) (ls : List Nat) (d : Nat) (du : List (Nm × SBlk)) (j : Nat) (o : Oper) (r : Option Res) : Prop :=
 (j = d ∧ ∃ r', r = some r' ∧ DFact P ch (evalF (appl (fun n => decide (n < j)) 0 (twL ops rs) f)) (appl (fun n => decide (n < j)) 0 (rs.map hw) F) lev o du r'.rd ∧
   ∀ q want, o.guard = some (q, want) → guardF ops (appl (fun n => decide (n < j)) 0 (twL ops rs) f) q = some (.bool want)) ∨
 (j ≠ d ∧ (ord ops d j = true ∨
  match r with
  | some r => OpFact P (evalF (appl (fun n => decide (n < j)) 0 (twL ops rs) f)) (appl (fun n => decide (n < j)) 0 (rs.map hw) F) lev (lo ls ez j) (lo ls ez (j + 1)) o r ∧
    ∀ q want, o.guard = some (q, want) → guardF ops (appl (fun n => decide (n < j)) 0 (twL ops rs) f) q = some (.bool want)
  | none => ∃ q want, o.guard = some (q, want) ∧ Off (guardF ops (appl (fun n => decide (n < j)) 0 (twL ops rs) f) q) want))
theorem drawD_step {ops : List Oper} {lev ez m : Nat} {ds : List Deferred} {ro : Option Nat} {n : Nat} {Q : Exit → Act → World → Prop} {t0 : Nat → Option PV} {H0 : SF} {rs : List (Option Res)} {ls : List Nat}
  {ch : List PanicEntry} {d : Nat} {du : List (Nm × SBlk)} (hlen : ops.length = rs.length) (hls : ls.length = ops.length) (hmon : ∀ i, lo ls ez i ≤ lo ls ez (i + 1)) (hat : ∀ (j : Nat) (o : Oper) (r : Option Res), ops[j]? = some o → rs[j]? = some r → KF P ch ops lev t0 H0 ez rs ls d du j o r) (hst : okStatic ops m = true) (hdy : DynOk ops rs) {L L' : Nat → Bool} {E : Env} {a : Act} {w : World} {j : Nat} {o : Oper}
  (hInv : DInv E0 F0 w0 lev ls ez m ds ops rs t0 H0 L E a w) (hcl : ∀ q k, L q = true → DPred ops q k → L k = true) (hpre : ∀ k, DPred ops j k → L k = true) (hoj : ops[j]? = some o) (hLj : L j = false) (hLd : L d = false)
  (hL'j : L' j = true) (hL' : ∀ i, i ≠ j → L' i = L i) {K : Act → World → Prop} (hK : j ≠ d → ∀ E' a' w', DInv E0 F0 w0 lev ls ez m ds ops rs t0 H0 L' E' a' w' → K a' w')
  (hDie : ∀ E' w', StepR E (appl L 0 (rs.map hw) H0) w E' (SF.upd (appl L 0 (rs.map hw) H0) du) w' → (∀ n, E n = none → E' n = none) → Q (.panic ch) a w') :
  wpOpIn (W ro) n P ops.toArray Q j K a w := by
 obtain ⟨s1, s2, s3⟩ := okStatic_spec hst
 have hez : lo ls ez ops.length = ez := by simp [lo, ← hls]
 have hjz : lo ls ez (j + 1) ≤ ez := by have := lo_mono hmon (show j + 1 ≤ ops.length from lt_of_get hoj); rw [hez] at this; exact this
 have hjl := lt_of_get hoj
 obtain ⟨r, hrj⟩ : ∃ r, rs[j]? = some r := ⟨_, List.getElem?_eq_getElem (by omega)⟩
 have hd : ∀ x, o.dst = some x → x < m := s2 o (List.mem_of_getElem? hoj)
 have hordj : ∀ i, ord ops i j = true → L i = true := ord_closed s1 hcl j hpre
 have hordq : ∀ q i, L q = true → ord ops i q = true → L i = true := fun q i hq => ord_closed s1 hcl q (fun k hk => hcl q k hq hk) i
 have hun1 : ∀ q, j < q → L q = true → unord ops q j = true := by
  intro q hq hL
  have h1 : ord ops q j = false := by
   cases h : ord ops q j with
   | false => rfl
   | true => have := ord_lt s1 j q h; omega
  have h2 : ord ops j q = false := by
   cases h : ord ops j q with
   | false => rfl
   | true => have := hordq q j hL h; rw [hLj] at this; cases this
  simp [unord, h1, h2]; omega
 have hun2 : ∀ q, q < j → L q = false → unord ops q j = true := by
  intro q hq hL
  have h1 : ord ops j q = false := by
   cases h : ord ops j q with
   | false => rfl
   | true => have := ord_lt s1 q j h; omega
  have h2 : ord ops q j = false := by
   cases h : ord ops q j with
   | false => rfl
   | true => have := hordj q h; rw [hL] at this; cases this
  simp [unord, h1, h2]; omega
 have hslot : ∀ k, k ∈ looks ops o → appl L 0 (twL ops rs) t0 k = appl (fun q => decide (q < j)) 0 (twL ops rs) t0 k := by
  intro k hk
  refine appl_congr _ rfl ?_
  intro q x hx hkx
  simp only [Nat.zero_add]
  obtain ⟨oq, rq, h1, h2, rfl⟩ := twL_get hx
  have hdq := tw_keys hkx
  rcases Nat.lt_trichotomy q j with hq | hq | hq
  ·have : L q = true := by
    cases h : L q with
    | true => rfl
    | false => exact (s3 q j oq o h1 hoj (hun2 q hq h) k hdq hk).elim
   simp [this, hq]
  ·subst hq; simp [hLj]
  ·have : L q = false := by
    cases h : L q with
    | false => rfl
    | true => exact (s3 q j oq o h1 hoj (hun1 q hq h) k hdq hk).elim
   simp [this]; omega
 have hname : ∀ k : Nm, k ∈ rdOf r → appl L 0 (rs.map hw) H0 k = appl (fun q => decide (q < j)) 0 (rs.map hw) H0 k := by
  intro k hk
  refine appl_congr _ rfl ?_
  intro q x hx hkx
  simp only [Nat.zero_add]
  rw [List.getElem?_map] at hx
  cases hrq : rs[q]? with
  | none => rw [hrq] at hx; cases hx
  | some rq =>
   rw [hrq] at hx; simp only [Option.map_some, Option.some.injEq] at hx; subst hx
   rcases Nat.lt_trichotomy q j with hq | hq | hq
   ·have : L q = true := by
     cases h : L q with
     | true => rfl
     | false => exact (okDyn_spec hdy hrq hrj (hun2 q hq h) hkx (.inl hk)).elim
    simp [this, hq]
   ·subst hq; simp [hLj]
   ·have : L q = false := by
     cases h : L q with
     | false => rfl
     | true => exact (okDyn_spec hdy hrq hrj (hun1 q hq h) hkx (.inl hk)).elim
    simp [this]; omega
 have hinsT : appl L' 0 (twL ops rs) t0 = setAll (appl L 0 (twL ops rs) t0) (tw o r) := by
  refine appl_insert (twL_get' hoj hrj) hL'j hL' ?_
  intro q y hq hy hLq k hk hky
  obtain ⟨oq, rq, h1, _, rfl⟩ := twL_get hy
  exact s3 q j oq o h1 hoj (hun1 q hq hLq) k (tw_keys hky) (by simp [looks, tw_keys hk])
 have hinsH : appl L' 0 (rs.map hw) H0 = setAll (appl L 0 (rs.map hw) H0) (hw r) := by
  refine appl_insert (by simp [hrj]) hL'j hL' ?_
  intro q y hq hy hLq k hk hky
  rw [List.getElem?_map] at hy
  cases hrq : rs[q]? with
  | none => rw [hrq] at hy; cases hy
  | some rq =>
   rw [hrq] at hy; simp only [Option.map_some, Option.some.injEq] at hy; subst hy
   exact okDyn_spec hdy hrq hrj (hun1 q hq hLq) hky (.inr hk)
 have hguard : ∀ q want, o.guard = some (q, want) → guardF ops (appl L 0 (twL ops rs) t0) q = guardF ops (appl (fun q => decide (q < j)) 0 (twL ops rs) t0) q := by
  intro q want hg
  unfold guardF
  cases hoq : ops[q]? with
  | none => rfl
  | some oq =>
   simp only
   cases hdq : oq.dst with
   | none => rfl
   | some d =>
    simp only
    exact hslot d (by simp [looks, hg, hoq, hdq])
 have hfr : ∀ k, lo ls ez j ≤ k → k < lo ls ez (j + 1) → E ⟨lev, k⟩ = none := by
  intro k h1 h2
  cases hek : E ⟨lev, k⟩ with
  | none => rfl
  | some x =>
   obtain ⟨i, hi, h3, h4⟩ := hInv.fresh k (Nat.le_trans (lo_mono hmon (Nat.zero_le j)) h1) (by omega) (by rw [hek]; simp)
   have : i = j := by
    rcases Nat.lt_trichotomy i j with hl | hl | hl
    ·have := lo_mono hmon (show i + 1 ≤ j from hl); omega
    ·exact hl
    ·have := lo_mono hmon (show j + 1 ≤ i from hl); omega
   subst this
   rw [hLj] at hi; cases hi
 have hdef : ∀ v, (a.put o.dst v).defers = ds := by intro v; cases hdd : o.dst <;> simp [Act.put, hInv.defers]
 have hfresh' : ∀ E' : Env, (∀ n, E n = none → E' n ≠ none → n.l = lev ∧ lo ls ez j ≤ n.i ∧ n.i < lo ls ez (j + 1)) → ∀ k, lo ls ez 0 ≤ k → k < ez → E' ⟨lev, k⟩ ≠ none → ∃ i, L' i = true ∧ lo ls ez i ≤ k ∧ k < lo ls ez (i + 1) := by
  intro E' hF k hk hkz hne
  cases hek : E ⟨lev, k⟩ with
  | none =>
   obtain ⟨_, h1, h2⟩ := hF ⟨lev, k⟩ hek hne
   exact ⟨j, hL'j, h1, h2⟩
  | some x =>
   obtain ⟨i, hi, h3⟩ := hInv.fresh k hk hkz (by rw [hek]; simp)
   refine ⟨i, ?_, h3⟩
   by_cases hij : i = j
   ·rw [hij]; exact hL'j
   ·rw [hL' i hij]; exact hi
 have hnews' : ∀ E' : Env, (∀ n, E n = none → E' n ≠ none → n.l = lev ∧ lo ls ez j ≤ n.i ∧ n.i < lo ls ez (j + 1)) → ∀ n, E0 n = none → E' n ≠ none → n.l = lev ∧ lo ls ez 0 ≤ n.i ∧ n.i < ez := by
  intro E' hF k hk hne
  cases hek : E k with
  | none =>
   obtain ⟨h0, h1, h2⟩ := hF k hek hne
   have := lo_mono hmon (Nat.zero_le j)
   exact ⟨h0, by omega, by omega⟩
  | some x => exact hInv.news k hk (by rw [hek]; simp)
 have hdeep' : ∀ E' : Env, (∀ n, E n = none → E' n ≠ none → n.l = lev ∧ lo ls ez j ≤ n.i ∧ n.i < lo ls ez (j + 1)) → ∀ n : Nm, lev < n.l → E' n = none := by
  intro E' hF n hn
  cases he : E' n with
  | none => rfl
  | some x => have := (hF n (hInv.deep n hn) (by rw [he]; simp)).1; omega
 unfold wpOpIn
 rw [List.getElem?_toArray, hoj]
 simp only
 have hj := hat j o r hoj hrj
 rcases hj with ⟨rfl, r, rfl, ⟨hnd, hs⟩, hg⟩ | ⟨hjd, hj⟩
 ·-- it dies
  have hw' : Region.wanted o (yielded ops.toArray a.tmps) = true := by
   cases hgd : o.guard with
   | none => simp [Region.wanted, hgd]
   | some jw =>
    obtain ⟨q, want⟩ := jw
    rw [guardF_wanted hInv.tmps hgd (by rw [hguard q want hgd]; exact hg q want hgd)]
    simp
  rw [if_pos hw']
  refine ⟨fun _ _ => trivial, ?_⟩
  rw [Oper.semAt_eq (W ro).round a.eval o hnd]
  have hL := hs (evalF (appl L 0 (twL ops rs) t0)) (appl L 0 (rs.map hw) H0) (fun x hx => by
    cases x with
    | tmp i => exact hslot i (by simp only [looks, opTmps, List.mem_append, List.mem_filterMap]; exact .inl (.inr ⟨.tmp i, hx, rfl⟩))
    | _ => rfl) (fun k hk => hname k hk) E w a.eval hInv.step.rel hInv.deep hInv.tmps.eval
  refine dies_upon hL ?_
  rintro w' ⟨E', q1, q2⟩
  exact hDie E' w' q1 q2
 rcases hj with hj | hj
 ·have := hordj d hj; rw [hLd] at this; cases this
 cases r with
 | some r =>
  simp only at hj
  obtain ⟨⟨hnd, _, hs⟩, hg⟩ := hj
  have hw' : Region.wanted o (yielded ops.toArray a.tmps) = true := by
   cases hgd : o.guard with
   | none => simp [Region.wanted, hgd]
   | some jw =>
    obtain ⟨q, want⟩ := jw
    rw [guardF_wanted hInv.tmps hgd (by rw [hguard q want hgd]; exact hg q want hgd)]
    simp
  rw [if_pos hw']
  refine ⟨fun _ _ => trivial, ?_⟩
  rw [Oper.semAt_eq (W ro).round a.eval o hnd]
  have hL := hs (evalF (appl L 0 (twL ops rs) t0)) (appl L 0 (rs.map hw) H0) (fun x hx => by
    cases x with
    | tmp i => exact hslot i (by simp only [looks, opTmps, List.mem_append, List.mem_filterMap]; exact .inl (.inr ⟨.tmp i, hx, rfl⟩))
    | _ => rfl) (fun k hk => hname k hk) E w a.eval hInv.step.rel hfr hInv.deep hInv.tmps.eval
  refine lands_upon hL ?_
  rintro v w' ⟨E', hv', hstep, hfi⟩
  rw [upd_eq] at hstep hv'
  refine hK hjd E' _ w' ⟨?_, ?_, hdef v, hfresh' E' hfi, hnews' E' hfi, hdeep' E' hfi⟩
  ·rw [hinsH]; exact hInv.step.trans hstep
  ·rw [hinsT, hinsH]; exact (hInv.tmps.mono hstep.ext).putR (r := some r) hv' hd
 | none =>
  simp only at hj
  obtain ⟨q, want, hg, hb⟩ := hj
  have hw' : Region.wanted o (yielded ops.toArray a.tmps) = false := by
   exact guardF_off hInv.tmps hg (by rw [hguard q want hg]; exact hb)
  rw [hw']
  simp only [Bool.false_eq_true, if_false]
  refine ⟨fun _ _ => trivial, hK hjd E _ w ⟨?_, ?_, hdef undef, hfresh' E (fun k h1 h2 => absurd h1 h2), hInv.news, hInv.deep⟩⟩
  ·rw [hinsH]; exact hInv.step
  ·rw [hinsT, hinsH]; exact hInv.tmps.putR (r := none) VR_undef hd
theorem trD_draw {ops : List Oper} {lev ez m : Nat} {ds : List Deferred} {ro : Option Nat} {n : Nat} {Q : Exit → Act → World → Prop} {t0 : Nat → Option PV} {H0 : SF} {rs : List (Option Res)} {ls : List Nat}
  {ch : List PanicEntry} {d : Nat} {du : List (Nm × SBlk)} (hdl : d < ops.length) (hlen : ops.length = rs.length) (hls : ls.length = ops.length) (hmon : ∀ i, lo ls ez i ≤ lo ls ez (i + 1)) (hat : ∀ (j : Nat) (o : Oper) (r : Option Res), ops[j]? = some o → rs[j]? = some r → KF P ch ops lev t0 H0 ez rs ls d du j o r) (hst : okStatic ops m = true) (hdy : DynOk ops rs)
  (hDie : ∀ (L : Nat → Bool) E a w E' w', DInv E0 F0 w0 lev ls ez m ds ops rs t0 H0 L E a w → StepR E (appl L 0 (rs.map hw) H0) w E' (SF.upd (appl L 0 (rs.map hw) H0) du) w' → (∀ n, E n = none → E' n = none) → Q (.panic ch) a w') :
  ∀ (fuel : Nat) (listed : Array Bool) (E : Env) (a : Act) (w : World), listed.size = ops.length → (List.range ops.length).countP (fun i => !listed.getD i false) ≤ fuel →
   (∀ q k, listed.getD q false = true → DPred ops q k → listed.getD k false = true) → listed.getD d false = false → DInv E0 F0 w0 lev ls ez m ds ops rs t0 H0 (fun i => listed.getD i false) E a w →
   wpAnyIn (W ro) n P .any ops.toArray Q fuel listed a w := by
 obtain ⟨s1, s2, _⟩ := okStatic_spec hst
 have hlt : ∀ (listed : Array Bool), listed.size = ops.length → ∀ i, listed.getD i false = true → i < ops.length := by
  intro listed hs i hi
  rcases Nat.lt_or_ge i listed.size with h | h
  ·omega
  ·simp [Array.getD, Nat.not_lt.2 h] at hi
 have hready : ∀ (listed : Array Bool), listed.size = ops.length → Region.ready .any ops.toArray listed = [] → ∀ i, i < ops.length → listed.getD i false = true := by
  intro listed hs hr i
  induction i using Nat.strongRecOn with
  | _ i ih =>
   intro hi
   cases hli : listed.getD i false with
   | true => rfl
   | false =>
    exfalso
    have : i ∈ Region.ready .any ops.toArray listed := by
     rw [mem_ready]
     have ho : ops[i]? = some ops[i] := List.getElem?_eq_getElem hi
     refine ⟨?_, ops[i], by simp [ho], ?_⟩
     ·simp only [Array.getD] at hli ⊢
      rw [dif_pos (by omega)] at hli ⊢
      exact hli
     ·intro e he hb
      have hd : DPred ops i e.on := ⟨ops[i], ho, e, by simpa using he, hb, rfl⟩
      have := edgesDown_spec s1 hd
      exact ih e.on this (by omega)
    rw [hr] at this
    cases this
 intro fuel
 induction fuel with
 | zero =>
  intro listed E a w hs hc hcl hnd hI
  have hall : ∀ i, i < ops.length → listed.getD i false = true := by
   intro i hi
   cases hli : listed.getD i false with
   | true => rfl
   | false =>
    have : 0 < (List.range ops.length).countP (fun i => !listed.getD i false) := List.countP_pos_iff.2 ⟨i, by simpa using hi, by simp [hli]⟩
    omega
  exact absurd (hall d hdl) (by rw [hnd]; simp)
 | succ fuel ih =>
  intro listed E a w hs hc hcl hnd hI
  refine ⟨fun hr => absurd (hready listed hs hr d hdl) (by rw [hnd]; simp), ?_⟩
  intro j hj
  rw [mem_ready] at hj
  obtain ⟨h1, o, h2, h3⟩ := hj
  rw [List.getElem?_toArray] at h2
  have hjl := lt_of_get h2
  have hLj : listed.getD j false = false := by
   simp only [Array.getD] at h1 ⊢
   rw [dif_pos (by omega)] at h1 ⊢
   exact h1
  have hL'j : (listed.setIfInBounds j true).getD j false = true := by
   simp only [Array.getD]
   rw [dif_pos (by simp; omega)]
   simp
  have hL' : ∀ i, i ≠ j → (listed.setIfInBounds j true).getD i false = listed.getD i false := fun i hi => getD_set_ne false (fun e => hi e.symm)
  have hpre : ∀ k, DPred ops j k → listed.getD k false = true := by
   rintro k ⟨o', ho', e, he, hb, rfl⟩
   rw [h2] at ho'; injection ho' with ho'; subst ho'
   exact h3 e (by simpa using he) hb
  refine drawD_step hlen hls hmon hat hst hdy (L := fun i => listed.getD i false) (L' := fun i => (listed.setIfInBounds j true).getD i false) hI hcl hpre h2 hLj hnd hL'j hL' ?_ (fun E' w' q1 q2 => hDie _ E a w E' w' hI q1 q2)
  intro hjd E' a' w' hI'
  refine ih _ E' a' w' (by simpa using hs) ?_ ?_ (by rw [hL' d (fun e => hjd e.symm)]; exact hnd) hI'
  ·have := countP_lt (p := fun i => !listed.getD i false) (p' := fun i => !(listed.setIfInBounds j true).getD i false) (l := List.range ops.length) (fun x _ hx => by
    by_cases hxj : x = j
    ·subst hxj; simp [hL'j] at hx
    ·simpa [hL' x hxj] using hx) (j := j) (by simpa using hjl) (by simp [hLj]) (by simp [hL'j])
   omega
  ·intro q k hq hd
   by_cases hqj : q = j
   ·subst hqj
    have := hpre k hd
    by_cases hk : k = q
    ·rw [hk]; exact hL'j
    ·rw [hL' k hk]; exact this
   ·rw [hL' q hqj] at hq
    by_cases hk : k = j
    ·rw [hk]; exact hL'j
    ·rw [hL' k hk]; exact hcl q k hq hd
end
end Go.Tx
end
