/- Lemmas for the walk: T12, T13a, T13b, T13c, U14, U15. -/
import Derived.Test.YtaacfnngodhecaaGreatDoorP05
set_option linter.all false
section
namespace Go.Tx
open Go.Sx (TK tk isAggK cellsOf cellsOf_eq lt_of_get getD_of_lt notYield)
def optVal (ρ : Operand → Option PV) : Option Operand → Option (Option PV)
 | none => some none
 | some o => (ρ o).map some
def vals (ρ : Operand → Option PV) : List Operand → Option (List PV)
 | [] => some []
 | x :: l => (ρ x).bind fun v => (vals ρ l).map fun l' => v :: l'
def partsV (ρ : Operand → Option PV) : List (Nat × Operand) → Option (List (Nat × PV))
 | [] => some []
 | x :: l => (ρ x.2).bind fun v => (partsV ρ l).map fun l' => (x.1, v) :: l'
def semCall (T : Tys) (ρ : Operand → Option PV) (F : SF) (nx : Nm) (c : Call) : Option Res :=
 match c.callee with
 | .builtin b =>
  match b, c.args.toList, c.argTypes.toList with
  | .len, [x], [t] => (ρ x).bind (semLen T F t)
  | .append, [s, x], [t, xt] => (ρ s).bind fun a => (ρ x).bind fun b => semAppend2 T F nx t xt a b
  | .min, [x, y], _ => (ρ x).bind fun a => (ρ y).bind fun b => semMin false a b
  | .max, [x, y], _ => (ρ x).bind fun a => (ρ y).bind fun b => semMin true a b
  | .unsafeSliceData, [x], _ => (ρ x).bind (semSliceData F)
  | .clear, [x], [t] => (ρ x).bind (semClear T F t)
  | .copy, [s, x], [t, xt] => (ρ s).bind fun a => (ρ x).bind fun b => semCopy T F t xt a b
  | .unsafeString, [x, y], [t, _] => (ρ x).bind fun a => (ρ y).bind fun b => semUString T F t a b
  | _, _, _ => none
 | _ => none
def semOp (T : Tys) (wr : Bool) (ρ : Operand → Option PV) (F : SF) (nx : Nm) : Op → Option Res
 | .move x => (ρ x).map (mkRes True)
 | .assign x => (ρ x).map (mkRes True)
 | .pick c a b => (ρ c).bind fun c => (ρ a).bind fun a => (ρ b).bind fun b => semPick c a b
 | .alloc t => semAlloc T nx t
 | .box t x => (ρ x).bind fun v => semBox T nx t v
 | .build t parts => (partsV ρ parts.toList).bind (semBuild T t)
 | .buildSlice t len parts => (partsV ρ parts.toList).bind (semBuildSlice T nx t len)
 | .load t a => (ρ a).bind (semLoad T F t)
 | .store t a x => (ρ a).bind fun p => (ρ x).bind fun v => semStore T F t p v
 | .nilCheck x => (ρ x).bind semNilCheck
 | .binOp op t x y _ => (ρ x).bind fun a => (ρ y).bind fun b => (semBin T wr op t a b).map fun q => mkRes q.1 q.2
 | .unOp op _ x => (ρ x).bind (semUn wr op)
 | .convert src dst x => (ρ x).bind (semConv2 T F nx src dst)
 | .sliceToArrayPointer t x => (ρ x).bind (semS2A T t)
 | .makeInterface t x => (ρ x).bind fun v => match T.get t with | some { k := .iface, .. } => none | some _ => some (mkRes True (.ifc t v)) | none => none
 | .makeFunc fn first captured => if notYield fn = false then none else (vals ρ first.toList).bind fun a => (vals ρ captured.toList).map fun b => mkRes True (.fn fn a b)
 | .makeSlice t l c => (ρ l).bind fun l => (ρ c).bind fun c => semMakeSlice T nx t l c
 | .slice t x lo hi mx => (ρ x).bind fun x => (optVal ρ lo).bind fun lo => (optVal ρ hi).bind fun hi => (optVal ρ mx).bind fun mx => semSlice T F t x lo hi mx
 | .fieldAddr s x f => (ρ x).bind fun x => semField T s x f
 | .indexAddr t x i => (ρ x).bind fun x => (ρ i).bind fun i => semIndexAddr T F t x i
 | .index t x i => (ρ x).bind fun x => (ρ i).bind fun i => semIndex T t x i
 | .field t x f => (ρ x).bind fun x => semPart T t x f
 | .extract x i => (ρ x).bind fun x => semExtract x i
 | .makeMap t none => semMakeMap T nx t
 | .lookup t x i ok => (ρ x).bind fun x => (ρ i).bind fun i => semLookup T F t x i ok
 | .mapUpdate t m k v => (ρ m).bind fun m => (ρ k).bind fun k => (ρ v).bind fun v => semMapUpdate T F t m k v
 | .call c => semCall T ρ F nx c
 | _ => none
section
variable {P : Program} {T : Tys} {E : Env} {F : SF} {nx : Nm} {w : World}
def RRel (w : World) (Z : Nat → Prop) (E : Env) (ρ : Operand → Option PV) (ρ' : Operand → Value) : Prop := ∀ x v, ρ x = some v → VR w Z E v (ρ' x)
theorem vals_rel {Z : Nat → Prop} {ρ : Operand → Option PV} {ρ' : Operand → Value} (hρ : RRel w Z E ρ ρ') : ∀ {l : List Operand} {vs : List PV}, vals ρ l = some vs → VRl w Z E vs (l.map ρ')
 | [], vs, h => by simp [vals] at h; subst h; simp [VRl]
 | x :: l, vs, h => by
  simp only [vals, Option.bind_eq_some_iff, Option.map_eq_some_iff] at h
  obtain ⟨v, h1, l', h2, rfl⟩ := h
  simp only [VRl, List.map_cons]
  exact ⟨_, _, rfl, hρ _ _ h1, vals_rel hρ h2⟩
theorem partsV_rel {Z : Nat → Prop} {ρ : Operand → Option PV} {ρ' : Operand → Value} (hρ : RRel w Z E ρ ρ') : ∀ {l : List (Nat × Operand)} {vs : List (Nat × PV)}, partsV ρ l = some vs → PRel w Z E vs (l.map fun x => (x.1, ρ' x.2))
 | [], vs, h => by simp [partsV] at h; subst h; exact .nil
 | x :: l, vs, h => by
  simp only [partsV, Option.bind_eq_some_iff, Option.map_eq_some_iff] at h
  obtain ⟨v, h1, l', h2, rfl⟩ := h
  exact .cons (hρ _ _ h1) (partsV_rel hρ h2)
theorem optVal_rel {Z : Nat → Prop} {ρ : Operand → Option PV} {ρ' : Operand → Value} (hρ : RRel w Z E ρ ρ') {o : Option Operand} {v : Option PV} (h : optVal ρ o = some v) : BndR v (o.map ρ') := by
 cases o with
 | none => simp [optVal] at h; subst h; rfl
 | some x =>
  simp only [optVal, Option.map_eq_some_iff] at h
  obtain ⟨u, h1, rfl⟩ := h
  have := hρ _ _ h1
  cases u <;> first | trivial | (simp only [VR] at this; simp [BndR, this])
theorem lands_value {K : Value → World → Prop} {s : Sem Value} {v' : Value} {w' : World} (hr : s.run P w = .ok v' w') (hk : K v' w') : Lands P K ((do pure (.value (← s)) : Sem Next).run P w) := by
 simp [hr, Lands, Sx.Lands, hk]
theorem sound_call (hT : T.Ok P) (h : HRel E F w) (hE0 : E nx = none) {ρ : Operand → Option PV} {ρ' : Operand → Value} (hρ : RRel w (Zn E F w) E ρ ρ') {c : Call} {ty : TypeId} {r : Res}
  (hs : semCall T ρ F nx c = some r) (hvc : r.vc) : Lands P (fun v' w' => Gives E F nx w r v' w') ((do let d ← resolve ρ' c ty; invoke d.target d.args : Sem Next).run P w) := by
 obtain ⟨callee, ⟨args⟩, ⟨argTypes⟩⟩ := c
 unfold semCall at hs
 split at hs
 rotate_left
 ·cases hs
 rename_i b hc
 simp only at hc
 subst hc
 split at hs
 ·rename_i x t ha ht
  simp only at ha ht
  subst ha; subst ht
  simp only [Option.bind_eq_some_iff] at hs
  obtain ⟨a, h1, h2⟩ := hs
  obtain ⟨v', r1, r2⟩ := sound_len (P := P) (nx := nx) (ty := ty) hT h h2 (hρ _ _ h1)
  simp only [resolve, invoke, builtin, Sem.run_bind, Sem.run_pure, Result.andThen_ok, List.map_toArray, List.map_cons, List.map_nil, r1]
  exact r2
 ·rename_i s x t xt ha ht
  simp only at ha ht
  subst ha; subst ht
  simp only [Option.bind_eq_some_iff] at hs
  obtain ⟨a, h1, b, h2, h3⟩ := hs
  obtain ⟨v', w', r1, r2⟩ := sound_append2 (ty := ty) hT h hE0 h3 hvc (hρ _ _ h1) (hρ _ _ h2)
  simp only [resolve, invoke, builtin, Sem.run_bind, Sem.run_pure, Result.andThen_ok, List.map_toArray, List.map_cons, List.map_nil, r1]
  exact r2
 ·rename_i x y ha
  simp only at ha
  subst ha
  simp only [Option.bind_eq_some_iff] at hs
  obtain ⟨a, h1, b, h2, h3⟩ := hs
  obtain ⟨v', r1, r2⟩ := sound_min (P := P) (nx := nx) (ty := ty) (ts := argTypes.toArray) h h3 (hρ _ _ h1) (hρ _ _ h2)
  simp only [Bool.false_eq_true, if_false] at r1
  simp only [resolve, invoke, builtin, Sem.run_bind, Sem.run_pure, Result.andThen_ok, List.map_toArray, List.map_cons, List.map_nil, r1]
  exact r2
 ·rename_i x y ha
  simp only at ha
  subst ha
  simp only [Option.bind_eq_some_iff] at hs
  obtain ⟨a, h1, b, h2, h3⟩ := hs
  obtain ⟨v', r1, r2⟩ := sound_min (P := P) (nx := nx) (ty := ty) (ts := argTypes.toArray) h h3 (hρ _ _ h1) (hρ _ _ h2)
  simp only [if_true] at r1
  simp only [resolve, invoke, builtin, Sem.run_bind, Sem.run_pure, Result.andThen_ok, List.map_toArray, List.map_cons, List.map_nil, r1]
  exact r2
 ·rename_i x ha
  simp only at ha
  subst ha
  simp only [Option.bind_eq_some_iff] at hs
  obtain ⟨a, h1, h2⟩ := hs
  obtain ⟨v', r1, r2⟩ := sound_sliceData (P := P) (nx := nx) (ty := ty) (ts := argTypes.toArray) h h2 hvc (hρ _ _ h1)
  simp only [resolve, invoke, builtin, Sem.run_bind, Sem.run_pure, Result.andThen_ok, List.map_toArray, List.map_cons, List.map_nil, r1]
  exact r2
 ·rename_i x t ha ht
  simp only at ha ht
  subst ha; subst ht
  simp only [Option.bind_eq_some_iff] at hs
  obtain ⟨a, h1, h2⟩ := hs
  obtain ⟨v', w', r1, r2⟩ := sound_clear (P := P) (nx := nx) (ty := ty) hT h h2 hvc (hρ _ _ h1)
  simp only [resolve, invoke, builtin, Sem.run_bind, Sem.run_pure, Result.andThen_ok, List.map_toArray, List.map_cons, List.map_nil, r1]
  exact r2
 ·rename_i s x t xt ha ht
  simp only at ha ht
  subst ha; subst ht
  simp only [Option.bind_eq_some_iff] at hs
  obtain ⟨a, h1, b, h2, h3⟩ := hs
  obtain ⟨v', w', r1, r2⟩ := sound_copy (P := P) (nx := nx) (ty := ty) hT h h3 hvc (hρ _ _ h1) (hρ _ _ h2)
  simp only [resolve, invoke, builtin, Sem.run_bind, Sem.run_pure, Result.andThen_ok, List.map_toArray, List.map_cons, List.map_nil, r1]
  exact r2
 ·rename_i x y t t2 ha ht
  simp only at ha ht
  subst ha; subst ht
  simp only [Option.bind_eq_some_iff] at hs
  obtain ⟨a, h1, b, h2, h3⟩ := hs
  obtain ⟨v', w', r1, r2⟩ := sound_ustring (P := P) (nx := nx) (it := t2) (ty := ty) hT h h3 hvc (hρ _ _ h1) (hρ _ _ h2)
  simp only [resolve, invoke, builtin, Sem.run_bind, Sem.run_pure, Result.andThen_ok, List.map_toArray, List.map_cons, List.map_nil, r1]
  exact r2
 ·cases hs
set_option maxHeartbeats 400000 in
theorem sound_op (hT : T.Ok P) (hA : AllFields T) (h : HRel E F w) (hE0 : E nx = none) {wr : Bool} {ρ : Operand → Option PV} {ρ' : Operand → Value} (hρ : RRel w (Zn E F w) E ρ ρ') {o : Oper} {r : Res}
  (hs : semOp T wr ρ F nx o.op = some r) (hvc : r.vc) : Lands P (fun v' w' => Gives E F nx w r v' w') ((execOp ρ' o).run P w) := by
 unfold execOp
 cases ho : o.op <;> rw [ho] at hs <;> simp only [semOp] at hs <;> try (cases hs; done)
 case move x =>
  simp only [Option.map_eq_some_iff] at hs
  obtain ⟨v, h1, rfl⟩ := hs
  exact Gives.still h rfl (hρ _ _ h1)
 case assign x =>
  simp only [Option.map_eq_some_iff] at hs
  obtain ⟨v, h1, rfl⟩ := hs
  exact Gives.still h rfl (hρ _ _ h1)
 case pick c a b =>
  simp only [Option.bind_eq_some_iff] at hs
  obtain ⟨vc, h1, va, h2, vb, h3, h4⟩ := hs
  obtain ⟨v', r1, r2⟩ := sound_pick (P := P) (nx := nx) h h4 hvc (hρ _ _ h1) (hρ _ _ h2) (hρ _ _ h3)
  have : (do pure (.value (if ← asBool (ρ' c) then ρ' a else ρ' b)) : Sem Next).run P w = .ok (.value v') w := by
   simp only [Sem.run_bind, Sem.run_pure] at r1 ⊢
   cases hb : (asBool (ρ' c)).run P w with
   | ok b w2 => rw [hb] at r1; simp only [Result.andThen_ok] at r1 ⊢; injection r1 with r1 r3; subst r1; subst r3; rfl
   | halt x w2 => rw [hb] at r1; cases r1
  simp only [this]
  exact r2
 case alloc t =>
  obtain ⟨v', w', r1, r2⟩ := sound_alloc hT h hE0 hs
  exact lands_value r1 r2
 case box t x =>
  simp only [Option.bind_eq_some_iff] at hs
  obtain ⟨v, h1, h2⟩ := hs
  obtain ⟨v', w', r1, r2⟩ := sound_box (P := P) h hE0 h2 hvc (hρ _ _ h1)
  exact lands_value r1 r2
 case build t parts =>
  simp only [Option.bind_eq_some_iff] at hs
  obtain ⟨ps, h1, h2⟩ := hs
  obtain ⟨v', r1, r2⟩ := sound_build (nx := nx) hT hA h h2 hvc (partsV_rel hρ h1)
  have hparts : (parts.map fun (i, x) => (i, ρ' x)) = (parts.toList.map fun x => (x.1, ρ' x.2)).toArray := by apply Array.ext'; simp
  simp only [hparts, Sem.run_bind, r1, Result.andThen_ok, Sem.run_pure]
  exact r2
 case buildSlice t len parts =>
  simp only [Option.bind_eq_some_iff] at hs
  obtain ⟨ps, h1, h2⟩ := hs
  obtain ⟨v', w', r1, r2⟩ := sound_buildSlice hT h hE0 h2 hvc (partsV_rel hρ h1)
  have hparts : (parts.map fun (i, x) => (i, ρ' x)) = (parts.toList.map fun x => (x.1, ρ' x.2)).toArray := by apply Array.ext'; simp
  simp only [hparts, Sem.run_bind, r1, Result.andThen_ok, Sem.run_pure]
  exact r2
 case load t a =>
  simp only [Option.bind_eq_some_iff] at hs
  obtain ⟨v, h1, h2⟩ := hs
  obtain ⟨v', r1, r2⟩ := sound_load (nx := nx) hT h h2 hvc (hρ _ _ h1)
  exact lands_value r1 r2
 case store t a x =>
  simp only [Option.bind_eq_some_iff] at hs
  obtain ⟨p, h1, v, h2, h3⟩ := hs
  obtain ⟨w', r1, r2⟩ := sound_store (nx := nx) hT h h3 hvc (hρ _ _ h1) (hρ _ _ h2)
  simp only [Sem.run_bind, r1, Result.andThen_ok, Sem.run_pure]
  exact r2
 case makeMap t hint =>
  cases hint with
  | none =>
   obtain ⟨v', w', r1, r2⟩ := sound_makeMap (P := P) h hE0 hs
   simp only [Option.map_none]
   exact lands_value r1 r2
  | some x => cases hs
 case lookup t x i ok =>
  simp only [Option.bind_eq_some_iff] at hs
  obtain ⟨a, h1, b, h2, h3⟩ := hs
  obtain ⟨v', r1, r2⟩ := sound_lookup (P := P) (nx := nx) hT h h3 hvc (hρ _ _ h1) (hρ _ _ h2)
  exact lands_value r1 r2
 case mapUpdate t m k x =>
  simp only [Option.bind_eq_some_iff] at hs
  obtain ⟨a, h1, b, h2, c, h3, h4⟩ := hs
  obtain ⟨w', r1, r2⟩ := sound_mapUpdate (P := P) (nx := nx) hT h h4 hvc (hρ _ _ h1) (hρ _ _ h2) (hρ _ _ h3)
  simp only [Sem.run_bind, r1, Result.andThen_ok, Sem.run_pure]
  exact r2
 case nilCheck x =>
  simp only [Option.bind_eq_some_iff] at hs
  obtain ⟨v, h1, h2⟩ := hs
  have hd := hρ _ _ h1
  unfold semNilCheck at h2
  split at h2
  ·injection h2 with h2; subst h2
   have hd0 := hd
   simp only [VR] at hd
   obtain ⟨i, _, _, he⟩ := hd
   simp only [he]
   rw [he] at hd0
   exact Gives.still h rfl hd0
  ·injection h2 with h2; subst h2
   have hd0 := hd
   simp only [VR] at hd
   obtain ⟨b, o, cs, e, fz, he, _⟩ := hd
   simp only [he]
   rw [he] at hd0
   exact Gives.still h rfl hd0
  ·cases h2
 case binOp op t x y yt =>
  simp only [Option.bind_eq_some_iff, Option.map_eq_some_iff] at hs
  obtain ⟨a, h1, b, h2, ⟨p, v⟩, h3, rfl⟩ := hs
  obtain ⟨v', r1, r2⟩ := sound_bin (P := P) (w := w) hT x y h3 hvc (hρ _ _ h1) (hρ _ _ h2)
  exact lands_value r1 (Gives.still h rfl r2)
 case unOp op t x =>
  simp only [Option.bind_eq_some_iff] at hs
  obtain ⟨a, h1, h2⟩ := hs
  obtain ⟨v', r1, r2⟩ := sound_un (P := P) (nx := nx) h h2 hvc (hρ _ _ h1)
  exact lands_value r1 r2
 case convert src dst x =>
  simp only [Option.bind_eq_some_iff] at hs
  obtain ⟨a, h1, h2⟩ := hs
  obtain ⟨v', w', r1, r2⟩ := sound_conv2 hT h hE0 h2 hvc (hρ _ _ h1)
  exact lands_value r1 r2
 case sliceToArrayPointer t x =>
  simp only [Option.bind_eq_some_iff] at hs
  obtain ⟨a, h1, h2⟩ := hs
  obtain ⟨v', r1, r2⟩ := sound_s2a (P := P) (nx := nx) hT h h2 hvc (hρ _ _ h1)
  exact lands_value r1 r2
 case makeInterface t x =>
  simp only [Option.bind_eq_some_iff] at hs
  obtain ⟨a, h1, h2⟩ := hs
  split at h2
  ·cases h2
  ·rename_i ti hni hti
   injection h2 with h2; subst h2
   obtain ⟨z, ht⟩ := hT _ _ hti
   obtain ⟨d, hd, hk⟩ := ht.run_underlying w
   refine lands_value (s := Instr.makeInterface t (ρ' x)) (v' := .iface t (ρ' x)) (w' := w) ?_ (Gives.still h rfl (by simp only [mkRes, VR]; exact ⟨_, rfl, hρ _ _ h1⟩))
   simp only [Instr.makeInterface, Sem.run_bind, hd, Result.andThen_ok]
   cases d <;> first | rfl | skip
   exfalso
   simp only [tk] at hk
   cases ti with
   | mk k z s b e => simp only at hk; subst hk; exact hni _ _ _ _ _ rfl
  ·cases h2
 case makeFunc fn first captured =>
  split at hs
  ·cases hs
  simp only [Option.bind_eq_some_iff, Option.map_eq_some_iff] at hs
  obtain ⟨a, h1, b, h2, rfl⟩ := hs
  refine lands_value (s := Instr.makeFunc fn (first.map ρ') (captured.map ρ')) (v' := .func fn (first.map ρ') (captured.map ρ')) (w' := w) rfl (Gives.still h rfl ?_)
  simp only [mkRes, VR]
  exact ⟨first.toList.map ρ', captured.toList.map ρ', by congr 1 <;> (apply Array.ext'; simp), vals_rel hρ h1, vals_rel hρ h2⟩
 case makeSlice t l c =>
  simp only [Option.bind_eq_some_iff] at hs
  obtain ⟨a, h1, b, h2, h3⟩ := hs
  obtain ⟨v', w', r1, r2⟩ := sound_makeSlice hT h hE0 h3 hvc (hρ _ _ h1) (hρ _ _ h2)
  exact lands_value r1 r2
 case slice t x lo hi mx =>
  simp only [Option.bind_eq_some_iff] at hs
  obtain ⟨a, h1, lo', h2, hi', h3, mx', h4, h5⟩ := hs
  have hm : mx' = none → mx.map ρ' = none := fun hm => by subst hm; exact optVal_rel hρ h4
  obtain ⟨v', r1, r2⟩ := sound_slice (nx := nx) hT h h5 hvc (hρ _ _ h1) (optVal_rel hρ h2) (optVal_rel hρ h3) hm
  exact lands_value r1 r2
 case fieldAddr s x f =>
  simp only [Option.bind_eq_some_iff] at hs
  obtain ⟨a, h1, h2⟩ := hs
  obtain ⟨v', r1, r2⟩ := sound_field (nx := nx) hT h h2 (hρ _ _ h1)
  exact lands_value r1 r2
 case indexAddr t x i =>
  simp only [Option.bind_eq_some_iff] at hs
  obtain ⟨a, h1, b, h2, h3⟩ := hs
  obtain ⟨v', r1, r2⟩ := sound_indexAddr (nx := nx) hT h h3 hvc (hρ _ _ h1) (hρ _ _ h2)
  exact lands_value r1 r2
 case index t x i =>
  simp only [Option.bind_eq_some_iff] at hs
  obtain ⟨a, h1, b, h2, h3⟩ := hs
  obtain ⟨v', r1, r2⟩ := sound_index (nx := nx) hT h h3 hvc (hρ _ _ h1) (hρ _ _ h2)
  exact lands_value r1 r2
 case field t x f =>
  simp only [Option.bind_eq_some_iff] at hs
  obtain ⟨a, h1, h2⟩ := hs
  obtain ⟨v', r1, r2⟩ := sound_part (nx := nx) hT h h2 hvc (hρ _ _ h1)
  exact lands_value r1 r2
 case extract x i =>
  simp only [Option.bind_eq_some_iff] at hs
  obtain ⟨a, h1, h2⟩ := hs
  obtain ⟨v', r1, r2⟩ := sound_extract (P := P) (nx := nx) h h2 (hρ _ _ h1)
  exact lands_value r1 r2
 case call c => exact sound_call hT h hE0 hρ hs hvc
end
end Go.Tx
end
section
namespace Go.Tx
section
variable {T : Tys} {F F' : SF} {nx : Nm} {r : Res}
theorem semLoadR_rd (i : TI) (wd : Nat) (rs : List (List PV)) (row c : Nat) (rd : List Nm) : (semLoadR i wd rs row c rd).rd = rd := by unfold semLoadR; split <;> rfl
theorem loc_load {t : TypeId} {v : PV} (h : semLoad T F t v = some r) (hl : ∀ n ∈ r.rd, F' n = F n) : semLoad T F' t v = some r := by
 unfold semLoad at h ⊢
 split at h
 ·rename_i n row c
  try simp only
  split at h
  rotate_left
  ·cases h
  rename_i i e wd own p rs hti hF
  have hn : n ∈ r.rd := by injection h with h; subst h; rw [semLoadR_rd]; simp
  try rw [hti]
  rw [hl n hn, hF]
  exact h
 ·exact h
 ·cases h
theorem loc_store {t : TypeId} {p v : PV} (h : semStore T F t p v = some r) (hl : ∀ n ∈ r.rd, F' n = F n) : semStore T F' t p v = some r := by
 unfold semStore at h ⊢
 split at h
 rotate_left
 ·cases h
 rename_i n row c
 try simp only
 split at h
 rotate_left
 ·cases h
 rename_i i e wd ex rs vs hti hF hv
 have hn : n ∈ r.rd := by injection h with h; subst h; simp
 try rw [hti]
 rw [hl n hn, hF]
 first | exact h | (rw [hv]; exact h)
theorem loc_indexAddr {t : TypeId} {x i : PV} (h : semIndexAddr T F t x i = some r) (hl : ∀ n ∈ r.rd, F' n = F n) : semIndexAddr T F' t x i = some r := by
 unfold semIndexAddr at h ⊢
 split at h
 rotate_left
 ·cases h
 try simp only
 split at h
 ·rename_i hti
  try rw [hti]
  try simp only
  split at h
  rotate_left
  ·cases h
  rename_i ei hei
  try simp only [hei]
  split at h
  ·rename_i n row l
   try simp only
   split at h
   rotate_left
   ·cases h
   rename_i e0 wd own ex rs hF
   have hn : n ∈ r.rd := by
    split at h
    ·injection h with h; subst h; simp
    ·cases h
   rw [hl n hn, hF]
   exact h
  ·exact h
  ·cases h
 ·rename_i hti
  try rw [hti]
  exact h
 ·cases h
theorem loc_slice {t : TypeId} {x : PV} {lo hi mx : Option PV} (h : semSlice T F t x lo hi mx = some r) (hl : ∀ n ∈ r.rd, F' n = F n) : semSlice T F' t x lo hi mx = some r := by
 unfold semSlice at h ⊢
 split at h
 ·rename_i hti; first | exact h | (rw [hti]; exact h)
 ·rename_i hti
  try rw [hti]
  try simp only
  split at h
  rotate_left
  ·cases h
  rename_i ei hei
  try simp only [hei]
  split at h
  ·rename_i n row len
   try simp only
   split at h
   rotate_left
   ·cases h
   rename_i e0 wd own p rs l hh hF hl' hhh
   have hn : n ∈ r.rd := by
    split at h
    ·injection h with h; subst h; simp
    ·cases h
   rw [hl n hn, hF]
   first | exact h | (rw [hl', hhh]; exact h)
  ·exact h
  ·exact h
  ·cases h
 ·cases h
theorem loc_conv {src dst : TypeId} {x : PV} (h : semConv T F nx src dst x = some r) (hl : ∀ n ∈ r.rd, F' n = F n) : semConv T F' nx src dst x = some r := by
 unfold semConv at h ⊢
 split at h
 rotate_left
 ·cases h
 rename_i si di hsi hdi
 try rw [hsi, hdi]
 try simp only
 split at h
 ·rename_i h1 h2; first | exact h | (rw [h1, h2]; exact h)
 ·rename_i h1 h2; first | exact h | (rw [h1, h2]; exact h)
 ·rename_i e h1 h2
  try rw [h1, h2]
  try simp only
  split at h
  rotate_left
  ·cases h
  rename_i hei
  try rw [hei]
  try simp only
  split at h
  ·rename_i n row l
   try simp only
   split at h
   rotate_left
   ·cases h
   rename_i hF
   have hn : n ∈ r.rd := by
    split at h
    ·injection h with h; subst h; simp
    ·cases h
   rw [hl n hn, hF]
   exact h
  ·exact h
  ·exact h
  ·cases h
 ·rename_i h1 h2; first | exact h | (rw [h1, h2]; exact h)
 ·rename_i t0 h1 h2
  try rw [h1, h2]
  try simp only
  split at h
  rotate_left
  ·cases h
  rename_i n r' c
  try simp only
  split at h
  rotate_left
  ·cases h
  rename_i hF hti
  split at h
  ·cases h
  rename_i hz
  have := h
  injection this with this
  rw [hl n (by rw [← this]; simp), hF, hti]
  simp only
  rw [if_neg hz]
  exact h
 ·rename_i u h1 h2
  try rw [h1, h2]
  try simp only
  split at h
  rotate_left
  ·cases h
  rename_i n r' c
  try simp only
  split at h
  rotate_left
  ·cases h
  rename_i hF
  split at h
  rotate_left
  ·cases h
  rename_i hei hu
  split at h
  rotate_left
  ·cases h
  rename_i hz
  have := h
  injection this with this
  rw [hl n (by rw [← this]; simp), hF]
  simp only [hei, hu]
  rw [if_pos hz]
  exact h
 ·cases h
theorem loc_len {t : TypeId} {x : PV} (h : semLen T F t x = some r) (hl : ∀ n ∈ r.rd, F' n = F n) : semLen T F' t x = some r := by
 unfold semLen at h ⊢
 split at h
 ·rename_i hti; first | exact h | (rw [hti]; exact h)
 ·rename_i hti; first | exact h | (rw [hti]; exact h)
 ·rename_i hti
  try rw [hti]
  try simp only
  split at h
  ·rename_i q
   try simp only
   split at h
   rotate_left
   ·cases h
   rename_i hF
   have hn : q ∈ r.rd := by injection h with h; subst h; simp
   rw [hl q hn, hF]
   exact h
  ·exact h
  ·cases h
 ·rename_i hti; first | exact h | (rw [hti]; exact h)
 ·cases h
theorem loc_src {size : Nat} {xt : TypeId} {x : PV} {q : Prop} {p : Bool} {xs : List (List PV)} {rd : List Nm} (h : srcRows T F size xt x = some (q, p, xs, rd)) (hl : ∀ n ∈ rd, F' n = F n) : srcRows T F' size xt x = some (q, p, xs, rd) := by
 unfold srcRows at h ⊢
 split at h
 ·rename_i hti
  try rw [hti]
  try simp only
  split at h
  ·rename_i m row l
   try simp only
   split at h
   rotate_left
   ·cases h
   rename_i hF
   have hn : m ∈ rd := by
    split at h
    ·simp only [Option.some.injEq, Prod.mk.injEq] at h
     rw [← h.2.2.2]; simp
    ·cases h
   rw [hl m hn, hF]
   exact h
  ·exact h
  ·exact h
  ·cases h
 ·rename_i hti; first | exact h | (rw [hti]; exact h)
 ·cases h
theorem loc_append {t xt : TypeId} {s x : PV} (h : semAppend T F nx t xt s x = some r) (hl : ∀ n ∈ r.rd, F' n = F n) : semAppend T F' nx t xt s x = some r := by
 unfold semAppend at h ⊢
 split at h
 rotate_left
 ·cases h
 rename_i hti
 try rw [hti]
 try simp only
 split at h
 rotate_left
 ·cases h
 rename_i ei hei
 try simp only [hei]
 split at h
 ·cases h
 rename_i hc
 rw [if_neg hc]
 split at h
 ·cases h
 rename_i q px xs rd hsrc
 split at h
 ·have hl2 : ∀ n ∈ rd, F' n = F n := by injection h with h; subst h; exact hl
  rw [loc_src hsrc hl2]
  exact h
 ·rename_i n l
  split at h
  rotate_left
  ·cases h
  rename_i e' wd p rs hF
  split at h
  rotate_left
  ·cases h
  rename_i hc2
  have hrd : r.rd = n :: rd := by split at h <;> (injection h with h; subst h; rfl)
  rw [hrd] at hl
  rw [loc_src hsrc (fun m hm => hl m (by simp [hm]))]
  try simp only
  rw [hl n (by simp), hF]
  try simp only
  rw [if_pos hc2]
  exact h
 ·cases h
theorem loc_appendZ {t : TypeId} {s x : PV} (h : semAppendZ T F nx t s x = some r) (hl : ∀ n ∈ r.rd, F' n = F n) : semAppendZ T F' nx t s x = some r := by
 unfold semAppendZ at h ⊢
 split at h
 rotate_left
 ·cases h
 rename_i hti
 try rw [hti]
 try simp only
 split at h
 rotate_left
 ·cases h
 rename_i ei hei
 try simp only [hei]
 split at h
 ·cases h
 rename_i hc
 rw [if_neg hc]
 split at h
 rotate_left
 ·cases h
 rename_i n l m
 split at h
 rotate_left
 ·cases h
 rename_i e' wd p rs hF
 split at h
 rotate_left
 ·cases h
 rename_i hc2
 have hrd : r.rd = [n] := by injection h with h; subst h; rfl
 rw [hrd] at hl
 simp only [hl n (by simp), hF]
 rw [if_pos hc2]
 exact h
theorem loc_append2 {t xt : TypeId} {s x : PV} (h : semAppend2 T F nx t xt s x = some r) (hl : ∀ n ∈ r.rd, F' n = F n) : semAppend2 T F' nx t xt s x = some r := by
 unfold semAppend2 at h ⊢
 split at h
 ·exact loc_appendZ h hl
 ·exact loc_append h hl
theorem loc_sliceData {x : PV} (h : semSliceData F x = some r) (hl : ∀ n ∈ r.rd, F' n = F n) : semSliceData F' x = some r := by
 unfold semSliceData at h ⊢
 split at h
 ·exact h
 ·split at h
  rotate_left
  ·cases h
  rename_i hF
  have := h
  injection this with this
  rw [hl _ (by rw [← this]; simp), hF]
  exact h
 ·cases h
theorem loc_ustring {pt : TypeId} {x y : PV} (h : semUString T F pt x y = some r) (hl : ∀ n ∈ r.rd, F' n = F n) : semUString T F' pt x y = some r := by
 unfold semUString at h ⊢
 split at h
 ·exact h
 ·split at h
  rotate_left
  ·cases h
  rename_i hF hp
  split at h
  rotate_left
  ·cases h
  rename_i he
  split at h
  rotate_left
  ·cases h
  rename_i hc
  have := h
  injection this with this
  rw [hl _ (by rw [← this]; simp), hF, hp]
  simp only [he]
  rw [if_pos hc]
  exact h
 ·cases h
theorem loc_clear {t : TypeId} {x : PV} (h : semClear T F t x = some r) (hl : ∀ n ∈ r.rd, F' n = F n) : semClear T F' t x = some r := by
 unfold semClear at h ⊢
 split at h
 rotate_left
 ·cases h
 rename_i n r0 l
 split at h
 rotate_left
 ·cases h
 rename_i e _ _ _ _ _ hti
 try simp only [hti]
 split at h
 rotate_left
 ·cases h
 rename_i ei hei
 try simp only [hei]
 split at h
 rotate_left
 ·cases h
 rename_i e' wd p rs hF
 split at h
 rotate_left
 ·cases h
 rename_i hc
 have hrd : r.rd = [n] := by injection h with h; subst h; rfl
 rw [hrd] at hl
 rw [hl n (by simp), hF]
 try simp only
 rw [if_pos hc]
 exact h
theorem loc_copy {t xt : TypeId} {s x : PV} (h : semCopy T F t xt s x = some r) (hl : ∀ n ∈ r.rd, F' n = F n) : semCopy T F' t xt s x = some r := by
 unfold semCopy at h ⊢
 split at h
 rotate_left
 ·cases h
 rename_i n r0 l
 split at h
 rotate_left
 ·cases h
 rename_i e _ _ _ _ _ hti
 try simp only [hti]
 split at h
 rotate_left
 ·cases h
 rename_i ei hei
 try simp only [hei]
 split at h
 ·cases h
 rename_i hsz
 rw [if_neg hsz]
 split at h
 ·cases h
 rename_i q px xs rd hsrc
 split at h
 rotate_left
 ·cases h
 rename_i e' wd p rs hF
 split at h
 rotate_left
 ·cases h
 rename_i hc
 have hrd : r.rd = n :: rd := by injection h with h; subst h; rfl
 rw [hrd] at hl
 rw [loc_src hsrc (fun m hm => hl m (by simp [hm]))]
 try simp only
 rw [hl n (by simp), hF]
 try simp only
 rw [if_pos hc]
 exact h
theorem loc_call {ρ : Operand → Option PV} {c : Call} (h : semCall T ρ F nx c = some r) (hl : ∀ n ∈ r.rd, F' n = F n) : semCall T ρ F' nx c = some r := by
 unfold semCall at h ⊢
 split at h
 rotate_left
 ·cases h
 rename_i b hc
 try simp only
 split at h
 ·simp only [Option.bind_eq_some_iff] at h ⊢
  obtain ⟨v, q1, q2⟩ := h
  exact ⟨v, q1, loc_len q2 hl⟩
 ·simp only [Option.bind_eq_some_iff] at h ⊢
  obtain ⟨v, q1, u, q2, q3⟩ := h
  exact ⟨v, q1, u, q2, loc_append2 q3 hl⟩
 ·exact h
 ·exact h
 ·simp only [Option.bind_eq_some_iff] at h ⊢
  obtain ⟨v, q1, q2⟩ := h
  exact ⟨v, q1, loc_sliceData q2 hl⟩
 ·simp only [Option.bind_eq_some_iff] at h ⊢
  obtain ⟨v, q1, q2⟩ := h
  exact ⟨v, q1, loc_clear q2 hl⟩
 ·simp only [Option.bind_eq_some_iff] at h ⊢
  obtain ⟨v, q1, u, q2, q3⟩ := h
  exact ⟨v, q1, u, q2, loc_copy q3 hl⟩
 ·simp only [Option.bind_eq_some_iff] at h ⊢
  obtain ⟨v, q1, u, q2, q3⟩ := h
  exact ⟨v, q1, u, q2, loc_ustring q3 hl⟩
 ·cases h
end
end Go.Tx
end
section
namespace Go.Tx
section
variable {T : Tys} {F F' : SF} {nx : Nm} {r : Res}
theorem loc_op {wr : Bool} {ρ : Operand → Option PV} {o : Op} (h : semOp T wr ρ F nx o = some r) (hl : ∀ n ∈ r.rd, F' n = F n) : semOp T wr ρ F' nx o = some r := by
  cases o <;> simp only [semOp] at h ⊢
  case load t a =>
    simp only [Option.bind_eq_some_iff] at h ⊢
    obtain ⟨v, q1, q2⟩ := h
    exact ⟨v, q1, loc_load q2 hl⟩
  case store t a x =>
    simp only [Option.bind_eq_some_iff] at h ⊢
    obtain ⟨v, q1, u, q2, q3⟩ := h
    exact ⟨v, q1, u, q2, loc_store q3 hl⟩
  case convert s d x =>
    simp only [Option.bind_eq_some_iff] at h ⊢
    obtain ⟨v, q1, q2⟩ := h
    refine ⟨v, q1, ?_⟩
    unfold semConv2 at q2 ⊢
    split at q2
    · exact loc_same q2 hl
    · rename_i hno
      first
        | exact loc_conv q2 hl
        | (split
           · rename_i h1 h2
             exact (hno _ _ _ _ _ _ _ _ _ _ _ _ h1 h2).elim
           · exact loc_conv q2 hl)
  case slice t x lo hi mx =>
    simp only [Option.bind_eq_some_iff] at h ⊢
    obtain ⟨v, q1, a, q2, b, q3, c, q4, q5⟩ := h
    exact ⟨v, q1, a, q2, b, q3, c, q4, loc_slice q5 hl⟩
  case indexAddr t x i =>
    simp only [Option.bind_eq_some_iff] at h ⊢
    obtain ⟨v, q1, u, q2, q3⟩ := h
    exact ⟨v, q1, u, q2, loc_indexAddr q3 hl⟩
  case lookup t x i ok =>
    simp only [Option.bind_eq_some_iff] at h ⊢
    obtain ⟨v, q1, u, q2, q3⟩ := h
    refine ⟨v, q1, u, q2, ?_⟩
    unfold semLookup at q3 ⊢
    split at q3
    rotate_left
    · cases q3
    rename_i hti
    try rw [hti]
    try simp only
    split at q3
    rotate_left
    · cases q3
    rename_i ei hki hei
    try rw [hki, hei]
    try simp only
    split at q3
    · rename_i rr
      split at q3
      rotate_left
      · cases q3
      rename_i hF
      have hrr : rr ∈ r.rd := by injection q3 with q3; subst q3; simp [lookRes]
      try simp only
      rw [hl rr hrr, hF]
      exact q3
    · exact q3
    · cases q3
  case mapUpdate t m k v =>
    simp only [Option.bind_eq_some_iff] at h ⊢
    obtain ⟨v, q1, u, q2, z, q3, q4⟩ := h
    refine ⟨v, q1, u, q2, z, q3, ?_⟩
    unfold semMapUpdate at q4 ⊢
    split at q4
    · rename_i kt et _ _ _ _ _ rr n hti
      have hrr : rr ∈ r.rd := by
        split at q4
        · injection q4 with q4; subst q4; simp
        · cases q4
      rw [hl rr hrr]
      exact q4
    · cases q4
  case makeMap t hint => cases hint <;> simp only [semOp] at h ⊢ <;> exact h
  case call c => exact loc_call h hl
  all_goals first | exact h | cases h
end
end Go.Tx
end
section
namespace Go.Tx
section
variable {T : Tys} {F F' : SF} {nx : Nm} {r : Res}
theorem vals_congr {ρ ρ' : Operand → Option PV} : ∀ {l : List Operand}, (∀ x ∈ l, ρ x = ρ' x) → vals ρ l = vals ρ' l
 | [], _ => rfl
 | x :: l, h => by simp only [vals, h x (by simp), vals_congr (l := l) (fun y hy => h y (by simp [hy]))]
theorem partsV_congr {ρ ρ' : Operand → Option PV} : ∀ {l : List (Nat × Operand)}, (∀ x ∈ l, ρ x.2 = ρ' x.2) → partsV ρ l = partsV ρ' l
 | [], _ => rfl
 | x :: l, h => by simp only [partsV, h x (by simp), partsV_congr (l := l) (fun y hy => h y (by simp [hy]))]
theorem optVal_congr {ρ ρ' : Operand → Option PV} {o : Option Operand} (h : ∀ x, o = some x → ρ x = ρ' x) : optVal ρ o = optVal ρ' o := by
 cases o with
 | none => rfl
 | some x => simp [optVal, h x rfl]
theorem congr_op {wr : Bool} {ρ ρ' : Operand → Option PV} {o : Op} (h : ∀ x ∈ o.operands.toList, ρ x = ρ' x) : semOp T wr ρ F nx o = semOp T wr ρ' F nx o := by
 cases o <;> simp only [semOp] <;> simp only [Op.operands] at h
 case move x => rw [h x (by simp)]
 case assign x => rw [h x (by simp)]
 case pick c a b => rw [h c (by simp), h a (by simp), h b (by simp)]
 case box t x => rw [h x (by simp)]
 case build t ps => rw [partsV_congr (fun x hx => h x.2 (by simp; exact ⟨x.1, by simpa using hx⟩))]
 case buildSlice t n ps => rw [partsV_congr (fun x hx => h x.2 (by simp; exact ⟨x.1, by simpa using hx⟩))]
 case load t a => rw [h a (by simp)]
 case store t a v => rw [h a (by simp), h v (by simp)]
 case nilCheck x => rw [h x (by simp)]
 case binOp op t x y yt => rw [h x (by simp), h y (by simp)]
 case unOp op t x => rw [h x (by simp)]
 case convert s d x => rw [h x (by simp)]
 case makeInterface t x => rw [h x (by simp)]
 case sliceToArrayPointer t x => rw [h x (by simp)]
 case makeFunc fn a b =>
  rw [vals_congr (fun x hx => h x (by simp; exact .inl (by simpa using hx))), vals_congr (fun x hx => h x (by simp; exact .inr (by simpa using hx)))]
 case makeSlice t l c => rw [h l (by simp), h c (by simp)]
 case lookup t x i ok => rw [h x (by simp), h i (by simp)]
 case mapUpdate t m k v => rw [h m (by simp), h k (by simp), h v (by simp)]
 case makeMap t hint => cases hint <;> rfl
 case slice t x lo hi mx =>
  rw [h x (by simp), optVal_congr (o := lo) (fun y hy => h y (by simp [hy])), optVal_congr (o := hi) (fun y hy => h y (by simp [hy])), optVal_congr (o := mx) (fun y hy => h y (by simp [hy]))]
 case fieldAddr s x f => rw [h x (by simp)]
 case indexAddr t x i => rw [h x (by simp), h i (by simp)]
 case index t x i => rw [h x (by simp), h i (by simp)]
 case field t x f => rw [h x (by simp)]
 case extract x i => rw [h x (by simp)]
 case call c =>
  obtain ⟨callee, ⟨args⟩, ats⟩ := c
  simp only [Call.operands] at h
  have ha : ∀ x ∈ args, ρ x = ρ' x := fun x hx => h x (by simp [hx])
  simp only [semCall]
  cases callee with
  | builtin b =>
   simp only
   split
   ·rw [ha _ (by simp)]
   ·rw [ha _ (by simp), ha _ (by simp)]
   ·rw [ha _ (by simp), ha _ (by simp)]
   ·rw [ha _ (by simp), ha _ (by simp)]
   ·rw [ha _ (by simp)]
   ·rw [ha _ (by simp)]
   ·rw [ha _ (by simp), ha _ (by simp)]
   ·rw [ha _ (by simp), ha _ (by simp)]
   ·rfl
  | value f => rfl
  | invoke x m => rfl
 all_goals rfl
theorem semOp_noDefer {wr : Bool} {ρ : Operand → Option PV} {o : Oper} (h : semOp T wr ρ F nx o.op = some r) : ∀ c, o.op ≠ .defer c := by
 intro c hc; rw [hc] at h; cases h
end
end Go.Tx
end
section
namespace Go.Tx
section
variable {κ : Type} [DecidableEq κ] {α : Type}
def keys (x : List (κ × α)) : List κ := x.map (·.1)
def setAll (f : κ → Option α) : List (κ × α) → (κ → Option α)
 | [] => f
 | (n, v) :: l => setAll (fun k => if k = n then some v else f k) l
def appl (S : Nat → Bool) : Nat → List (List (κ × α)) → (κ → Option α) → (κ → Option α)
 | _, [], f => f
 | i, x :: l, f => appl S (i + 1) l (if S i = true then setAll f x else f)
theorem setAll_not {k : κ} : ∀ {x : List (κ × α)} {f : κ → Option α}, k ∉ keys x → setAll f x k = f k
 | [], _, _ => rfl
 | (n, v) :: l, f, h => by
  simp only [keys, List.map_cons, List.mem_cons, not_or] at h
  simp only [setAll]
  rw [setAll_not h.2]
  simp [h.1]
theorem setAll_mem {k : κ} : ∀ {x : List (κ × α)} {f g : κ → Option α}, k ∈ keys x → setAll f x k = setAll g x k
 | [], _, _, h => by cases h
 | (n, v) :: l, f, g, h => by
  simp only [setAll]
  by_cases hk : k ∈ keys l
  ·exact setAll_mem hk
  ·rw [setAll_not hk, setAll_not hk]
   simp only [keys, List.map_cons, List.mem_cons] at h
   rcases h with h | h
   ·simp [h]
   ·exact absurd h hk
theorem setAll_at {k : κ} {x : List (κ × α)} {f g : κ → Option α} (h : f k = g k) : setAll f x k = setAll g x k := by
 by_cases hk : k ∈ keys x
 ·exact setAll_mem hk
 ·rw [setAll_not hk, setAll_not hk, h]
theorem appl_congr {k : κ} : ∀ (ws : List (List (κ × α))) {i : Nat} {f g : κ → Option α} {S S' : Nat → Bool}, f k = g k → (∀ (j : Nat) (x : List (κ × α)), ws[j]? = some x → k ∈ keys x → S (i + j) = S' (i + j)) →
  appl S i ws f k = appl S' i ws g k
 | [], _, _, _, _, _, h, _ => h
 | x :: l, i, f, g, S, S', h, hs => by
  simp only [appl]
  refine appl_congr l ?_ ?_
  ·by_cases hk : k ∈ keys x
   ·have := hs 0 x rfl hk
    simp only [Nat.add_zero] at this
    rw [this]
    split
    ·exact setAll_mem hk
    ·exact h
   ·split <;> split <;> first | (rw [setAll_not hk, setAll_not hk]; exact h) | (rw [setAll_not hk]; exact h) | exact h
  ·intro j y hy hk
   have := hs (j + 1) y (by simpa using hy) hk
   rw [show i + 1 + j = i + (j + 1) by omega]
   exact this
theorem appl_none {k : κ} (ws : List (List (κ × α))) {i : Nat} {f : κ → Option α} {S : Nat → Bool} (h : ∀ (j : Nat) (x : List (κ × α)), ws[j]? = some x → S (i + j) = true → k ∉ keys x) : appl S i ws f k = f k := by
 induction ws generalizing i f with
 | nil => rfl
 | cons x l ih =>
  simp only [appl]
  rw [ih (fun j y hy hs => h (j + 1) y (by simpa using hy) (by rw [show i + (j + 1) = i + 1 + j by omega]; exact hs))]
  split
  ·rename_i hsi
   exact setAll_not (h 0 x rfl (by simpa using hsi))
  ·rfl
theorem appl_last {k : κ} {g : κ → Option α} (ws : List (List (κ × α))) {i j : Nat} {f : κ → Option α} {S : Nat → Bool} {x : List (κ × α)} (hx : ws[j]? = some x) (hS : S (i + j) = true) (hk : k ∈ keys x)
  (h : ∀ (q : Nat) (y : List (κ × α)), j < q → ws[q]? = some y → S (i + q) = true → k ∉ keys y) : appl S i ws f k = setAll g x k := by
 induction ws generalizing i j f with
 | nil => cases hx
 | cons y l ih =>
  simp only [appl]
  cases j with
  | zero =>
   simp at hx; subst hx
   simp only [Nat.add_zero] at hS
   rw [if_pos hS, appl_none l (fun q z hz hs => h (q + 1) z (by omega) (by simpa using hz) (by rw [show i + (q + 1) = i + 1 + q by omega]; exact hs))]
   exact setAll_mem hk
  | succ j =>
   refine ih (j := j) (by simpa using hx) (by rw [show i + 1 + j = i + (j + 1) by omega]; exact hS) ?_
   intro q z hq hz hs
   exact h (q + 1) z (by omega) (by simpa using hz) (by rw [show i + (q + 1) = i + 1 + q by omega]; exact hs)
theorem appl_insert {ws : List (List (κ × α))} {f : κ → Option α} {S S' : Nat → Bool} {j : Nat} {x : List (κ × α)} (hx : ws[j]? = some x) (hj : S' j = true) (hoth : ∀ i, i ≠ j → S' i = S i)
  (h : ∀ (q : Nat) (y : List (κ × α)), j < q → ws[q]? = some y → S q = true → ∀ k ∈ keys x, k ∉ keys y) : appl S' 0 ws f = setAll (appl S 0 ws f) x := by
 funext k
 by_cases hk : k ∈ keys x
 ·refine appl_last ws hx (by simpa using hj) hk ?_
  intro q y hq hy hs
  simp only [Nat.zero_add] at hs
  exact h q y hq hy (by rw [← hoth q (by omega)]; exact hs) k hk
 ·rw [setAll_not hk]
  refine appl_congr ws rfl ?_
  intro q y hy hky
  simp only [Nat.zero_add]
  apply hoth
  rintro rfl
  rw [hx] at hy; injection hy with hy; subst hy
  exact hk hky
end
def mask (o : Oper) (acc : List Nat) : Nat :=
 o.after.toList.foldl (fun s e => if Region.binds .any e then s ||| 2 ^ e.on ||| acc.getD e.on 0 else s) 0
def ancs : List Oper → List Nat → List Nat
 | [], acc => acc
 | o :: l, acc => ancs l (acc ++ [mask o acc])
theorem foldl_mask (acc : List Nat) (i : Nat) : ∀ (l : List Edge) (s : Nat), (l.foldl (fun s e => if Region.binds .any e then s ||| 2 ^ e.on ||| acc.getD e.on 0 else s) s).testBit i = true →
  s.testBit i = true ∨ ∃ e ∈ l, Region.binds .any e = true ∧ (e.on = i ∨ (acc.getD e.on 0).testBit i = true)
 | [], s, h => .inl h
 | e :: l, s, h => by
  simp only [List.foldl_cons] at h
  rcases foldl_mask acc i l _ h with h | ⟨e', h1, h2⟩
  ·split at h
   ·rename_i hb
    simp only [Nat.testBit_or, Bool.or_eq_true, Nat.testBit_two_pow, decide_eq_true_eq] at h
    rcases h with (h | h) | h
    ·exact .inl h
    ·exact .inr ⟨e, by simp, hb, .inl h⟩
    ·exact .inr ⟨e, by simp, hb, .inr h⟩
   ·exact .inl h
  ·exact .inr ⟨e', by simp [h1], h2⟩
def DPred (ops : List Oper) (j k : Nat) : Prop := ∃ o, ops[j]? = some o ∧ ∃ e ∈ o.after.toList, Region.binds .any e = true ∧ e.on = k
theorem ancs_spec (ops : List Oper) : ∀ (l done : List Oper) (acc : List Nat), ops = done ++ l → acc.length = done.length →
  (∀ j i, j < acc.length → (acc.getD j 0).testBit i = true → ∃ k, DPred ops j k ∧ (k = i ∨ (acc.getD k 0).testBit i = true)) → (∀ j k, j < acc.length → DPred ops j k → k < j) → (∀ j k, DPred ops j k → k < j) →
  (∀ j i, (((ancs l acc).getD j 0).testBit i = true → ∃ k, DPred ops j k ∧ (k = i ∨ ((ancs l acc).getD k 0).testBit i = true)))
 | [], done, acc, _, hl, h, _, _ => by
  intro j i hj
  simp only [ancs] at hj ⊢
  by_cases hja : j < acc.length
  ·exact h j i hja hj
  ·rw [List.getD_eq_getElem?_getD, List.getElem?_eq_none (by omega)] at hj
   simp at hj
 | o :: l, done, acc, he, hl, h, hlt, hall => by
  simp only [ancs]
  have hstable : ∀ k, k < acc.length → (acc ++ [mask o acc]).getD k 0 = acc.getD k 0 := by
   intro k hk
   simp only [List.getD_eq_getElem?_getD]
   rw [List.getElem?_append_left hk]
  have hoj : ops[acc.length]? = some o := by rw [he, hl]; simp
  refine ancs_spec ops l (done ++ [o]) (acc ++ [mask o acc]) (by simp [he]) (by simp [hl]) ?_ ?_ hall
  ·intro j i hj hb
   simp only [List.length_append, List.length_cons, List.length_nil] at hj
   by_cases hja : j < acc.length
   ·rw [hstable j hja] at hb
    obtain ⟨k, h1, h2⟩ := h j i hja hb
    have hk := hlt j k hja h1
    exact ⟨k, h1, by rw [hstable k (by omega)]; exact h2⟩
   ·have hj' : j = acc.length := by omega
    subst hj'
    have : (acc ++ [mask o acc]).getD acc.length 0 = mask o acc := by simp [List.getD_eq_getElem?_getD]
    rw [this] at hb
    rcases foldl_mask acc i _ _ hb with h0 | ⟨e, h1, h2, h3⟩
    ·simp at h0
    ·have hd : DPred ops acc.length e.on := ⟨o, hoj, e, h1, h2, rfl⟩
     have := hall _ _ hd
     exact ⟨e.on, hd, by rw [hstable _ this]; exact h3⟩
  ·intro j k _ hd; exact hall j k hd
def masks (ops : List Oper) : List Nat := ancs ops []
def ord (ops : List Oper) (i j : Nat) : Bool := ((masks ops).getD j 0).testBit i
def edgesDown (ops : List Oper) : Bool := ops.zipIdx.all fun x => x.1.after.toList.all fun e => !Region.binds .any e || decide (e.on < x.2)
theorem edgesDown_spec {ops : List Oper} (h : edgesDown ops = true) {j k : Nat} (hd : DPred ops j k) : k < j := by
 obtain ⟨o, ho, e, he, hb, rfl⟩ := hd
 unfold edgesDown at h
 rw [List.all_eq_true] at h
 have := h (o, j) (by rw [List.mem_zipIdx_iff_getElem?]; exact ho)
 rw [List.all_eq_true] at this
 have := this e he
 simpa [hb] using this
theorem ord_closed {ops : List Oper} (hE : edgesDown ops = true) {S : Nat → Bool} (hD : ∀ j k, S j = true → DPred ops j k → S k = true) : ∀ (j : Nat), (∀ k, DPred ops j k → S k = true) → ∀ i, ord ops i j = true → S i = true := by
 have hdown := fun j k (hd : DPred ops j k) => edgesDown_spec hE hd
 have hspec := ancs_spec ops ops [] [] rfl rfl (by simp) (by simp) hdown
 intro j
 induction j using Nat.strongRecOn with
 | _ j ih =>
  intro hj i hi
  obtain ⟨k, h1, h2⟩ := hspec j i hi
  rcases h2 with rfl | h2
  ·exact hj _ h1
  ·exact ih k (hdown j k h1) (fun q hq => hD k q (hj k h1) hq) i h2
end Go.Tx
end
section
namespace Go.Tx
open Go.Sx (lt_of_get)
def evalF (f : Nat → Option PV) : Operand → Option PV
 | .tmp i => f i
 | .const v => ofV v
 | .func f => some (.fn (.func f) [] [])
 | .global _ => none
structure TRelF (w : World) (Z : Nat → Prop) (E : Env) (f : Nat → Option PV) (m : Nat) (a : Array Value) : Prop where
 size : a.size = m
 val : ∀ (i : Nat) (v : PV), f i = some v → ∃ v', a[i]? = some v' ∧ VR w Z E v v'
theorem TRelF.mono {w w' : World} {Z Z' : Nat → Prop} {E E' : Env} {f : Nat → Option PV} {m : Nat} {a : Array Value} (h : TRelF w Z E f m a) (hX : Ext E w Z E' w' Z') : TRelF w' Z' E' f m a :=
 ⟨h.size, fun i v hv => let ⟨v', h1, h2⟩ := h.val i v hv; ⟨v', h1, VR.mono hX _ _ h2⟩⟩
theorem TRelF.eval {w : World} {Z : Nat → Prop} {E : Env} {f : Nat → Option PV} {m : Nat} {a : Act} (h : TRelF w Z E f m a.tmps) : RRel w Z E (evalF f) a.eval := by
 intro x v hx
 cases x with
 | tmp i =>
  obtain ⟨v', h1, h2⟩ := h.val i v hx
  simp [Act.eval, h1, h2]
 | const u => exact ofV_ok u v hx
 | func f =>
  simp only [evalF, Option.some.injEq] at hx; subst hx
  simp only [VR, VRl, Act.eval]
  exact ⟨[], [], rfl, rfl, rfl⟩
 | global g => cases hx
def guardF (ops : List Oper) (f : Nat → Option PV) (j : Nat) : Option PV :=
 match ops[j]? with
 | some o => match o.dst with | some d => f d | none => none
 | none => none
def Off (v : Option PV) (want : Bool) : Prop := v = some (.bool (!want)) ∨ v = some undefP
def OpFact (P : Program) (ρ : Operand → Option PV) (F : SF) (L nx top : Nat) (o : Oper) (r : Res) : Prop :=
 (∀ c, o.op ≠ .defer c) ∧ nx ≤ top ∧ ∀ (ρ2 : Operand → Option PV) (F2 : SF), (∀ x ∈ o.op.operands.toList, ρ2 x = ρ x) → (∀ n ∈ r.rd, F2 n = F n) →
  ∀ (E : Env) (w : World) (ρ' : Operand → Value), HRel E F2 w → (∀ k, nx ≤ k → k < top → E ⟨L, k⟩ = none) → (∀ n : Nm, L < n.l → E n = none) → RRel w (Zn E F2 w) E ρ2 ρ' →
   Lands P (fun v' w' => ∃ E', VR w' (Zn E' (F2.upd r.upd) w') E' r.v v' ∧ StepR E F2 w E' (F2.upd r.upd) w' ∧ ∀ n, E n = none → E' n ≠ none → n.l = L ∧ nx ≤ n.i ∧ n.i < top) ((execOp ρ' o).run P w)
theorem opFact_sem {P : Program} {T : Tys} (hT : T.Ok P) (hA : AllFields T) {wr : Bool} {ρ : Operand → Option PV} {F : SF} {L nx : Nat} {o : Oper} {r : Res} (hs : semOp T wr ρ F ⟨L, nx⟩ o.op = some r) (hv : r.vc) : OpFact P ρ F L nx (nx + 32) o r := by
 refine ⟨semOp_noDefer hs, by omega, fun ρ2 F2 hρ2 hF2 E w ρ' hR hfr _ hρ => ?_⟩
 have h1 : semOp T wr ρ2 F2 ⟨L, nx⟩ o.op = some r := by rw [congr_op hρ2]; exact loc_op hs hF2
 exact sound_op hT hA hR (hfr nx (Nat.le_refl _) (by omega)) hρ h1 hv
def tw (o : Oper) (r : Option Res) : List (Nat × PV) :=
 match o.dst with
 | some d => [(d, match r with | some r => r.v | none => undefP)]
 | none => []
def twL : List Oper → List (Option Res) → List (List (Nat × PV))
 | o :: l, r :: rs => tw o r :: twL l rs
 | _, _ => []
def hw (r : Option Res) : List (Nm × SBlk) := match r with | some r => r.upd | none => []
theorem upd_eq : ∀ (l : List (Nm × SBlk)) (F : SF), F.upd l = setAll F l
 | [], _ => rfl
 | (n, b) :: l, F => by simp only [SF.upd, setAll]; exact upd_eq l _
theorem appl_lt {κ : Type} [DecidableEq κ] {α : Type} {i : Nat} {ws : List (List (κ × α))} {f : κ → Option α} : appl (fun n => decide (n < i)) i ws f = f := by
 funext k
 refine appl_none ws ?_
 intro j x _ hs
 simp at hs
 omega
theorem appl_step {κ : Type} [DecidableEq κ] {α : Type} {i j : Nat} {x : List (κ × α)} {ws : List (List (κ × α))} {f : κ → Option α} : appl (fun n => decide (n < i + (j + 1))) i (x :: ws) f = appl (fun n => decide (n < i + 1 + j)) (i + 1) ws (setAll f x) := by
 simp only [appl]
 rw [if_pos (by simp), show i + (j + 1) = i + 1 + j by omega]
def W (r : Option Nat) : Fence := { Fence.wide with round := r }
theorem lands_upon {P : Program} {K : Value → World → Prop} {res : Result Next} {r : Option Nat} {n : Nat} {o : Oper} {a : Act} {next : Act → World → Prop} {Q : Exit → Act → World → Prop}
  (h : Lands P K res) (hK : ∀ v w', K v w' → next (a.put o.dst v) w') : o.uponIn (W r) n P a next Q res := by
 unfold Lands Sx.Lands at h
 split at h
 ·exact hK _ _ h
 ·exact hK _ _ h
 ·rename_i f args w'
  refine ⟨(fun hd => by cases hd), ?_⟩
  have h1 : CallsIn Fence.wide (n - 1) P f args w' fun e w'' => ∃ v, e = .returned v ∧ K v w'' := callsIn_wide.2 h
  have h2 : CallsIn (W r) (n - 1) P f args w' fun e w'' => ∃ v, e = .returned v ∧ K v w'' := h1
  refine h2.mono fun e w'' ⟨v, he, hk⟩ => ?_
  subst he
  exact hK _ _ hk
 ·exact h.elim
inductive Tr (P : Program) (ops : List Oper) (L m : Nat) : List Oper → (Nat → Option PV) → SF → Nat → List (Option Res) → List Nat → (Nat → Option PV) → SF → Nat → Prop
 | nil (f : Nat → Option PV) (F : SF) (nx : Nat) : Tr P ops L m [] f F nx [] [] f F nx
 | run {o : Oper} {l : List Oper} {f f' : Nat → Option PV} {F F' : SF} {nx top nx' : Nat} {r : Res} {rs : List (Option Res)} {ls : List Nat}
   (hg : ∀ j want, o.guard = some (j, want) → guardF ops f j = some (.bool want)) (hf : OpFact P (evalF f) F L nx top o r)
   (h : Tr P ops L m l (setAll f (tw o (some r))) (F.upd r.upd) top rs ls f' F' nx') : Tr P ops L m (o :: l) f F nx (some r :: rs) (nx :: ls) f' F' nx'
 | skip {o : Oper} {l : List Oper} {f f' : Nat → Option PV} {F F' : SF} {nx nx' : Nat} {rs : List (Option Res)} {ls : List Nat} {j : Nat} {want : Bool}
   (hg : o.guard = some (j, want)) (hb : Off (guardF ops f j) want)
   (h : Tr P ops L m l (setAll f (tw o none)) F nx rs ls f' F' nx') : Tr P ops L m (o :: l) f F nx (none :: rs) (nx :: ls) f' F' nx'
def lo (ls : List Nat) (e i : Nat) : Nat := ls.getD i e
theorem tr_lo {P : Program} {ops : List Oper} {L m : Nat} : ∀ {l : List Oper} {f f' : Nat → Option PV} {F F' : SF} {nx nx' : Nat} {rs : List (Option Res)} {ls : List Nat}, Tr P ops L m l f F nx rs ls f' F' nx' →
  ls.length = l.length ∧ lo ls nx' 0 = nx ∧ ∀ i, lo ls nx' i ≤ lo ls nx' (i + 1) := by
 intro l f f' F F' nx nx' rs ls h
 induction h with
 | nil f F nx => exact ⟨rfl, rfl, fun i => by simp [lo]⟩
 | run hg hf h ih =>
  obtain ⟨h1, h2, h3⟩ := ih
  refine ⟨by simp [h1], rfl, fun i => ?_⟩
  cases i with
  | zero => simp only [lo, List.getD_cons_zero, List.getD_cons_succ] at *; rw [h2]; exact hf.2.1
  | succ i => simpa only [lo, List.getD_cons_succ] using h3 i
 | skip hg hb h ih =>
  obtain ⟨h1, h2, h3⟩ := ih
  refine ⟨by simp [h1], rfl, fun i => ?_⟩
  cases i with
  | zero => simp only [lo, List.getD_cons_zero, List.getD_cons_succ] at *; rw [h2]; exact Nat.le_refl _
  | succ i => simpa only [lo, List.getD_cons_succ] using h3 i
theorem lo_mono {ls : List Nat} {e : Nat} (h : ∀ i, lo ls e i ≤ lo ls e (i + 1)) : ∀ {i j : Nat}, i ≤ j → lo ls e i ≤ lo ls e j := by
 intro i j hij
 induction hij with
 | refl => exact Nat.le_refl _
 | step _ ih => exact Nat.le_trans ih (h _)
theorem tr_at {P : Program} {ops : List Oper} {L m : Nat} : ∀ {l : List Oper} {i : Nat} {f f' : Nat → Option PV} {F F' : SF} {nx nx' : Nat} {rs : List (Option Res)} {ls : List Nat}, Tr P ops L m l f F nx rs ls f' F' nx' →
  l.length = rs.length ∧ f' = appl (fun _ => true) i (twL l rs) f ∧ F' = appl (fun _ => true) i (rs.map hw) F ∧
  ∀ (j : Nat) (o : Oper) (r : Option Res), l[j]? = some o → rs[j]? = some r →
   match r with
   | some r => OpFact P (evalF (appl (fun n => decide (n < i + j)) i (twL l rs) f)) (appl (fun n => decide (n < i + j)) i (rs.map hw) F) L (lo ls nx' j) (lo ls nx' (j + 1)) o r ∧
     ∀ q want, o.guard = some (q, want) → guardF ops (appl (fun n => decide (n < i + j)) i (twL l rs) f) q = some (.bool want)
   | none => ∃ q want, o.guard = some (q, want) ∧ Off (guardF ops (appl (fun n => decide (n < i + j)) i (twL l rs) f) q) want := by
 intro l i f f' F F' nx nx' rs ls hTr
 induction hTr generalizing i with
 | nil f F nx => exact ⟨rfl, rfl, rfl, by intro j o r h; cases h⟩
 | @run o l f f' F F' nx top nx' r rs ls hg hf htr ih =>
  obtain ⟨h1, h2, h3, h5⟩ := ih (i := i + 1)
  have hlo := (tr_lo htr).2.1
  refine ⟨by simp [h1], ?_, ?_, ?_⟩
  ·rw [h2]; simp [twL, appl]
  ·rw [h3]; simp [appl, hw, upd_eq]
  ·intro j o' r' ho' hr'
   cases j with
   | zero =>
    simp at ho' hr'; subst ho'; subst hr'
    simp only [Nat.add_zero, appl_lt]
    refine ⟨?_, fun q want hq => hg q want hq⟩
    have e0 : lo (nx :: ls) nx' 0 = nx := rfl
    have e1 : lo (nx :: ls) nx' (0 + 1) = top := hlo
    rw [e0, e1]; exact hf
   | succ j =>
    have := h5 j o' r' (by simpa using ho') (by simpa using hr')
    simp only [twL, List.map_cons, appl_step]
    rw [upd_eq] at this
    exact this
 | @skip o l f f' F F' nx nx' rs ls q0 want0 hg hb htr ih =>
  obtain ⟨h1, h2, h3, h5⟩ := ih (i := i + 1)
  refine ⟨by simp [h1], ?_, ?_, ?_⟩
  ·rw [h2]; simp [twL, appl]
  ·rw [h3]; simp [appl, hw, setAll]
  ·intro j o' r' ho' hr'
   cases j with
   | zero =>
    simp at ho' hr'; subst ho'; subst hr'
    simp only [Nat.add_zero, appl_lt]
    exact ⟨q0, want0, hg, hb⟩
   | succ j =>
    have := h5 j o' r' (by simpa using ho') (by simpa using hr')
    simp only [twL, List.map_cons, appl_step]
    exact this
def opTmps (o : Op) : List Nat := o.operands.toList.filterMap fun | .tmp t => some t | _ => none
def looks (ops : List Oper) (o : Oper) : List Nat :=
 o.dst.toList ++ opTmps o.op ++ (match o.guard with | some (j, _) => ((ops[j]?).bind (·.dst)).toList | none => [])
def unord (ops : List Oper) (i j : Nat) : Bool := !(i == j) && !(ord ops i j) && !(ord ops j i)
def disj {κ : Type} [DecidableEq κ] (a b : List κ) : Bool := a.all fun x => !(b.contains x)
def okStatic (ops : List Oper) (m : Nat) : Bool :=
 edgesDown ops && ops.all (fun o => o.dst.all (fun d => decide (d < m))) &&
 ops.zipIdx.all fun x => ops.zipIdx.all fun y => !unord ops x.2 y.2 || disj x.1.dst.toList (looks ops y.1)
def rdOf (r : Option Res) : List Nm := match r with | some r => r.rd | none => []
def okDyn (ops : List Oper) (fps : List (List Nm × List Nm)) : Bool :=
 fps.zipIdx.all fun x => fps.zipIdx.all fun y => !unord ops x.2 y.2 || disj x.1.2 (y.1.1 ++ y.1.2)
def fpOf (r : Option Res) : List Nm × List Nm := (rdOf r, keys (hw r))
theorem TRelF.putR {w : World} {Z : Nat → Prop} {E : Env} {f : Nat → Option PV} {m : Nat} {a : Act} (h : TRelF w Z E f m a.tmps) {o : Oper} {r : Option Res} {v' : Value} (hv : VR w Z E (match r with | some r => r.v | none => undefP) v') (hd : ∀ x, o.dst = some x → x < m) :
  TRelF w Z E (setAll f (tw o r)) m (a.put o.dst v').tmps := by
 unfold tw
 cases hdo : o.dst with
 | none => exact h
 | some d =>
  refine ⟨by simp [Act.put, h.size], fun i u hu => ?_⟩
  simp only [setAll] at hu
  simp only [Act.put]
  rw [Array.getElem?_setIfInBounds]
  split at hu
  ·rename_i hi; subst hi
   injection hu with hu; subst hu
   exact ⟨v', by simp [h.size, hd i hdo], hv⟩
  ·rename_i hi
   rw [if_neg (fun e => hi e.symm)]
   exact h.val i u hu
theorem guardF_wanted {w : World} {Z : Nat → Prop} {E : Env} {ops : List Oper} {f : Nat → Option PV} {m : Nat} {a : Act} (hT : TRelF w Z E f m a.tmps) {o : Oper} {j : Nat} {want b : Bool} (hg : o.guard = some (j, want)) (hb : guardF ops f j = some (.bool b)) :
  Region.wanted o (yielded ops.toArray a.tmps) = (b == want) := by
 unfold guardF at hb
 cases hoj : ops[j]? with
 | none => rw [hoj] at hb; cases hb
 | some oj =>
  rw [hoj] at hb
  simp only at hb
  cases hd : oj.dst with
  | none => rw [hd] at hb; cases hb
  | some d =>
   rw [hd] at hb
   simp only at hb
   obtain ⟨v', h1, h2⟩ := hT.val d _ hb
   simp only [VR] at h2; subst h2
   simp [Region.wanted, hg, yielded, hoj, hd, h1]
theorem guardF_off {w : World} {Z : Nat → Prop} {E : Env} {ops : List Oper} {f : Nat → Option PV} {m : Nat} {a : Act} (hT : TRelF w Z E f m a.tmps) {o : Oper} {j : Nat} {want : Bool} (hg : o.guard = some (j, want)) (hb : Off (guardF ops f j) want) :
  Region.wanted o (yielded ops.toArray a.tmps) = false := by
 rcases hb with hb | hb
 ·rw [guardF_wanted hT hg hb]; cases want <;> rfl
 unfold guardF at hb
 cases hoj : ops[j]? with
 | none => rw [hoj] at hb; cases hb
 | some oj =>
  rw [hoj] at hb
  simp only at hb
  cases hd : oj.dst with
  | none => rw [hd] at hb; cases hb
  | some d =>
   rw [hd] at hb
   simp only at hb
   obtain ⟨v', h1, h2⟩ := hT.val d _ hb
   simp only [undefP, VR, VRl] at h2
   obtain ⟨_, rfl, rfl⟩ := h2
   simp [Region.wanted, hg, yielded, hoj, hd, h1]
theorem ord_lt {ops : List Oper} (hE : edgesDown ops = true) : ∀ (j i : Nat), ord ops i j = true → i < j := by
 have hdown := fun j k (hd : DPred ops j k) => edgesDown_spec hE hd
 have hspec := ancs_spec ops ops [] [] rfl rfl (by simp) (by simp) hdown
 intro j
 induction j using Nat.strongRecOn with
 | _ j ih =>
  intro i hi
  obtain ⟨k, h1, h2⟩ := hspec j i hi
  have := hdown j k h1
  rcases h2 with rfl | h2
  ·exact this
  ·have := ih k this i h2; omega
theorem disj_spec {κ : Type} [DecidableEq κ] {a b : List κ} (h : disj a b = true) {x : κ} (ha : x ∈ a) (hb : x ∈ b) : False := by
 unfold disj at h
 rw [List.all_eq_true] at h
 have := h x ha
 simp [hb] at this
theorem okStatic_spec {ops : List Oper} {m : Nat} (h : okStatic ops m = true) : edgesDown ops = true ∧ (∀ o ∈ ops, ∀ d, o.dst = some d → d < m) ∧
  ∀ i j oi oj, ops[i]? = some oi → ops[j]? = some oj → unord ops i j = true → ∀ d, oi.dst = some d → d ∈ looks ops oj → False := by
 unfold okStatic at h
 simp only [Bool.and_eq_true] at h
 obtain ⟨⟨h1, h2⟩, h3⟩ := h
 refine ⟨h1, ?_, ?_⟩
 ·intro o ho d hd
  rw [List.all_eq_true] at h2
  have := h2 o ho
  rw [hd] at this
  simpa using this
 ·intro i j oi oj hi hj hu d hd hl
  rw [List.all_eq_true] at h3
  have h4 := h3 (oi, i) (by rw [List.mem_zipIdx_iff_getElem?]; exact hi)
  rw [List.all_eq_true] at h4
  have h5 := h4 (oj, j) (by rw [List.mem_zipIdx_iff_getElem?]; exact hj)
  simp only [hu, Bool.not_true, Bool.false_or] at h5
  exact disj_spec h5 (by simp [hd]) hl
def DynOk (ops : List Oper) (rs : List (Option Res)) : Prop :=
 ∀ (i j : Nat) (ri rj : Option Res), rs[i]? = some ri → rs[j]? = some rj → unord ops i j = true → ∀ k, k ∈ keys (hw ri) → (k ∈ rdOf rj ∨ k ∈ keys (hw rj)) → False
theorem okDyn_spec {ops : List Oper} {rs : List (Option Res)} (h : DynOk ops rs) {i j : Nat} {ri rj : Option Res} (hi : rs[i]? = some ri) (hj : rs[j]? = some rj) (hu : unord ops i j = true) {k : Nm}
  (hk : k ∈ keys (hw ri)) (hl : k ∈ rdOf rj ∨ k ∈ keys (hw rj)) : False := h i j ri rj hi hj hu k hk hl
def DynOkX (ops : List Oper) (rs : List (Option Res)) (X : Option (Nat × Nat)) : Prop :=
 (∀ (i j : Nat) (ri rj : Option Res), rs[i]? = some ri → rs[j]? = some rj → unord ops i j = true → ∀ k, k ∈ keys (hw ri) → ((k ∈ rdOf rj → X = some (i, j)) ∧ k ∉ keys (hw rj))) ∧
 ∀ i0 j0, X = some (i0, j0) → i0 < j0 ∧ ∀ q rq rj, i0 < q → q < j0 → rs[q]? = some rq → rs[j0]? = some rj → ∀ k, k ∈ keys (hw rq) → k ∉ rdOf rj
theorem DynOk.x {ops : List Oper} {rs : List (Option Res)} (h : DynOk ops rs) : DynOkX ops rs none :=
 ⟨fun i j ri rj hi hj hu k hk => ⟨fun hl => (h i j ri rj hi hj hu k hk (.inl hl)).elim, fun hl => h i j ri rj hi hj hu k hk (.inr hl)⟩, fun _ _ h => by cases h⟩
theorem twL_get : ∀ {l : List Oper} {rs : List (Option Res)} {q : Nat} {x : List (Nat × PV)}, (twL l rs)[q]? = some x → ∃ o r, l[q]? = some o ∧ rs[q]? = some r ∧ x = tw o r
 | [], rs, q, x, h => by simp [twL] at h
 | o :: l, [], q, x, h => by simp [twL] at h
 | o :: l, r :: rs, q, x, h => by
  cases q with
  | zero => simp [twL] at h; exact ⟨o, r, by simp, by simp, h.symm⟩
  | succ q =>
   simp only [twL, List.getElem?_cons_succ] at h
   obtain ⟨o', r', h1, h2, h3⟩ := twL_get h
   exact ⟨o', r', by simpa using h1, by simpa using h2, h3⟩
theorem twL_get' : ∀ {l : List Oper} {rs : List (Option Res)} {q : Nat} {o : Oper} {r : Option Res}, l[q]? = some o → rs[q]? = some r → (twL l rs)[q]? = some (tw o r)
 | [], _, _, _, _, h, _ => by simp at h
 | _ :: _, [], _, _, _, _, h => by simp at h
 | a :: l, b :: rs, q, o, r, h1, h2 => by
  cases q with
  | zero => simp at h1 h2; subst h1; subst h2; rfl
  | succ q => simp only [twL, List.getElem?_cons_succ]; exact twL_get' (by simpa using h1) (by simpa using h2)
theorem tw_keys {o : Oper} {r : Option Res} {k : Nat} (h : k ∈ keys (tw o r)) : o.dst = some k := by
 unfold tw at h
 cases hd : o.dst with
 | none => rw [hd] at h; cases h
 | some d => rw [hd] at h; simp [keys] at h; rw [h]
section
variable {P : Program} {E0 : Env} {F0 : SF} {w0 : World}
structure DInv (E0 : Env) (F0 : SF) (w0 : World) (lev : Nat) (ls : List Nat) (ez m : Nat) (ds : List Deferred) (ops : List Oper) (rs : List (Option Res)) (f0 : Nat → Option PV) (G0 : SF) (L : Nat → Bool) (E : Env) (a : Act) (w : World) : Prop where
 step : StepR E0 F0 w0 E (appl L 0 (rs.map hw) G0) w
 tmps : TRelF w (Zn E (appl L 0 (rs.map hw) G0) w) E (appl L 0 (twL ops rs) f0) m a.tmps
 defers : a.defers = ds
 fresh : ∀ k, lo ls ez 0 ≤ k → k < ez → E ⟨lev, k⟩ ≠ none → ∃ i, L i = true ∧ lo ls ez i ≤ k ∧ k < lo ls ez (i + 1)
 news : ∀ n, E0 n = none → E n ≠ none → n.l = lev ∧ lo ls ez 0 ≤ n.i ∧ n.i < ez
 deep : ∀ n : Nm, lev < n.l → E n = none
theorem OpFact.congr {P : Program} {ρ : Operand → Option PV} {F F' : SF} {L nx top : Nat} {o : Oper} {r : Res} (h : OpFact P ρ F L nx top o r) (hF : ∀ n ∈ r.rd, F' n = F n) : OpFact P ρ F' L nx top o r :=
 ⟨h.1, h.2.1, fun ρ2 F2 hρ2 hF2 => h.2.2 ρ2 F2 hρ2 fun n hn => (hF2 n hn).trans (hF n hn)⟩
def XFact (P : Program) (ops : List Oper) (lev : Nat) (t0 : Nat → Option PV) (H0 : SF) (rs : List (Option Res)) (ls : List Nat) (ez : Nat) (X : Option (Nat × Nat)) : Prop :=
 ∀ i0 j0, X = some (i0, j0) → ∀ (o : Oper) (r : Res), ops[j0]? = some o → rs[j0]? = some (some r) → OpFact P (evalF (appl (fun q => decide (q < j0)) 0 (twL ops rs) t0)) (appl (fun q => decide (q < i0)) 0 (rs.map hw) H0) lev (lo ls ez j0) (lo ls ez (j0 + 1)) o r
theorem XFact.none {P : Program} {ops : List Oper} {lev : Nat} {t0 : Nat → Option PV} {H0 : SF} {rs : List (Option Res)} {ls : List Nat} {ez : Nat} : XFact P ops lev t0 H0 rs ls ez .none := fun _ _ h => by cases h
theorem draw_step {ops : List Oper} {lev ez base m : Nat} {ds : List Deferred} {ro : Option Nat} {n : Nat} {Q : Exit → Act → World → Prop} {t0 tz : Nat → Option PV} {H0 Hz : SF} {rs : List (Option Res)} {ls : List Nat}
  (hTr : Tr P ops lev m ops t0 H0 base rs ls tz Hz ez) (hst : okStatic ops m = true) {X : Option (Nat × Nat)} (hdy : DynOkX ops rs X) (hX : XFact P ops lev t0 H0 rs ls ez X) {L L' : Nat → Bool} {E : Env} {a : Act} {w : World} {j : Nat} {o : Oper}
  (hInv : DInv E0 F0 w0 lev ls ez m ds ops rs t0 H0 L E a w) (hcl : ∀ q k, L q = true → DPred ops q k → L k = true) (hpre : ∀ k, DPred ops j k → L k = true) (hoj : ops[j]? = some o) (hLj : L j = false)
  (hL'j : L' j = true) (hL' : ∀ i, i ≠ j → L' i = L i) {K : Act → World → Prop} (hK : ∀ E' a' w', DInv E0 F0 w0 lev ls ez m ds ops rs t0 H0 L' E' a' w' → K a' w') :
  wpOpIn (W ro) n P ops.toArray Q j K a w := by
 obtain ⟨s1, s2, s3⟩ := okStatic_spec hst
 obtain ⟨hlen, _, _, hat⟩ := tr_at (i := 0) hTr
 obtain ⟨hls, _, hmon⟩ := tr_lo hTr
 have hez : lo ls ez ops.length = ez := by simp [lo, ← hls]
 have hjz : lo ls ez (j + 1) ≤ ez := by have := lo_mono hmon (show j + 1 ≤ ops.length from lt_of_get hoj); rw [hez] at this; exact this
 simp only [Nat.zero_add] at hat
 have hjl := lt_of_get hoj
 obtain ⟨r, hrj⟩ : ∃ r, rs[j]? = some r := ⟨_, List.getElem?_eq_getElem (by omega)⟩
 have hd : ∀ x, o.dst = some x → x < m := s2 o (List.mem_of_getElem? hoj)
 have hordj : ∀ i, ord ops i j = true → L i = true := ord_closed s1 hcl j hpre
 have hordq : ∀ q i, L q = true → ord ops i q = true → L i = true := fun q i hq => ord_closed s1 hcl q (fun k hk => hcl q k hq hk) i
 have hun1 : ∀ q, j < q → L q = true → unord ops q j = true := by
  intro q hq hL
  have h1 : ord ops q j = false := by
   cases h : ord ops q j with
   | false => rfl
   | true => have := ord_lt s1 j q h; omega
  have h2 : ord ops j q = false := by
   cases h : ord ops j q with
   | false => rfl
   | true => have := hordq q j hL h; rw [hLj] at this; cases this
  simp [unord, h1, h2]; omega
 have hun2 : ∀ q, q < j → L q = false → unord ops q j = true := by
  intro q hq hL
  have h1 : ord ops j q = false := by
   cases h : ord ops j q with
   | false => rfl
   | true => have := ord_lt s1 q j h; omega
  have h2 : ord ops q j = false := by
   cases h : ord ops q j with
   | false => rfl
   | true => have := hordj q h; rw [hL] at this; cases this
  simp [unord, h1, h2]; omega
 have hslot : ∀ k, k ∈ looks ops o → appl L 0 (twL ops rs) t0 k = appl (fun q => decide (q < j)) 0 (twL ops rs) t0 k := by
  intro k hk
  refine appl_congr _ rfl ?_
  intro q x hx hkx
  simp only [Nat.zero_add]
  obtain ⟨oq, rq, h1, h2, rfl⟩ := twL_get hx
  have hdq := tw_keys hkx
  rcases Nat.lt_trichotomy q j with hq | hq | hq
  ·have : L q = true := by
    cases h : L q with
    | true => rfl
    | false => exact (s3 q j oq o h1 hoj (hun2 q hq h) k hdq hk).elim
   simp [this, hq]
  ·subst hq; simp [hLj]
  ·have : L q = false := by
    cases h : L q with
    | false => rfl
    | true => exact (s3 q j oq o h1 hoj (hun1 q hq h) k hdq hk).elim
   simp [this]; omega
 have hname : (X = none ∨ (∀ i, X ≠ some (i, j)) ∨ ∃ i, X = some (i, j) ∧ L i = true) → ∀ k : Nm, k ∈ rdOf r → appl L 0 (rs.map hw) H0 k = appl (fun q => decide (q < j)) 0 (rs.map hw) H0 k := by
  intro hx k hk
  refine appl_congr _ rfl ?_
  intro q x hx' hkx
  simp only [Nat.zero_add]
  rw [List.getElem?_map] at hx'
  cases hrq : rs[q]? with
  | none => rw [hrq] at hx'; cases hx'
  | some rq =>
   rw [hrq] at hx'; simp only [Option.map_some, Option.some.injEq] at hx'; subst hx'
   rcases Nat.lt_trichotomy q j with hq | hq | hq
   ·have : L q = true := by
     cases h : L q with
     | true => rfl
     | false =>
      have hX' := (hdy.1 q j rq r hrq hrj (hun2 q hq h) k hkx).1 hk
      rcases hx with hx | hx | ⟨i, hx, hi⟩
      ·rw [hx] at hX'; cases hX'
      ·exact absurd hX' (hx q)
      ·rw [hx] at hX'; injection hX' with hX'; injection hX' with e _; subst e; rw [h] at hi; cases hi
    simp [this, hq]
   ·subst hq; simp [hLj]
   ·have : L q = false := by
     cases h : L q with
     | false => rfl
     | true =>
      have hX' := (hdy.1 q j rq r hrq hrj (hun1 q hq h) k hkx).1 hk
      have := (hdy.2 q j hX').1; omega
    simp [this]; omega
 have hname2 : ∀ i0, X = some (i0, j) → L i0 = false → ∀ k : Nm, k ∈ rdOf r → appl L 0 (rs.map hw) H0 k = appl (fun q => decide (q < i0)) 0 (rs.map hw) H0 k := by
  intro i0 hx hi0 k hk
  obtain ⟨hlt, hmid⟩ := hdy.2 i0 j hx
  refine appl_congr _ rfl ?_
  intro q x hx' hkx
  simp only [Nat.zero_add]
  rw [List.getElem?_map] at hx'
  cases hrq : rs[q]? with
  | none => rw [hrq] at hx'; cases hx'
  | some rq =>
   rw [hrq] at hx'; simp only [Option.map_some, Option.some.injEq] at hx'; subst hx'
   rcases Nat.lt_trichotomy q i0 with hq | hq | hq
   ·have : L q = true := by
     cases h : L q with
     | true => rfl
     | false =>
      have hX' := (hdy.1 q j rq r hrq hrj (hun2 q (by omega) h) k hkx).1 hk
      rw [hx] at hX'; injection hX' with hX'; injection hX' with e _; omega
    simp [this, hq]
   ·subst hq; simp [hi0]
   ·rcases Nat.lt_trichotomy q j with hq2 | hq2 | hq2
    ·exact absurd hk (hmid q rq r hq hq2 hrq hrj k hkx)
    ·subst hq2; simp [hLj]; omega
    ·have : L q = false := by
      cases h : L q with
      | false => rfl
      | true =>
       have hX' := (hdy.1 q j rq r hrq hrj (hun1 q hq2 h) k hkx).1 hk
       have := (hdy.2 q j hX').1; omega
     simp [this]; omega
 have hinsT : appl L' 0 (twL ops rs) t0 = setAll (appl L 0 (twL ops rs) t0) (tw o r) := by
  refine appl_insert (twL_get' hoj hrj) hL'j hL' ?_
  intro q y hq hy hLq k hk hky
  obtain ⟨oq, rq, h1, _, rfl⟩ := twL_get hy
  exact s3 q j oq o h1 hoj (hun1 q hq hLq) k (tw_keys hky) (by simp [looks, tw_keys hk])
 have hinsH : appl L' 0 (rs.map hw) H0 = setAll (appl L 0 (rs.map hw) H0) (hw r) := by
  refine appl_insert (by simp [hrj]) hL'j hL' ?_
  intro q y hq hy hLq k hk hky
  rw [List.getElem?_map] at hy
  cases hrq : rs[q]? with
  | none => rw [hrq] at hy; cases hy
  | some rq =>
   rw [hrq] at hy; simp only [Option.map_some, Option.some.injEq] at hy; subst hy
   exact (hdy.1 q j rq r hrq hrj (hun1 q hq hLq) k hky).2 hk
 have hguard : ∀ q want, o.guard = some (q, want) → guardF ops (appl L 0 (twL ops rs) t0) q = guardF ops (appl (fun q => decide (q < j)) 0 (twL ops rs) t0) q := by
  intro q want hg
  unfold guardF
  cases hoq : ops[q]? with
  | none => rfl
  | some oq =>
   simp only
   cases hdq : oq.dst with
   | none => rfl
   | some d =>
    simp only
    exact hslot d (by simp [looks, hg, hoq, hdq])
 have hfr : ∀ k, lo ls ez j ≤ k → k < lo ls ez (j + 1) → E ⟨lev, k⟩ = none := by
  intro k h1 h2
  cases hek : E ⟨lev, k⟩ with
  | none => rfl
  | some x =>
   obtain ⟨i, hi, h3, h4⟩ := hInv.fresh k (Nat.le_trans (lo_mono hmon (Nat.zero_le j)) h1) (by omega) (by rw [hek]; simp)
   have : i = j := by
    rcases Nat.lt_trichotomy i j with hl | hl | hl
    ·have := lo_mono hmon (show i + 1 ≤ j from hl); omega
    ·exact hl
    ·have := lo_mono hmon (show j + 1 ≤ i from hl); omega
   subst this
   rw [hLj] at hi; cases hi
 have hdef : ∀ v, (a.put o.dst v).defers = ds := by intro v; cases hdd : o.dst <;> simp [Act.put, hInv.defers]
 have hfresh' : ∀ E' : Env, (∀ n, E n = none → E' n ≠ none → n.l = lev ∧ lo ls ez j ≤ n.i ∧ n.i < lo ls ez (j + 1)) → ∀ k, lo ls ez 0 ≤ k → k < ez → E' ⟨lev, k⟩ ≠ none → ∃ i, L' i = true ∧ lo ls ez i ≤ k ∧ k < lo ls ez (i + 1) := by
  intro E' hF k hk hkz hne
  cases hek : E ⟨lev, k⟩ with
  | none =>
   obtain ⟨_, h1, h2⟩ := hF ⟨lev, k⟩ hek hne
   exact ⟨j, hL'j, h1, h2⟩
  | some x =>
   obtain ⟨i, hi, h3⟩ := hInv.fresh k hk hkz (by rw [hek]; simp)
   refine ⟨i, ?_, h3⟩
   by_cases hij : i = j
   ·rw [hij]; exact hL'j
   ·rw [hL' i hij]; exact hi
 have hnews' : ∀ E' : Env, (∀ n, E n = none → E' n ≠ none → n.l = lev ∧ lo ls ez j ≤ n.i ∧ n.i < lo ls ez (j + 1)) → ∀ n, E0 n = none → E' n ≠ none → n.l = lev ∧ lo ls ez 0 ≤ n.i ∧ n.i < ez := by
  intro E' hF k hk hne
  cases hek : E k with
  | none =>
   obtain ⟨h0, h1, h2⟩ := hF k hek hne
   have := lo_mono hmon (Nat.zero_le j)
   exact ⟨h0, by omega, by omega⟩
  | some x => exact hInv.news k hk (by rw [hek]; simp)
 have hdeep' : ∀ E' : Env, (∀ n, E n = none → E' n ≠ none → n.l = lev ∧ lo ls ez j ≤ n.i ∧ n.i < lo ls ez (j + 1)) → ∀ n : Nm, lev < n.l → E' n = none := by
  intro E' hF n hn
  cases he : E' n with
  | none => rfl
  | some x => have := (hF n (hInv.deep n hn) (by rw [he]; simp)).1; omega
 unfold wpOpIn
 rw [List.getElem?_toArray, hoj]
 simp only
 have hj := hat j o r hoj hrj
 cases r with
 | some r =>
  simp only at hj
  obtain ⟨hfact, hg⟩ := hj
  have hfact : OpFact P (evalF (appl (fun q => decide (q < j)) 0 (twL ops rs) t0)) (appl L 0 (rs.map hw) H0) lev (lo ls ez j) (lo ls ez (j + 1)) o r := by
   by_cases hx : ∃ i0, X = some (i0, j) ∧ L i0 = false
   ·obtain ⟨i0, hx, hi0⟩ := hx
    exact (hX i0 j hx o r hoj hrj).congr (hname2 i0 hx hi0)
   ·refine hfact.congr (hname ?_)
    by_cases hy : ∃ i0, X = some (i0, j)
    ·obtain ⟨i0, hy⟩ := hy
     refine .inr (.inr ⟨i0, hy, ?_⟩)
     cases h : L i0 with
     | true => rfl
     | false => exact absurd ⟨i0, hy, h⟩ hx
    ·exact .inr (.inl fun i h => hy ⟨i, h⟩)
  obtain ⟨hnd, _, hs⟩ := hfact
  have hw' : Region.wanted o (yielded ops.toArray a.tmps) = true := by
   cases hgd : o.guard with
   | none => simp [Region.wanted, hgd]
   | some jw =>
    obtain ⟨q, want⟩ := jw
    rw [guardF_wanted hInv.tmps hgd (by rw [hguard q want hgd]; exact hg q want hgd)]
    simp
  rw [if_pos hw']
  refine ⟨fun _ _ => trivial, ?_⟩
  rw [Oper.semAt_eq (W ro).round a.eval o hnd]
  have hL := hs (evalF (appl L 0 (twL ops rs) t0)) (appl L 0 (rs.map hw) H0) (fun x hx => by
    cases x with
    | tmp i => exact hslot i (by simp only [looks, opTmps, List.mem_append, List.mem_filterMap]; exact .inl (.inr ⟨.tmp i, hx, rfl⟩))
    | _ => rfl) (fun k hk => rfl) E w a.eval hInv.step.rel hfr hInv.deep hInv.tmps.eval
  refine lands_upon hL ?_
  rintro v w' ⟨E', hv', hstep, hfi⟩
  rw [upd_eq] at hstep hv'
  refine hK E' _ w' ⟨?_, ?_, hdef v, hfresh' E' hfi, hnews' E' hfi, hdeep' E' hfi⟩
  ·rw [hinsH]; exact hInv.step.trans hstep
  ·rw [hinsT, hinsH]; exact (hInv.tmps.mono hstep.ext).putR (r := some r) hv' hd
 | none =>
  simp only at hj
  obtain ⟨q, want, hg, hb⟩ := hj
  have hw' : Region.wanted o (yielded ops.toArray a.tmps) = false := by
   exact guardF_off hInv.tmps hg (by rw [hguard q want hg]; exact hb)
  rw [hw']
  simp only [Bool.false_eq_true, if_false]
  refine ⟨fun _ _ => trivial, hK E _ w ⟨?_, ?_, hdef undef, hfresh' E (fun k h1 h2 => absurd h1 h2), hInv.news, hInv.deep⟩⟩
  ·rw [hinsH]; exact hInv.step
  ·rw [hinsT, hinsH]; exact hInv.tmps.putR (r := none) VR_undef hd
theorem countP_lt {p p' : Nat → Bool} : ∀ {l : List Nat}, (∀ x ∈ l, p' x = true → p x = true) → ∀ {j : Nat}, j ∈ l → p j = true → p' j = false → l.countP p' < l.countP p
 | [], _, j, hj, _, _ => by cases hj
 | x :: l, h, j, hj, h1, h2 => by
  have hle : ∀ {l : List Nat}, (∀ x ∈ l, p' x = true → p x = true) → l.countP p' ≤ l.countP p := fun h => List.countP_mono_left h
  simp only [List.countP_cons]
  rcases List.mem_cons.1 hj with rfl | hj
  ·have := hle (l := l) (fun y hy => h y (by simp [hy]))
   simp [h1, h2]; omega
  ·have := countP_lt (fun y hy => h y (by simp [hy])) hj h1 h2
   have hx := h x (by simp)
   cases hp' : p' x with
   | false => simp; split <;> omega
   | true => simp [hx hp']; omega
theorem tr_draw {ops : List Oper} {lev ez base m : Nat} {ds : List Deferred} {ro : Option Nat} {n : Nat} {Q : Exit → Act → World → Prop} {t0 tz : Nat → Option PV} {H0 Hz : SF} {rs : List (Option Res)} {ls : List Nat}
  (hTr : Tr P ops lev m ops t0 H0 base rs ls tz Hz ez) (hst : okStatic ops m = true) {X : Option (Nat × Nat)} (hdy : DynOkX ops rs X) (hX : XFact P ops lev t0 H0 rs ls ez X)
  (hQ : ∀ E a w, StepR E0 F0 w0 E Hz w → TRelF w (Zn E Hz w) E tz m a.tmps → a.defers = ds → (∀ n, E0 n = none → E n ≠ none → n.l = lev ∧ base ≤ n.i ∧ n.i < ez) → Q .normal a w) :
  ∀ (fuel : Nat) (listed : Array Bool) (E : Env) (a : Act) (w : World), listed.size = ops.length → (List.range ops.length).countP (fun i => !listed.getD i false) ≤ fuel →
   (∀ q k, listed.getD q false = true → DPred ops q k → listed.getD k false = true) → DInv E0 F0 w0 lev ls ez m ds ops rs t0 H0 (fun i => listed.getD i false) E a w →
   wpAnyIn (W ro) n P .any ops.toArray Q fuel listed a w := by
 obtain ⟨s1, s2, _⟩ := okStatic_spec hst
 obtain ⟨hlen, hz1, hz3, _⟩ := tr_at (i := 0) hTr
 obtain ⟨hls, hlo0, hmon⟩ := tr_lo hTr
 have hend : ∀ (listed : Array Bool) (E : Env) (a : Act) (w : World), (∀ i, i < ops.length → listed.getD i false = true) → DInv E0 F0 w0 lev ls ez m ds ops rs t0 H0 (fun i => listed.getD i false) E a w → (∀ i, listed.getD i false = true → i < ops.length) → Q .normal a w := by
  intro listed E a w hall hI hb
  have e1 : appl (fun i => listed.getD i false) 0 (twL ops rs) t0 = tz := by
   rw [hz1]; funext k
   refine appl_congr _ rfl ?_
   intro q x hx _
   obtain ⟨o, r, h1, _, _⟩ := twL_get hx
   simp only [Nat.zero_add]
   exact hall q (lt_of_get h1)
  have e2 : appl (fun i => listed.getD i false) 0 (rs.map hw) H0 = Hz := by
   rw [hz3]; funext k
   refine appl_congr _ rfl ?_
   intro q x hx _
   have := lt_of_get hx
   simp only [List.length_map] at this
   simp only [Nat.zero_add]
   exact hall q (by omega)
  refine hQ E a w (by rw [← e2]; exact hI.step) (by rw [← e1, ← e2]; exact hI.tmps) hI.defers ?_
  rw [← hlo0]; exact hI.news
 have hlt : ∀ (listed : Array Bool), listed.size = ops.length → ∀ i, listed.getD i false = true → i < ops.length := by
  intro listed hs i hi
  rcases Nat.lt_or_ge i listed.size with h | h
  ·omega
  ·simp [Array.getD, Nat.not_lt.2 h] at hi
 have hready : ∀ (listed : Array Bool), listed.size = ops.length → Region.ready .any ops.toArray listed = [] → ∀ i, i < ops.length → listed.getD i false = true := by
  intro listed hs hr i
  induction i using Nat.strongRecOn with
  | _ i ih =>
   intro hi
   cases hli : listed.getD i false with
   | true => rfl
   | false =>
    exfalso
    have : i ∈ Region.ready .any ops.toArray listed := by
     rw [mem_ready]
     have ho : ops[i]? = some ops[i] := List.getElem?_eq_getElem hi
     refine ⟨?_, ops[i], by simp [ho], ?_⟩
     ·simp only [Array.getD] at hli ⊢
      rw [dif_pos (by omega)] at hli ⊢
      exact hli
     ·intro e he hb
      have hd : DPred ops i e.on := ⟨ops[i], ho, e, by simpa using he, hb, rfl⟩
      have := edgesDown_spec s1 hd
      exact ih e.on this (by omega)
    rw [hr] at this
    cases this
 intro fuel
 induction fuel with
 | zero =>
  intro listed E a w hs hc hcl hI
  have hall : ∀ i, i < ops.length → listed.getD i false = true := by
   intro i hi
   cases hli : listed.getD i false with
   | true => rfl
   | false =>
    have : 0 < (List.range ops.length).countP (fun i => !listed.getD i false) := List.countP_pos_iff.2 ⟨i, by simpa using hi, by simp [hli]⟩
    omega
  refine ⟨?_, hend listed E a w hall hI (hlt listed hs)⟩
  apply List.eq_nil_iff_forall_not_mem.2
  intro j hj
  rw [mem_ready] at hj
  obtain ⟨h1, o, h2, _⟩ := hj
  rw [List.getElem?_toArray] at h2
  have hjl := lt_of_get h2
  have := hall j hjl
  simp only [Array.getD] at h1 this
  rw [dif_pos (by omega)] at h1 this
  rw [this] at h1; cases h1
 | succ fuel ih =>
  intro listed E a w hs hc hcl hI
  refine ⟨fun hr => hend listed E a w (hready listed hs hr) hI (hlt listed hs), ?_⟩
  intro j hj
  rw [mem_ready] at hj
  obtain ⟨h1, o, h2, h3⟩ := hj
  rw [List.getElem?_toArray] at h2
  have hjl := lt_of_get h2
  have hLj : listed.getD j false = false := by
   simp only [Array.getD] at h1 ⊢
   rw [dif_pos (by omega)] at h1 ⊢
   exact h1
  have hL'j : (listed.setIfInBounds j true).getD j false = true := by
   simp only [Array.getD]
   rw [dif_pos (by simp; omega)]
   simp
  have hL' : ∀ i, i ≠ j → (listed.setIfInBounds j true).getD i false = listed.getD i false := fun i hi => getD_set_ne false (fun e => hi e.symm)
  have hpre : ∀ k, DPred ops j k → listed.getD k false = true := by
   rintro k ⟨o', ho', e, he, hb, rfl⟩
   rw [h2] at ho'; injection ho' with ho'; subst ho'
   exact h3 e (by simpa using he) hb
  refine draw_step hTr hst hdy hX (L := fun i => listed.getD i false) (L' := fun i => (listed.setIfInBounds j true).getD i false) hI hcl hpre h2 hLj hL'j hL' ?_
  intro E' a' w' hI'
  refine ih _ E' a' w' (by simpa using hs) ?_ ?_ hI'
  ·have := countP_lt (p := fun i => !listed.getD i false) (p' := fun i => !(listed.setIfInBounds j true).getD i false) (l := List.range ops.length) (fun x _ hx => by
    by_cases hxj : x = j
    ·subst hxj; simp [hL'j] at hx
    ·simpa [hL' x hxj] using hx) (j := j) (by simpa using hjl) (by simp [hLj]) (by simp [hL'j])
   omega
  ·intro q k hq hd
   by_cases hqj : q = j
   ·subst hqj
    have := hpre k hd
    by_cases hk : k = q
    ·rw [hk]; exact hL'j
    ·rw [hL' k hk]; exact this
   ·rw [hL' q hqj] at hq
    by_cases hk : k = j
    ·rw [hk]; exact hL'j
    ·rw [hL' k hk]; exact hcl q k hq hd
end
end Go.Tx
end
