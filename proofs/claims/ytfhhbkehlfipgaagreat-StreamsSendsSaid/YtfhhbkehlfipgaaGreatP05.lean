/- Lemmas for the walk: T11, T9b, T12, T13a, T13b, T13c, T14. -/
import Derived.Test.YtfhhbkehlfipgaaGreatP04
import Derived.Lib.UnsafeStr
set_option linter.all false
section
namespace Go.Tx
open Go.Sx (TK tk isAggK cellsOf cellsOf_eq lt_of_get getD_of_lt tk_map tk_struct tk_array tk_slice foldl_setA' setA setA_size setA_get setA_one run_eqGuard_int)
section
variable {P : Program} {T : Tys} {E : Env} {F : SF} {nx : Nm} {w : World} {Z : Nat → Prop}
def fillL (place : Nat → Option (Nat × Nat)) (cells : List PV) : List (Nat × PV) → Option (Prop × List PV)
 | [] => some (True, cells)
 | (i, v) :: rest =>
  match place i, cellsP v with
  | some (off, size), some vs =>
   match fillL place (putAt cells off vs) rest with
   | none => none
   | some (p, cs) => some (vs.length = size ∧ off + size ≤ cells.length ∧ p, cs)
  | _, _ => none
inductive PRel (w : World) (Z : Nat → Prop) (E : Env) : List (Nat × PV) → List (Nat × Value) → Prop
 | nil : PRel w Z E [] []
 | cons {i : Nat} {v : PV} {v' : Value} {l : List (Nat × PV)} {l' : List (Nat × Value)} (h : VR w Z E v v') (t : PRel w Z E l l') : PRel w Z E ((i, v) :: l) ((i, v') :: l')
theorem VRl.put {cells : List PV} {cells' : List Value} {vs : List PV} {vs' : List Value} (h : VRl w Z E cells cells') (hv : VRl w Z E vs vs') {c : Nat} (hc : c + vs.length ≤ cells.length) : VRl w Z E (putAt cells c vs) (setA cells'.toArray c vs').toList := by
 obtain ⟨g1, g2⟩ := VRl.get h
 obtain ⟨k1, k2⟩ := VRl.get hv
 refine VRl.of (by rw [Array.length_toList, setA_size, putAt_length _ _ _ hc]; simpa using g1) fun j x v hx hv' => ?_
 rw [Array.getElem?_toList, setA_get _ _ _ _ (by simp; omega)] at hv'
 rw [putAt_get _ _ _ hc] at hx
 by_cases hin : c ≤ j ∧ j < c + vs.length
 ·rw [if_pos hin] at hx
  rw [if_pos (by omega)] at hv'
  obtain ⟨u, a1, a2⟩ := k2 _ _ hx
  rw [hv'] at a1; injection a1 with a1; subst a1
  exact a2
 ·rw [if_neg hin] at hx
  rw [if_neg (by omega)] at hv'
  obtain ⟨u, a1, a2⟩ := g2 _ _ hx
  rw [List.getElem?_toArray, a1] at hv'; injection hv' with hv'; subst hv'
  exact a2
theorem sound_fill {place place' : Nat → Option (Nat × Nat)} (hpl : ∀ i o, place i = some o → place' i = some o) : ∀ {parts : List (Nat × PV)} {parts' : List (Nat × Value)}, PRel w Z E parts parts' → ∀ {cells : List PV} {cells' : Array Value} {p : Prop} {cs : List PV},
  fillL place cells parts = some (p, cs) → p → VRl w Z E cells cells'.toList → (∀ u ∈ cells'.toList, u.oneCell' = true) →
  ∃ cs', Instr.fill place' cells' parts' = some cs' ∧ VRl w Z E cs cs'.toList ∧ (∀ u ∈ cs'.toList, u.oneCell' = true) := by
 intro parts parts' hP
 induction hP with
 | nil =>
  intro cells cells' p cs h hp hd h1
  simp only [fillL, Option.some.injEq, Prod.mk.injEq] at h
  obtain ⟨_, rfl⟩ := h
  exact ⟨cells', rfl, hd, h1⟩
 | @cons i v v' l l' hv _ ih =>
  intro cells cells' p cs h hp hd h1
  simp only [fillL] at h
  split at h
  rotate_left
  ·cases h
  rename_i off size vs hp1 hvs
  split at h
  ·cases h
  rename_i q cs0 hq
  simp only [Option.some.injEq, Prod.mk.injEq] at h
  obtain ⟨rfl, rfl⟩ := h
  obtain ⟨p1, p2, p3⟩ := hp
  obtain ⟨c1, c2⟩ := VR_cells hv hvs
  have hlv : (cellsOf v').length = size := by rw [(VRl.get c1).1, p1]
  have hlc := (VRl.get hd).1
  simp only [Array.length_toList] at hlc
  have hd' := VRl.put hd c1 (c := off) (by omega)
  obtain ⟨cs', r1, r2, r3⟩ := ih hq p3 hd' (setA_one (by simpa using h1) _ _ c2 (by simp; omega))
  refine ⟨cs', ?_, r2, r3⟩
  have hsz : v'.cells.size = size := by rw [← Array.length_toList, cellsOf_eq, hlv]
  simp only [Instr.fill, hpl _ _ hp1]
  rw [if_neg (by simp [hsz]; omega)]
  rw [← r1]
  congr 1
  simpa using foldl_setA' off v' cells'
def AllFields (T : Tys) : Prop := ∀ t i fs, T.get t = some i → i.k = .struct fs → ∀ f ∈ fs, ∃ fi, T.get f.2 = some fi
def semBuild (T : Tys) (t : TypeId) (parts : List (Nat × PV)) : Option Res :=
 match T.get t with
 | some ti =>
  match ti.k with
  | .struct fs =>
   match fillL (fun i => (fs[i]?).bind fun f => (T.get f.2).map fun fi => (f.1, fi.size)) ti.zero parts with
   | some (p, cs) => some (mkRes p (.agg cs))
   | none => none
  | .array _ e =>
   match T.get e with
   | some ei =>
    match fillL (fun i => some (i * ei.size, ei.size)) ti.zero parts with
    | some (p, cs) => some (mkRes p (.agg cs))
    | none => none
   | none => none
  | _ => none
 | none => none
theorem mapM_places (hT : T.Ok P) (a : List Field) {fs : List (Nat × TypeId)} (h : a.map (fun f => (f.offset, f.type)) = fs) (hall : ∀ f ∈ fs, ∃ fi, T.get f.2 = some fi) :
  (a.mapM (fun f => do pure (f.offset, ← sizeOf f.type) : Field → Sem (Nat × Nat))).run P w = .ok (fs.map fun f => (f.1, ((T.get f.2).map (·.size)).getD 0)) w := by
 induction a generalizing fs with
 | nil => simp at h; subst h; simp
 | cons f l ih =>
  simp at h; subst h
  obtain ⟨fi, hfi⟩ := hall (f.offset, f.type) (by simp)
  obtain ⟨z, ht⟩ := hT _ _ hfi
  have hz := ht.run_sizeOf w
  have ih' := ih rfl (fun g hg => hall g (by simp [hg]))
  simp only [List.mapM_cons, Sem.run_bind, hz, Result.andThen_ok, Sem.run_pure, ih', List.map_cons, hfi, Option.map_some, Option.getD_some]
theorem sound_build (hT : T.Ok P) (hall : AllFields T) (h : HRel E F w) {t : TypeId} {parts : List (Nat × PV)} {parts' : List (Nat × Value)} {r : Res}
  (hs : semBuild T t parts = some r) (hvc : r.vc) (hp : PRel w (Zn E F w) E parts parts') : ∃ v', (Instr.build t parts'.toArray).run P w = .ok v' w ∧ Gives E F nx w r v' w := by
 unfold semBuild at hs
 split at hs
 rotate_left
 ·cases hs
 rename_i ti hti
 obtain ⟨z, ht⟩ := hT _ _ hti
 obtain ⟨d, hd, hk⟩ := ht.run_underlying w
 have hz0 : VRl w (Zn E F w) E ti.zero z.cells.toList := by rw [cellsOf_eq]; exact ht.vr _ _ _
 have hz1 : ∀ u ∈ z.cells.toList, u.oneCell' = true := by rw [cellsOf_eq]; exact ht.one
 split at hs
 ·rename_i fs hfs
  split at hs
  rotate_left
  ·cases hs
  rename_i p cs hfill
  injection hs with hs; subst hs
  rw [hfs] at hk
  obtain ⟨a, rfl, ha⟩ := tk_struct hk
  have hpl := mapM_places (w := w) hT a.toList ha (hall _ _ _ hti hfs)
  obtain ⟨cs', r1, r2, r3⟩ := sound_fill (place' := fun i => ((fs.map fun f => (f.1, ((T.get f.2).map (·.size)).getD 0)).toArray)[i]?) (by
   intro i o ho
   simp only [Option.bind_eq_some_iff, Option.map_eq_some_iff] at ho
   obtain ⟨f, h1, fi, h2, rfl⟩ := ho
   simp [h1, h2]) hp hfill hvc hz0 hz1
  refine ⟨.agg cs', ?_, Gives.still h rfl ?_⟩
  ·simp only [Instr.build, Sem.run_bind, ht.run_zeroValue w, Result.andThen_ok, hd, Array.mapM_eq_mapM_toList, Sem.run_map, hpl]
   rw [r1]
   rfl
  ·simp only [mkRes, VR]
   exact ⟨cs'.toList, by simp, r3, r2⟩
 ·rename_i n e hfs
  split at hs
  rotate_left
  ·cases hs
  rename_i ei hei
  split at hs
  rotate_left
  ·cases hs
  rename_i p cs hfill
  injection hs with hs; subst hs
  rw [hfs] at hk
  obtain rfl := tk_array hk
  obtain ⟨ze, hte⟩ := hT _ _ hei
  obtain ⟨cs', r1, r2, r3⟩ := sound_fill (place' := fun i => some (i * ei.size, ei.size)) (fun _ _ h => h) hp hfill hvc hz0 hz1
  refine ⟨.agg cs', ?_, Gives.still h rfl ?_⟩
  ·simp only [Instr.build, Sem.run_bind, ht.run_zeroValue w, Result.andThen_ok, hd, hte.run_sizeOf w]
   rw [r1]
   rfl
  ·simp only [mkRes, VR]
   exact ⟨cs'.toList, by simp, r3, r2⟩
 ·cases hs
def fillR (rows : List (List PV)) (size : Nat) : List (Nat × PV) → Option (Prop × List (List PV))
 | [] => some (True, rows)
 | (i, v) :: rest =>
  match cellsP v with
  | some vs =>
   match fillR (rows.set i vs) size rest with
   | none => none
   | some (p, rs) => some (vs.length = size ∧ i < rows.length ∧ p, rs)
  | none => none
def semBuildSlice (T : Tys) (nx : Nm) (t : TypeId) (len : Nat) (parts : List (Nat × PV)) : Option Res :=
 match T.get t with
 | some { k := .slice e, .. } =>
  match T.get e with
  | some ei =>
   if ei.size == 0 || decide (16777216 < len * ei.size) then none else
   match fillR (List.replicate len ei.zero) ei.size parts with
   | some (p, rs) => some { vc := p, v := .sl nx 0 len, upd := [(nx, .rows e ei.size true (rs.all nfl) rs)], rd := [] }
   | none => none
  | none => none
 | _ => none
theorem sound_fillR {size : Nat} : ∀ {parts : List (Nat × PV)} {parts' : List (Nat × Value)}, PRel w Z E parts parts' → ∀ {rows : List (List PV)} {cs : Array Value} {p : Prop} {rs : List (List PV)},
  fillR rows size parts = some (p, rs) → p → (∀ row ∈ rows, row.length = size) → cs.size = rows.length * size → VRr w Z E rows 0 cs →
  ∃ cs', Instr.fill (fun i => some (i * size, size)) cs parts' = some cs' ∧ (∀ row ∈ rs, row.length = size) ∧ cs'.size = rs.length * size ∧ VRr w Z E rs 0 cs' ∧ rs.length = rows.length := by
 intro parts parts' hP
 induction hP with
 | nil =>
  intro rows cs p rs h hp h1 h2 h3
  simp only [fillR, Option.some.injEq, Prod.mk.injEq] at h
  obtain ⟨_, rfl⟩ := h
  exact ⟨cs, rfl, h1, h2, h3, rfl⟩
 | @cons i v v' l l' hv _ ih =>
  intro rows cs p rs h hp h1 h2 h3
  simp only [fillR] at h
  split at h
  rotate_left
  ·cases h
  rename_i vs hvs
  split at h
  ·cases h
  rename_i q rs0 hq
  simp only [Option.some.injEq, Prod.mk.injEq] at h
  obtain ⟨rfl, rfl⟩ := h
  obtain ⟨p1, p2, p3⟩ := hp
  obtain ⟨c1, c2⟩ := VR_cells hv hvs
  have hlv : (cellsOf v').length = size := by rw [(VRl.get c1).1, p1]
  have hm : (i + 1) * size ≤ rows.length * size := Nat.mul_le_mul_right _ p2
  have he : (i + 1) * size = i * size + size := Nat.succ_mul i size
  have hrow := List.getElem?_eq_getElem p2
  have hput : putAt (rows[i]) 0 vs = vs := by
   have := h1 _ (List.getElem_mem p2)
   simp [putAt]; omega
  obtain ⟨q1, q2⟩ := VRr.put h1 h3 hrow (c := 0) (by omega) c1 c2 (by omega)
  rw [hput] at q1 q2
  simp only [Nat.zero_add, Nat.add_zero] at q2
  obtain ⟨cs', r1, r2, r3, r4, r5⟩ := ih hq p3 q1 (by rw [setA_size, List.length_set]; exact h2) q2
  refine ⟨cs', ?_, r2, r3, r4, by simpa using r5⟩
  have hszv : v'.cells.size = size := by rw [← Array.length_toList, cellsOf_eq, hlv]
  simp only [Instr.fill]
  rw [if_neg (by simp [hszv]; omega)]
  rw [← r1]
  congr 1
  exact foldl_setA' (i * size) v' cs
theorem sound_buildSlice (hT : T.Ok P) (h : HRel E F w) (hE : E nx = none) {t : TypeId} {len : Nat} {parts : List (Nat × PV)} {parts' : List (Nat × Value)} {r : Res}
  (hs : semBuildSlice T nx t len parts = some r) (hvc : r.vc) (hp : PRel w (Zn E F w) E parts parts') : ∃ v' w', (Instr.buildSlice t len parts'.toArray).run P w = .ok v' w' ∧ Gives E F nx w r v' w' := by
 unfold semBuildSlice at hs
 split at hs
 rotate_left
 ·cases hs
 rename_i e _ _ _ _ _ hti
 split at hs
 rotate_left
 ·cases hs
 rename_i ei hei
 split at hs
 ·cases hs
 rename_i hsz
 simp only [Bool.or_eq_true, beq_iff_eq, decide_eq_true_eq, not_or] at hsz
 split at hs
 rotate_left
 ·cases hs
 rename_i p rs hfill
 injection hs with hs; subst hs
 obtain ⟨z, ht⟩ := hT _ _ hti
 obtain ⟨ze, hte⟩ := hT _ _ hei
 obtain ⟨d, hd, hk⟩ := ht.run_underlying w
 obtain rfl := tk_slice hk
 have hv0 := hte.vr w (Zn E F w) E
 obtain ⟨g1, g2⟩ := VRl.get hv0
 have hR := Sx.RowsA.replicate (E := fun _ => none) (show Sx.dvl (fun _ => none) (cellsOf ze) = some ze.cells.toList by rw [cellsOf_eq]; exact Sx.dvl_plain _ _ hte.sx.pl) (by rw [cellsOf_eq]; exact hte.one) len ei.size hte.sz
 have hrep : VRr w (Zn E F w) E (List.replicate len ei.zero) 0 ((Array.range (len * ei.size)).map fun i => ze.cells[i % ze.cells.size]!) := by
  refine (VRr_iff (wd := ei.size) (by intro row hr; rw [List.eq_of_mem_replicate hr]; exact hte.zsz)).2 fun r row k v hr hc' => ?_
  rw [List.getElem?_replicate] at hr
  split at hr
  rotate_left
  ·cases hr
  rename_i hrl
  injection hr with hr; subst hr
  obtain ⟨u, a1, a2⟩ := g2 k v hc'
  obtain ⟨v', b1, b2, b3⟩ := hR.cell r (cellsOf ze) k u (by simp [hrl]) a1
  have hpl : Sx.plain u = true := by
   have := hte.sx.pl
   have hm := List.mem_of_getElem? a1
   have key : ∀ l : List Value, Sx.plainL l = true → ∀ x ∈ l, Sx.plain x = true := by
    intro l
    induction l with
    | nil => intro _ x hx; cases hx
    | cons a l ih =>
     intro hl x hx
     simp only [Sx.plainL, Bool.and_eq_true] at hl
     rcases List.mem_cons.1 hx with rfl | hx
     ·exact hl.1
     ·exact ih hl.2 x hx
   exact key _ this u hm
  rw [Sx.dv_plain _ _ hpl] at b1
  injection b1 with b1; subst b1
  exact ⟨u, by rw [Nat.zero_add]; exact b3, b2, a2⟩
 obtain ⟨cs', r1, r2, r3, r4, r5⟩ := sound_fillR hp hfill hvc (by intro row hr; rw [List.eq_of_mem_replicate hr]; exact hte.zsz) (by simp) hrep
 simp only [List.length_replicate] at r5
 have hcap : rs.length ≤ maxLen := by
  have : len * 1 ≤ len * ei.size := Nat.mul_le_mul_left _ (by omega)
  unfold maxLen; omega
 have hvv : VRr w (Zn E F w) (EE E (rs.all nfl)) rs 0 cs'.toList.toArray := by
  cases hn : rs.all nfl with
  | false => show VRr w (Zn E F w) E rs 0 cs'.toList.toArray; simpa using r4
  | true =>
   rw [List.all_eq_true] at hn
   refine (VRr_iff r2).2 fun r row c v hr hc => ?_
   obtain ⟨v', a1, a2, a3⟩ := (VRr_iff r2).1 r4 r row c v hr hc
   have h1 := hn row (List.mem_of_getElem? hr)
   have key : ∀ l : List PV, nfl l = true → ∀ x ∈ l, nf x = true := by
    intro l
    induction l with
    | nil => intro _ x hx; cases hx
    | cons a l ih =>
     intro hl x hx
     simp only [nfl, Bool.and_eq_true] at hl
     rcases List.mem_cons.1 hx with rfl | hx
     ·exact hl.1
     ·exact ih hl.2 x hx
   exact ⟨v', by simpa using a1, a2, VR.nf v v' (key _ h1 v (List.mem_of_getElem? hc)) a3⟩
 have hS := StepR.newRows (t := e) (cap := rs.length) h hE (by omega) r2 (cs := cs'.toList) (by simpa using r3) hvv (Nat.le_refl _) hcap (rest := #[]) (by simp) (0, 0) (by simp)
 refine ⟨.slice (some ⟨w.heap.size, 0, none⟩) len len, w.alloc (.cells cs' e), ?_, E.set nx ⟨w.heap.size, 0, ei.size, rs.length, false, none⟩, ?_, ?_, FreshIn.set⟩
 ·simp only [Instr.buildSlice, Sem.run_bind, hd, Result.andThen_ok, hte.run_sizeOf w]
  rw [if_neg (by omega)]
  by_cases h0 : len * ei.size = 0
  ·rw [if_pos h0]
   rw [h0] at r1 ⊢
   simp only [show Array.range 0 = #[] from rfl, Array.map_empty] at r1
   simp only [Sem.run_bind, Sem.run_pure, Result.andThen_ok, show Array.range 0 = #[] from rfl, Array.map_empty, r1]
   rfl
  ·rw [if_neg h0]
   simp only [Sem.run_bind, Sem.run_pure, Result.andThen_ok, hte.run_zeroValue w, r1]
   rfl
 ·have := VR_sl (w := w.alloc (.cells cs' e)) (Z := Zn (E.set nx ⟨w.heap.size, 0, ei.size, rs.length, false, none⟩) (F.upd [(nx, .rows e ei.size true (rs.all nfl) rs)]) (w.alloc (.cells cs' e))) (Env.set_self E nx ⟨w.heap.size, 0, ei.size, rs.length, false, none⟩) rfl len
  simpa [r5] using this
 ·have q : cs'.toList.toArray ++ (#[] : Array Value) = cs' := by simp
  rw [q] at hS
  exact hS
end
end Go.Tx
end
section
namespace Go.Tx
open Go.Sx (TK tk isAggK cellsOf cellsOf_eq lt_of_get)
def semSliceData (F : SF) : PV → Option Res
 | .nilS => some (mkRes True .nilP)
 | .sl n r l => match F n with | some (.rows _ _ _ _ rs) => some { vc := 0 < l ∧ r + l ≤ rs.length, v := .ptr n r 0, upd := [], rd := [n] } | _ => none
 | _ => none
def semUString (T : Tys) (F : SF) (pt : TypeId) : PV → PV → Option Res
 | .nilP, .int .i64 n => some (mkRes (n = 0) (.str []))
 | .ptr nm 0 0, .int .i64 n =>
  match F nm, T.get pt with
  | some (.rows e 1 true p rs), some { k := .ptr e', .. } =>
   match T.get e with
   | some ei => if e == e' && ei.size == 1 then some { vc := 0 < n ∧ n ≤ rs.length ∧ rs.take n.toNat = (bytesP (rs.take n.toNat)).map rowB, v := .str (bytesP (rs.take n.toNat)), upd := [(nm, .rows e 1 false p rs)], rd := [nm] } else none
   | none => none
  | _, _ => none
 | _, _ => none
def semClear (T : Tys) (F : SF) (t : TypeId) : PV → Option Res
 | .sl n r l => match T.get t with
  | some { k := .slice e, .. } => match T.get e with
   | some ei => match F n with
    | some (.rows e' wd true p rs) => if e' == e && wd == ei.size && !(ei.size == 0) then some { vc := r + l ≤ rs.length, v := .tup [], upd := [(n, .rows e' wd true p (rs.take r ++ List.replicate l ei.zero ++ rs.drop (r + l)))], rd := [n] } else none
    | _ => none
   | none => none
  | _ => none
 | _ => none
section
variable {P : Program} {T : Tys} {E : Env} {F : SF} {nx : Nm} {w : World}
theorem zeroCells_rows {e : TypeId} {ei : TI} {z : Value} (ht : TOk P e ei z) (hsz : 0 < ei.size) (l : Nat) {Z : Nat → Prop} :
  (Builtin.zeroCells z.cells l).toList.length = (List.replicate l ei.zero).length * ei.size ∧ (∀ u ∈ (Builtin.zeroCells z.cells l).toList, u.oneCell' = true) ∧ VRr w Z Env.no (List.replicate l ei.zero) 0 (Builtin.zeroCells z.cells l).toList.toArray ∧ (∀ row ∈ List.replicate l ei.zero, row.length = ei.size) := by
 have hcs : z.cells.size = ei.size := by rw [← Array.length_toList, cellsOf_eq, ht.sx.sz]
 have hv0 := ht.vr w Z Env.no
 obtain ⟨g1, g2⟩ := VRl.get hv0
 have hzs := ht.zsz
 have hone := ht.sx.one
 have hrl : ∀ row ∈ List.replicate l ei.zero, row.length = ei.size := by intro row hr; rw [List.eq_of_mem_replicate hr]; exact hzs
 have hget : ∀ (r k : Nat), r < l → k < ei.size → (Builtin.zeroCells z.cells l)[r * ei.size + k]? = (cellsOf z)[k]? := by
  intro r k hr hk
  have hm : (r + 1) * ei.size ≤ l * ei.size := Nat.mul_le_mul_right _ hr
  have he : (r + 1) * ei.size = r * ei.size + ei.size := Nat.succ_mul r ei.size
  have hlt : r * ei.size + k < l * ei.size := by omega
  unfold Builtin.zeroCells
  rw [hcs, Array.getElem?_map, Array.getElem?_range, if_pos hlt]
  simp only [Option.map_some]
  rw [Nat.mul_add_mod_self_right, Nat.mod_eq_of_lt hk, ← cellsOf_eq, Array.getElem?_toList, Array.getElem?_eq_getElem (by omega)]
  rw [getElem!_pos z.cells k (by omega)]
 refine ⟨by simp [Builtin.zeroCells, hcs], fun u hu => ?_, ?_, hrl⟩
 ·obtain ⟨j, hj⟩ := List.getElem?_of_mem hu
  have hjl := lt_of_get hj
  simp [Builtin.zeroCells, hcs] at hjl
  have h1 : j / ei.size < l := Nat.div_lt_of_lt_mul (by rw [Nat.mul_comm]; exact hjl)
  have h2 : j % ei.size < ei.size := Nat.mod_lt _ hsz
  have h3 := hget (j / ei.size) (j % ei.size) h1 h2
  rw [Nat.div_add_mod'] at h3
  rw [Array.getElem?_toList, h3] at hj
  exact List.all_eq_true.1 hone u (List.mem_of_getElem? hj)
 ·refine (VRr_iff hrl).2 fun r row k v hr hc => ?_
  rw [List.getElem?_replicate] at hr
  split at hr
  rotate_left
  ·cases hr
  rename_i hrl'
  injection hr with hr; subst hr
  have hk := lt_of_get hc
  obtain ⟨u, a1, a2⟩ := g2 k v hc
  have h3 := hget r k hrl' (by omega)
  refine ⟨u, ?_, List.all_eq_true.1 hone u (List.mem_of_getElem? a1), a2⟩
  rw [Nat.zero_add, List.getElem?_toArray, Array.getElem?_toList, h3]; exact a1
theorem sound_clear (hT : T.Ok P) (h : HRel E F w) {t ty : TypeId} {x : PV} {x' : Value} {r : Res} (hs : semClear T F t x = some r) (hvc : r.vc) (hx : VR w (Zn E F w) E x x') :
  ∃ v' w', (Builtin.clear_ #[t] ty #[x']).run P w = .ok v' w' ∧ Gives E F nx w r v' w' := by
 unfold semClear at hs
 split at hs
 rotate_left
 ·cases hs
 rename_i n r0 l
 split at hs
 rotate_left
 ·cases hs
 rename_i e _ _ _ _ _ hti
 split at hs
 rotate_left
 ·cases hs
 rename_i ei hei
 split at hs
 rotate_left
 ·cases hs
 rename_i e' wd p rs hF
 split at hs
 rotate_left
 ·cases hs
 rename_i hc
 simp only [Bool.and_eq_true, beq_iff_eq, Bool.not_eq_true', beq_eq_false_iff_ne, ne_eq] at hc
 obtain ⟨⟨rfl, rfl⟩, hsz⟩ := hc
 injection hs with hs; subst hs
 obtain ⟨z0, ht0⟩ := hT _ _ hti
 obtain ⟨d, hd, hk⟩ := ht0.sx.desc
 obtain rfl := Sx.tk_slice hk
 obtain ⟨z, ht⟩ := hT _ _ hei
 obtain ⟨ix, hix, hx0, hx1, hx2⟩ := ht.sx.info
 simp only at hx0 hx1 hx2
 have hsame : F.set n (.rows e' ei.size true p rs) = F := by
  funext m
  unfold SF.set
  split
  ·rename_i he; subst he; exact hF.symm
  ·rfl
 simp only [VR] at hx
 obtain ⟨i, hi, hor⟩ := hx
 have hle0 : r0 + l ≤ rs.length := hvc
 have none0 : ∀ a c, x' = .slice a 0 c → l = 0 → ∃ v' w', (Builtin.clear_ #[t] ty #[x']).run P w = .ok v' w' ∧ Gives E F nx w { vc := r0 + l ≤ rs.length, v := .tup [], upd := [(n, .rows e' ei.size true p (rs.take r0 ++ List.replicate l ei.zero ++ rs.drop (r0 + l)))], rd := [n] } v' w' := by
  rintro a c rfl rfl
  refine ⟨.tuple #[], w, ?_, E, ?_, ?_, FreshIn.refl _ _⟩
  ·cases a <;> simp [Builtin.clear_, run_underlying hd]
  ·simp only [VR]; exact ⟨[], rfl, by simp [VRl]⟩
  ·simp only [SF.upd, List.replicate_zero, List.append_nil, Nat.add_zero, List.take_append_drop]
   rw [hsame]; exact StepR.refl h
 rcases hor with ⟨hz, rfl, rfl⟩ | ⟨hz, rfl⟩
 ·exact none0 _ _ rfl rfl
 ·by_cases hl0 : l = 0
  ·subst hl0; exact none0 _ _ rfl rfl
  ·have hR := rowsRel_of h hF hi hz
   rw [offS_pos (by omega)]
   obtain ⟨q1, q2, q3, q4⟩ := zeroCells_rows (w := w) (Z := Zn E F w) ht (by omega) l
   obtain ⟨w', e1, e2⟩ := StepR.splice (P := P) (px := true) h hF hi hz q1 q2 q3 q4 (a := r0) (by simpa using hle0)
   refine ⟨.tuple #[], w', ?_, E, ?_, ?_, FreshIn.refl _ _⟩
   ·rw [hR.wd_eq]
    obtain ⟨m, rfl⟩ : ∃ m, l = m + 1 := ⟨l - 1, by omega⟩
    simp [Builtin.clear_, run_underlying hd, zeroValue, typeInfo, hix, hx0, e1]
   ·simp only [VR]; exact ⟨[], rfl, by simp [VRl]⟩
   ·simpa [SF.upd] using e2
theorem sound_sliceData (h : HRel E F w) {ts : Array TypeId} {ty : TypeId} {x : PV} {x' : Value} {r : Res} (hs : semSliceData F x = some r) (hvc : r.vc) (hx : VR w (Zn E F w) E x x') :
  ∃ v', (Builtin.unsafeSliceData_ ts ty #[x']).run P w = .ok v' w ∧ Gives E F nx w r v' w := by
 unfold semSliceData at hs
 split at hs
 ·injection hs with hs; subst hs
  simp only [VR] at hx; subst hx
  exact ⟨.pointer none, rfl, Gives.still h rfl (by simp [mkRes, VR])⟩
 ·rename_i n r l
  split at hs
  rotate_left
  ·cases hs
  rename_i e wd own p rs hF
  injection hs with hs; subst hs
  obtain ⟨h1, h2⟩ := hvc
  simp only [VR] at hx
  obtain ⟨i, hi, ⟨_, h0, _⟩ | ⟨hz, rfl⟩⟩ := hx
  ·omega
  have hR := rowsRel_of h hF hi hz
  have hle := hR.le
  have hc : i.n - r ≠ 0 := by omega
  rw [offS_pos (by omega)]
  refine ⟨_, Lib.run_unsafeSliceData_row w ts ty ⟨i.b, i.o + r * i.wd, none⟩ l (i.n - r) hc, Gives.still h rfl ?_⟩
  simp only [VR]
  exact ⟨i, hi, hz, rfl⟩
 ·cases hs
theorem freeze_at {g : Nat} {cs : Array Value} {e : TypeId} {fz : Nat × Nat} (hb : w.heap[g]? = some (.cells cs e fz)) (n : Nat) (hn : n ≠ 0) : ∃ fz', (w.freeze ⟨g, 0, none⟩ n).heap[g]? = some (.cells cs e fz') := by
 unfold World.freeze
 rw [if_neg hn]
 obtain ⟨lo, hi⟩ := fz
 exact ⟨_, by simp [Array.getElem?_modify, hb]; rfl⟩
theorem freeze_ne {g k : Nat} (n : Nat) (hk : k ≠ g) : (w.freeze ⟨g, 0, none⟩ n).heap[k]? = w.heap[k]? := by
 unfold World.freeze
 split
 ·rfl
 ·simp [Array.getElem?_modify, Ne.symm hk]
theorem freeze_size (a : Addr) (n : Nat) : (w.freeze a n).heap.size = w.heap.size := by
 unfold World.freeze
 split <;> simp
theorem freeze_os (a : Addr) (n : Nat) : (w.freeze a n).os = w.os ∧ (w.freeze a n).tape = w.tape ∧ (w.freeze a n).output = w.output := by
 unfold World.freeze
 split <;> exact ⟨rfl, rfl, rfl⟩
theorem sound_ustring (hT : T.Ok P) (h : HRel E F w) {pt it ty : TypeId} {x y : PV} {x' y' : Value} {r : Res} (hs : semUString T F pt x y = some r) (hvc : r.vc) (hx : VR w (Zn E F w) E x x') (hy : VR w (Zn E F w) E y y') :
  ∃ v' w', (Builtin.unsafeString_ #[pt, it] ty #[x', y']).run P w = .ok v' w' ∧ Gives E F nx w r v' w' := by
 unfold semUString at hs
 split at hs
 ·injection hs with hs; subst hs
  simp only [VR] at hx hy; subst hx; subst hy
  simp only [mkRes] at hvc
  subst hvc
  exact ⟨.string .empty, w, Lib.run_unsafeString_none w pt it ty none, Gives.still h rfl (by simp [mkRes, VR, strV]; rfl)⟩
 ·rename_i nm n
  split at hs
  rotate_left
  ·cases hs
  rename_i e p rs e' zr sz by_ eq_ ls hF hpt
  split at hs
  rotate_left
  ·cases hs
  rename_i ei hei
  split at hs
  rotate_left
  ·cases hs
  rename_i hc
  simp only [Bool.and_eq_true, beq_iff_eq] at hc
  obtain ⟨rfl, hsz⟩ := hc
  injection hs with hs; subst hs
  obtain ⟨h0, h1, h2⟩ := hvc
  simp only [VR] at hx hy; subst hy
  obtain ⟨i, hi, hz, rfl⟩ := hx
  have hR := rowsRel_of h hF hi hz
  obtain ⟨cs, fz, b1, b2, b3, b4⟩ := hR.cells
  obtain ⟨zp, hzp⟩ := hT _ _ hpt
  obtain ⟨d, hd, hk⟩ := hzp.sx.desc
  obtain rfl := tk_ptr hk
  obtain ⟨ze, hze⟩ := hT _ _ hei
  obtain ⟨je, hje, _, hje2, _⟩ := hze.sx.info
  have hce : P.cellsOf e = 1 := by simp [Program.cellsOf, hje, hje2, hsz]
  have hw1 := hR.wd_eq
  have ho := hR.o0
  rw [ho] at b2 b4
  generalize hl : bytesP (rs.take n.toNat) = l at h2
  have hll : l.length = n.toNat := by
   rw [← hl]; simp [bytesP]; omega
  have hnn : n = (l.length : Int) := by omega
  have hle := hR.le
  have hcell : ∀ j x, l[j]? = some x → w.cell? ((⟨i.b, 0, none⟩ : Addr).add j) = some (.int .u8 x.toNat) := by
   intro j x hj
   have hjl := lt_of_get hj
   have hrow : rs[j]? = some (rowB x) := by
    have := congrArg (fun q : List (List PV) => q[j]?) h2
    simp only [List.getElem?_map, hj, Option.map_some, List.getElem?_take] at this
    rw [if_pos (by omega)] at this
    exact this
   obtain ⟨v, q1, _, q3⟩ := (VRr_iff hR.len).1 b4 j (rowB x) 0 (.int .u8 x.toNat) hrow rfl
   simp only [VR] at q3
   subst q3
   have e2 : w.cell? ((⟨i.b, 0, none⟩ : Addr).add j) = cs[0 + j]? := by
    unfold Addr.add World.cell?
    by_cases hq : j = 0
    ·subst hq; simp [b1]
    ·simp [hq, b1]
   rw [e2, ← q1]; congr 1; omega
  have hcap := hR.cap
  have hrun := Lib.run_unsafeString_row (P := P) w pt it ty e hd hce i.b cs.size (by simp [World.shape?, b1]) l (by intro e; rw [e] at hll; simp at hll; omega) (by omega) (by unfold maxLen at hcap; omega) hcell
  have e3 : (⟨i.b, i.o + (0 * i.wd + 0), none⟩ : Addr) = ⟨i.b, 0, none⟩ := by rw [ho]; simp
  rw [e3, hnn]
  refine ⟨_, _, hrun, E, ?_, ?_, FreshIn.refl _ _⟩
  ·simp only [VR]
   rfl
  ·obtain ⟨fz', hf⟩ := freeze_at b1 l.length (by omega)
   obtain ⟨o1, o2, o3⟩ := freeze_os (w := w) ⟨i.b, 0, none⟩ l.length
   refine StepR.release h hF rfl rfl hi hz (fun k hk => freeze_ne _ hk) (freeze_size _ _) o1 o2 o3 fun hX => ?_
   refine ⟨i, hi, .inr ⟨hz, hR.wd_eq, hR.o0, hR.wd_pos, hR.len, hR.le, hR.cap, cs, fz', hf, by rw [ho]; exact b2, (fun h => by cases h), ?_⟩⟩
   rw [ho]
   exact VRr.mono (hX.EE p) _ _ _ b4
 ·cases hs
end
end Go.Tx
end
section
namespace Go.Tx
open Go.Sx (TK tk isAggK cellsOf cellsOf_eq lt_of_get getD_of_lt notYield)
def optVal (ρ : Operand → Option PV) : Option Operand → Option (Option PV)
 | none => some none
 | some o => (ρ o).map some
def vals (ρ : Operand → Option PV) : List Operand → Option (List PV)
 | [] => some []
 | x :: l => (ρ x).bind fun v => (vals ρ l).map fun l' => v :: l'
def partsV (ρ : Operand → Option PV) : List (Nat × Operand) → Option (List (Nat × PV))
 | [] => some []
 | x :: l => (ρ x.2).bind fun v => (partsV ρ l).map fun l' => (x.1, v) :: l'
def semCall (T : Tys) (ρ : Operand → Option PV) (F : SF) (nx : Nm) (c : Call) : Option Res :=
 match c.callee with
 | .builtin b =>
  match b, c.args.toList, c.argTypes.toList with
  | .len, [x], [t] => (ρ x).bind (semLen T F t)
  | .append, [s, x], [t, xt] => (ρ s).bind fun a => (ρ x).bind fun b => semAppend T F nx t xt a b
  | .min, [x, y], _ => (ρ x).bind fun a => (ρ y).bind fun b => semMin false a b
  | .max, [x, y], _ => (ρ x).bind fun a => (ρ y).bind fun b => semMin true a b
  | .unsafeSliceData, [x], _ => (ρ x).bind (semSliceData F)
  | .clear, [x], [t] => (ρ x).bind (semClear T F t)
  | .unsafeString, [x, y], [t, _] => (ρ x).bind fun a => (ρ y).bind fun b => semUString T F t a b
  | _, _, _ => none
 | _ => none
def semOp (T : Tys) (wr : Bool) (ρ : Operand → Option PV) (F : SF) (nx : Nm) : Op → Option Res
 | .move x => (ρ x).map (mkRes True)
 | .assign x => (ρ x).map (mkRes True)
 | .pick c a b => (ρ c).bind fun c => (ρ a).bind fun a => (ρ b).bind fun b => semPick c a b
 | .alloc t => semAlloc T nx t
 | .box t x => (ρ x).bind fun v => semBox T nx t v
 | .build t parts => (partsV ρ parts.toList).bind (semBuild T t)
 | .buildSlice t len parts => (partsV ρ parts.toList).bind (semBuildSlice T nx t len)
 | .load t a => (ρ a).bind (semLoad T F t)
 | .store t a x => (ρ a).bind fun p => (ρ x).bind fun v => semStore T F t p v
 | .nilCheck x => (ρ x).bind semNilCheck
 | .binOp op t x y _ => (ρ x).bind fun a => (ρ y).bind fun b => (semBin T wr op t a b).map fun q => mkRes q.1 q.2
 | .unOp op _ x => (ρ x).bind (semUn wr op)
 | .convert src dst x => (ρ x).bind (semConv T F nx src dst)
 | .makeInterface t x => (ρ x).bind fun v => match T.get t with | some { k := .iface, .. } => none | some _ => some (mkRes True (.ifc t v)) | none => none
 | .makeFunc fn first captured => if notYield fn = false then none else (vals ρ first.toList).bind fun a => (vals ρ captured.toList).map fun b => mkRes True (.fn fn a b)
 | .makeSlice t l c => (ρ l).bind fun l => (ρ c).bind fun c => semMakeSlice T nx t l c
 | .slice t x lo hi mx => (ρ x).bind fun x => (optVal ρ lo).bind fun lo => (optVal ρ hi).bind fun hi => (optVal ρ mx).bind fun mx => semSlice T F t x lo hi mx
 | .fieldAddr s x f => (ρ x).bind fun x => semField T s x f
 | .indexAddr t x i => (ρ x).bind fun x => (ρ i).bind fun i => semIndexAddr T F t x i
 | .index t x i => (ρ x).bind fun x => (ρ i).bind fun i => semIndex T t x i
 | .extract x i => (ρ x).bind fun x => semExtract x i
 | .makeMap t none => semMakeMap T nx t
 | .lookup t x i ok => (ρ x).bind fun x => (ρ i).bind fun i => semLookup T F t x i ok
 | .mapUpdate t m k v => (ρ m).bind fun m => (ρ k).bind fun k => (ρ v).bind fun v => semMapUpdate T F t m k v
 | .call c => semCall T ρ F nx c
 | _ => none
section
variable {P : Program} {T : Tys} {E : Env} {F : SF} {nx : Nm} {w : World}
def RRel (w : World) (Z : Nat → Prop) (E : Env) (ρ : Operand → Option PV) (ρ' : Operand → Value) : Prop := ∀ x v, ρ x = some v → VR w Z E v (ρ' x)
theorem vals_rel {Z : Nat → Prop} {ρ : Operand → Option PV} {ρ' : Operand → Value} (hρ : RRel w Z E ρ ρ') : ∀ {l : List Operand} {vs : List PV}, vals ρ l = some vs → VRl w Z E vs (l.map ρ')
 | [], vs, h => by simp [vals] at h; subst h; simp [VRl]
 | x :: l, vs, h => by
  simp only [vals, Option.bind_eq_some_iff, Option.map_eq_some_iff] at h
  obtain ⟨v, h1, l', h2, rfl⟩ := h
  simp only [VRl, List.map_cons]
  exact ⟨_, _, rfl, hρ _ _ h1, vals_rel hρ h2⟩
theorem partsV_rel {Z : Nat → Prop} {ρ : Operand → Option PV} {ρ' : Operand → Value} (hρ : RRel w Z E ρ ρ') : ∀ {l : List (Nat × Operand)} {vs : List (Nat × PV)}, partsV ρ l = some vs → PRel w Z E vs (l.map fun x => (x.1, ρ' x.2))
 | [], vs, h => by simp [partsV] at h; subst h; exact .nil
 | x :: l, vs, h => by
  simp only [partsV, Option.bind_eq_some_iff, Option.map_eq_some_iff] at h
  obtain ⟨v, h1, l', h2, rfl⟩ := h
  exact .cons (hρ _ _ h1) (partsV_rel hρ h2)
theorem optVal_rel {Z : Nat → Prop} {ρ : Operand → Option PV} {ρ' : Operand → Value} (hρ : RRel w Z E ρ ρ') {o : Option Operand} {v : Option PV} (h : optVal ρ o = some v) : BndR v (o.map ρ') := by
 cases o with
 | none => simp [optVal] at h; subst h; rfl
 | some x =>
  simp only [optVal, Option.map_eq_some_iff] at h
  obtain ⟨u, h1, rfl⟩ := h
  have := hρ _ _ h1
  cases u <;> first | trivial | (simp only [VR] at this; simp [BndR, this])
theorem lands_value {K : Value → World → Prop} {s : Sem Value} {v' : Value} {w' : World} (hr : s.run P w = .ok v' w') (hk : K v' w') : Lands P K ((do pure (.value (← s)) : Sem Next).run P w) := by
 simp [hr, Lands, Sx.Lands, hk]
theorem sound_call (hT : T.Ok P) (h : HRel E F w) (hE0 : E nx = none) {ρ : Operand → Option PV} {ρ' : Operand → Value} (hρ : RRel w (Zn E F w) E ρ ρ') {c : Call} {ty : TypeId} {r : Res}
  (hs : semCall T ρ F nx c = some r) (hvc : r.vc) : Lands P (fun v' w' => Gives E F nx w r v' w') ((do let d ← resolve ρ' c ty; invoke d.target d.args : Sem Next).run P w) := by
 obtain ⟨callee, ⟨args⟩, ⟨argTypes⟩⟩ := c
 unfold semCall at hs
 split at hs
 rotate_left
 ·cases hs
 rename_i b hc
 simp only at hc
 subst hc
 split at hs
 ·rename_i x t ha ht
  simp only at ha ht
  subst ha; subst ht
  simp only [Option.bind_eq_some_iff] at hs
  obtain ⟨a, h1, h2⟩ := hs
  obtain ⟨v', r1, r2⟩ := sound_len (P := P) (nx := nx) (ty := ty) hT h h2 (hρ _ _ h1)
  simp only [resolve, invoke, builtin, Sem.run_bind, Sem.run_pure, Result.andThen_ok, List.map_toArray, List.map_cons, List.map_nil, r1]
  exact r2
 ·rename_i s x t xt ha ht
  simp only at ha ht
  subst ha; subst ht
  simp only [Option.bind_eq_some_iff] at hs
  obtain ⟨a, h1, b, h2, h3⟩ := hs
  obtain ⟨v', w', r1, r2⟩ := sound_append (ty := ty) hT h hE0 h3 hvc (hρ _ _ h1) (hρ _ _ h2)
  simp only [resolve, invoke, builtin, Sem.run_bind, Sem.run_pure, Result.andThen_ok, List.map_toArray, List.map_cons, List.map_nil, r1]
  exact r2
 ·rename_i x y ha
  simp only at ha
  subst ha
  simp only [Option.bind_eq_some_iff] at hs
  obtain ⟨a, h1, b, h2, h3⟩ := hs
  obtain ⟨v', r1, r2⟩ := sound_min (P := P) (nx := nx) (ty := ty) (ts := argTypes.toArray) h h3 (hρ _ _ h1) (hρ _ _ h2)
  simp only [Bool.false_eq_true, if_false] at r1
  simp only [resolve, invoke, builtin, Sem.run_bind, Sem.run_pure, Result.andThen_ok, List.map_toArray, List.map_cons, List.map_nil, r1]
  exact r2
 ·rename_i x y ha
  simp only at ha
  subst ha
  simp only [Option.bind_eq_some_iff] at hs
  obtain ⟨a, h1, b, h2, h3⟩ := hs
  obtain ⟨v', r1, r2⟩ := sound_min (P := P) (nx := nx) (ty := ty) (ts := argTypes.toArray) h h3 (hρ _ _ h1) (hρ _ _ h2)
  simp only [if_true] at r1
  simp only [resolve, invoke, builtin, Sem.run_bind, Sem.run_pure, Result.andThen_ok, List.map_toArray, List.map_cons, List.map_nil, r1]
  exact r2
 ·rename_i x ha
  simp only at ha
  subst ha
  simp only [Option.bind_eq_some_iff] at hs
  obtain ⟨a, h1, h2⟩ := hs
  obtain ⟨v', r1, r2⟩ := sound_sliceData (P := P) (nx := nx) (ty := ty) (ts := argTypes.toArray) h h2 hvc (hρ _ _ h1)
  simp only [resolve, invoke, builtin, Sem.run_bind, Sem.run_pure, Result.andThen_ok, List.map_toArray, List.map_cons, List.map_nil, r1]
  exact r2
 ·rename_i x t ha ht
  simp only at ha ht
  subst ha; subst ht
  simp only [Option.bind_eq_some_iff] at hs
  obtain ⟨a, h1, h2⟩ := hs
  obtain ⟨v', w', r1, r2⟩ := sound_clear (P := P) (nx := nx) (ty := ty) hT h h2 hvc (hρ _ _ h1)
  simp only [resolve, invoke, builtin, Sem.run_bind, Sem.run_pure, Result.andThen_ok, List.map_toArray, List.map_cons, List.map_nil, r1]
  exact r2
 ·rename_i x y t t2 ha ht
  simp only at ha ht
  subst ha; subst ht
  simp only [Option.bind_eq_some_iff] at hs
  obtain ⟨a, h1, b, h2, h3⟩ := hs
  obtain ⟨v', w', r1, r2⟩ := sound_ustring (P := P) (nx := nx) (it := t2) (ty := ty) hT h h3 hvc (hρ _ _ h1) (hρ _ _ h2)
  simp only [resolve, invoke, builtin, Sem.run_bind, Sem.run_pure, Result.andThen_ok, List.map_toArray, List.map_cons, List.map_nil, r1]
  exact r2
 ·cases hs
set_option maxHeartbeats 400000 in
theorem sound_op (hT : T.Ok P) (hA : AllFields T) (h : HRel E F w) (hE0 : E nx = none) {wr : Bool} {ρ : Operand → Option PV} {ρ' : Operand → Value} (hρ : RRel w (Zn E F w) E ρ ρ') {o : Oper} {r : Res}
  (hs : semOp T wr ρ F nx o.op = some r) (hvc : r.vc) : Lands P (fun v' w' => Gives E F nx w r v' w') ((execOp ρ' o).run P w) := by
 unfold execOp
 cases ho : o.op <;> rw [ho] at hs <;> simp only [semOp] at hs <;> try (cases hs; done)
 case move x =>
  simp only [Option.map_eq_some_iff] at hs
  obtain ⟨v, h1, rfl⟩ := hs
  exact Gives.still h rfl (hρ _ _ h1)
 case assign x =>
  simp only [Option.map_eq_some_iff] at hs
  obtain ⟨v, h1, rfl⟩ := hs
  exact Gives.still h rfl (hρ _ _ h1)
 case pick c a b =>
  simp only [Option.bind_eq_some_iff] at hs
  obtain ⟨vc, h1, va, h2, vb, h3, h4⟩ := hs
  obtain ⟨v', r1, r2⟩ := sound_pick (P := P) (nx := nx) h h4 hvc (hρ _ _ h1) (hρ _ _ h2) (hρ _ _ h3)
  have : (do pure (.value (if ← asBool (ρ' c) then ρ' a else ρ' b)) : Sem Next).run P w = .ok (.value v') w := by
   simp only [Sem.run_bind, Sem.run_pure] at r1 ⊢
   cases hb : (asBool (ρ' c)).run P w with
   | ok b w2 => rw [hb] at r1; simp only [Result.andThen_ok] at r1 ⊢; injection r1 with r1 r3; subst r1; subst r3; rfl
   | halt x w2 => rw [hb] at r1; cases r1
  simp only [this]
  exact r2
 case alloc t =>
  obtain ⟨v', w', r1, r2⟩ := sound_alloc hT h hE0 hs
  exact lands_value r1 r2
 case box t x =>
  simp only [Option.bind_eq_some_iff] at hs
  obtain ⟨v, h1, h2⟩ := hs
  obtain ⟨v', w', r1, r2⟩ := sound_box (P := P) h hE0 h2 hvc (hρ _ _ h1)
  exact lands_value r1 r2
 case build t parts =>
  simp only [Option.bind_eq_some_iff] at hs
  obtain ⟨ps, h1, h2⟩ := hs
  obtain ⟨v', r1, r2⟩ := sound_build (nx := nx) hT hA h h2 hvc (partsV_rel hρ h1)
  have hparts : (parts.map fun (i, x) => (i, ρ' x)) = (parts.toList.map fun x => (x.1, ρ' x.2)).toArray := by apply Array.ext'; simp
  simp only [hparts, Sem.run_bind, r1, Result.andThen_ok, Sem.run_pure]
  exact r2
 case buildSlice t len parts =>
  simp only [Option.bind_eq_some_iff] at hs
  obtain ⟨ps, h1, h2⟩ := hs
  obtain ⟨v', w', r1, r2⟩ := sound_buildSlice hT h hE0 h2 hvc (partsV_rel hρ h1)
  have hparts : (parts.map fun (i, x) => (i, ρ' x)) = (parts.toList.map fun x => (x.1, ρ' x.2)).toArray := by apply Array.ext'; simp
  simp only [hparts, Sem.run_bind, r1, Result.andThen_ok, Sem.run_pure]
  exact r2
 case load t a =>
  simp only [Option.bind_eq_some_iff] at hs
  obtain ⟨v, h1, h2⟩ := hs
  obtain ⟨v', r1, r2⟩ := sound_load (nx := nx) hT h h2 hvc (hρ _ _ h1)
  exact lands_value r1 r2
 case store t a x =>
  simp only [Option.bind_eq_some_iff] at hs
  obtain ⟨p, h1, v, h2, h3⟩ := hs
  obtain ⟨w', r1, r2⟩ := sound_store (nx := nx) hT h h3 hvc (hρ _ _ h1) (hρ _ _ h2)
  simp only [Sem.run_bind, r1, Result.andThen_ok, Sem.run_pure]
  exact r2
 case makeMap t hint =>
  cases hint with
  | none =>
   obtain ⟨v', w', r1, r2⟩ := sound_makeMap (P := P) h hE0 hs
   simp only [Option.map_none]
   exact lands_value r1 r2
  | some x => cases hs
 case lookup t x i ok =>
  simp only [Option.bind_eq_some_iff] at hs
  obtain ⟨a, h1, b, h2, h3⟩ := hs
  obtain ⟨v', r1, r2⟩ := sound_lookup (P := P) (nx := nx) hT h h3 hvc (hρ _ _ h1) (hρ _ _ h2)
  exact lands_value r1 r2
 case mapUpdate t m k x =>
  simp only [Option.bind_eq_some_iff] at hs
  obtain ⟨a, h1, b, h2, c, h3, h4⟩ := hs
  obtain ⟨w', r1, r2⟩ := sound_mapUpdate (P := P) (nx := nx) hT h h4 hvc (hρ _ _ h1) (hρ _ _ h2) (hρ _ _ h3)
  simp only [Sem.run_bind, r1, Result.andThen_ok, Sem.run_pure]
  exact r2
 case nilCheck x =>
  simp only [Option.bind_eq_some_iff] at hs
  obtain ⟨v, h1, h2⟩ := hs
  have hd := hρ _ _ h1
  unfold semNilCheck at h2
  split at h2
  ·injection h2 with h2; subst h2
   have hd0 := hd
   simp only [VR] at hd
   obtain ⟨i, _, _, he⟩ := hd
   simp only [he]
   rw [he] at hd0
   exact Gives.still h rfl hd0
  ·injection h2 with h2; subst h2
   have hd0 := hd
   simp only [VR] at hd
   obtain ⟨b, o, cs, e, fz, he, _⟩ := hd
   simp only [he]
   rw [he] at hd0
   exact Gives.still h rfl hd0
  ·cases h2
 case binOp op t x y yt =>
  simp only [Option.bind_eq_some_iff, Option.map_eq_some_iff] at hs
  obtain ⟨a, h1, b, h2, ⟨p, v⟩, h3, rfl⟩ := hs
  obtain ⟨v', r1, r2⟩ := sound_bin (P := P) (w := w) hT x y h3 hvc (hρ _ _ h1) (hρ _ _ h2)
  exact lands_value r1 (Gives.still h rfl r2)
 case unOp op t x =>
  simp only [Option.bind_eq_some_iff] at hs
  obtain ⟨a, h1, h2⟩ := hs
  obtain ⟨v', r1, r2⟩ := sound_un (P := P) (nx := nx) h h2 hvc (hρ _ _ h1)
  exact lands_value r1 r2
 case convert src dst x =>
  simp only [Option.bind_eq_some_iff] at hs
  obtain ⟨a, h1, h2⟩ := hs
  obtain ⟨v', w', r1, r2⟩ := sound_conv hT h hE0 h2 hvc (hρ _ _ h1)
  exact lands_value r1 r2
 case makeInterface t x =>
  simp only [Option.bind_eq_some_iff] at hs
  obtain ⟨a, h1, h2⟩ := hs
  split at h2
  ·cases h2
  ·rename_i ti hni hti
   injection h2 with h2; subst h2
   obtain ⟨z, ht⟩ := hT _ _ hti
   obtain ⟨d, hd, hk⟩ := ht.run_underlying w
   refine lands_value (s := Instr.makeInterface t (ρ' x)) (v' := .iface t (ρ' x)) (w' := w) ?_ (Gives.still h rfl (by simp only [mkRes, VR]; exact ⟨_, rfl, hρ _ _ h1⟩))
   simp only [Instr.makeInterface, Sem.run_bind, hd, Result.andThen_ok]
   cases d <;> first | rfl | skip
   exfalso
   simp only [tk] at hk
   cases ti with
   | mk k z s b e => simp only at hk; subst hk; exact hni _ _ _ _ _ rfl
  ·cases h2
 case makeFunc fn first captured =>
  split at hs
  ·cases hs
  simp only [Option.bind_eq_some_iff, Option.map_eq_some_iff] at hs
  obtain ⟨a, h1, b, h2, rfl⟩ := hs
  refine lands_value (s := Instr.makeFunc fn (first.map ρ') (captured.map ρ')) (v' := .func fn (first.map ρ') (captured.map ρ')) (w' := w) rfl (Gives.still h rfl ?_)
  simp only [mkRes, VR]
  exact ⟨first.toList.map ρ', captured.toList.map ρ', by congr 1 <;> (apply Array.ext'; simp), vals_rel hρ h1, vals_rel hρ h2⟩
 case makeSlice t l c =>
  simp only [Option.bind_eq_some_iff] at hs
  obtain ⟨a, h1, b, h2, h3⟩ := hs
  obtain ⟨v', w', r1, r2⟩ := sound_makeSlice hT h hE0 h3 hvc (hρ _ _ h1) (hρ _ _ h2)
  exact lands_value r1 r2
 case slice t x lo hi mx =>
  simp only [Option.bind_eq_some_iff] at hs
  obtain ⟨a, h1, lo', h2, hi', h3, mx', h4, h5⟩ := hs
  have hm : mx' = none → mx.map ρ' = none := fun hm => by subst hm; exact optVal_rel hρ h4
  obtain ⟨v', r1, r2⟩ := sound_slice (nx := nx) hT h h5 hvc (hρ _ _ h1) (optVal_rel hρ h2) (optVal_rel hρ h3) hm
  exact lands_value r1 r2
 case fieldAddr s x f =>
  simp only [Option.bind_eq_some_iff] at hs
  obtain ⟨a, h1, h2⟩ := hs
  obtain ⟨v', r1, r2⟩ := sound_field (nx := nx) hT h h2 (hρ _ _ h1)
  exact lands_value r1 r2
 case indexAddr t x i =>
  simp only [Option.bind_eq_some_iff] at hs
  obtain ⟨a, h1, b, h2, h3⟩ := hs
  obtain ⟨v', r1, r2⟩ := sound_indexAddr (nx := nx) hT h h3 hvc (hρ _ _ h1) (hρ _ _ h2)
  exact lands_value r1 r2
 case index t x i =>
  simp only [Option.bind_eq_some_iff] at hs
  obtain ⟨a, h1, b, h2, h3⟩ := hs
  obtain ⟨v', r1, r2⟩ := sound_index (nx := nx) hT h h3 hvc (hρ _ _ h1) (hρ _ _ h2)
  exact lands_value r1 r2
 case extract x i =>
  simp only [Option.bind_eq_some_iff] at hs
  obtain ⟨a, h1, h2⟩ := hs
  obtain ⟨v', r1, r2⟩ := sound_extract (P := P) (nx := nx) h h2 (hρ _ _ h1)
  exact lands_value r1 r2
 case call c => exact sound_call hT h hE0 hρ hs hvc
end
end Go.Tx
end
section
namespace Go.Tx
section
variable {T : Tys} {F F' : SF} {nx : Nm} {r : Res}
theorem semLoadR_rd (i : TI) (wd : Nat) (rs : List (List PV)) (row c : Nat) (rd : List Nm) : (semLoadR i wd rs row c rd).rd = rd := by unfold semLoadR; split <;> rfl
theorem loc_load {t : TypeId} {v : PV} (h : semLoad T F t v = some r) (hl : ∀ n ∈ r.rd, F' n = F n) : semLoad T F' t v = some r := by
 unfold semLoad at h ⊢
 split at h
 ·rename_i n row c
  try simp only
  split at h
  rotate_left
  ·cases h
  rename_i i e wd own p rs hti hF
  have hn : n ∈ r.rd := by injection h with h; subst h; rw [semLoadR_rd]; simp
  try rw [hti]
  rw [hl n hn, hF]
  exact h
 ·exact h
 ·cases h
theorem loc_store {t : TypeId} {p v : PV} (h : semStore T F t p v = some r) (hl : ∀ n ∈ r.rd, F' n = F n) : semStore T F' t p v = some r := by
 unfold semStore at h ⊢
 split at h
 rotate_left
 ·cases h
 rename_i n row c
 try simp only
 split at h
 rotate_left
 ·cases h
 rename_i i e wd ex rs vs hti hF hv
 have hn : n ∈ r.rd := by injection h with h; subst h; simp
 try rw [hti]
 rw [hl n hn, hF]
 first | exact h | (rw [hv]; exact h)
theorem loc_indexAddr {t : TypeId} {x i : PV} (h : semIndexAddr T F t x i = some r) (hl : ∀ n ∈ r.rd, F' n = F n) : semIndexAddr T F' t x i = some r := by
 unfold semIndexAddr at h ⊢
 split at h
 rotate_left
 ·cases h
 try simp only
 split at h
 ·rename_i hti
  try rw [hti]
  try simp only
  split at h
  rotate_left
  ·cases h
  rename_i ei hei
  try simp only [hei]
  split at h
  ·rename_i n row l
   try simp only
   split at h
   rotate_left
   ·cases h
   rename_i e0 wd own ex rs hF
   have hn : n ∈ r.rd := by
    split at h
    ·injection h with h; subst h; simp
    ·cases h
   rw [hl n hn, hF]
   exact h
  ·exact h
  ·cases h
 ·rename_i hti
  try rw [hti]
  exact h
 ·cases h
theorem loc_slice {t : TypeId} {x : PV} {lo hi mx : Option PV} (h : semSlice T F t x lo hi mx = some r) (hl : ∀ n ∈ r.rd, F' n = F n) : semSlice T F' t x lo hi mx = some r := by
 unfold semSlice at h ⊢
 split at h
 ·rename_i hti; first | exact h | (rw [hti]; exact h)
 ·rename_i hti
  try rw [hti]
  try simp only
  split at h
  rotate_left
  ·cases h
  rename_i ei hei
  try simp only [hei]
  split at h
  ·rename_i n row len
   try simp only
   split at h
   rotate_left
   ·cases h
   rename_i e0 wd own p rs l hh hF hl' hhh
   have hn : n ∈ r.rd := by
    split at h
    ·injection h with h; subst h; simp
    ·cases h
   rw [hl n hn, hF]
   first | exact h | (rw [hl', hhh]; exact h)
  ·exact h
  ·exact h
  ·cases h
 ·cases h
theorem loc_conv {src dst : TypeId} {x : PV} (h : semConv T F nx src dst x = some r) (hl : ∀ n ∈ r.rd, F' n = F n) : semConv T F' nx src dst x = some r := by
 unfold semConv at h ⊢
 split at h
 rotate_left
 ·cases h
 rename_i si di hsi hdi
 try rw [hsi, hdi]
 try simp only
 split at h
 ·rename_i h1 h2; first | exact h | (rw [h1, h2]; exact h)
 ·rename_i h1 h2; first | exact h | (rw [h1, h2]; exact h)
 ·rename_i e h1 h2
  try rw [h1, h2]
  try simp only
  split at h
  rotate_left
  ·cases h
  rename_i hei
  try rw [hei]
  try simp only
  split at h
  ·rename_i n row l
   try simp only
   split at h
   rotate_left
   ·cases h
   rename_i hF
   have hn : n ∈ r.rd := by
    split at h
    ·injection h with h; subst h; simp
    ·cases h
   rw [hl n hn, hF]
   exact h
  ·exact h
  ·exact h
  ·cases h
 ·rename_i h1 h2; first | exact h | (rw [h1, h2]; exact h)
 ·rename_i t0 h1 h2
  try rw [h1, h2]
  try simp only
  split at h
  rotate_left
  ·cases h
  rename_i n r' c
  try simp only
  split at h
  rotate_left
  ·cases h
  rename_i hF hti
  split at h
  ·cases h
  rename_i hz
  have := h
  injection this with this
  rw [hl n (by rw [← this]; simp), hF, hti]
  simp only
  rw [if_neg hz]
  exact h
 ·rename_i u h1 h2
  try rw [h1, h2]
  try simp only
  split at h
  rotate_left
  ·cases h
  rename_i n r' c
  try simp only
  split at h
  rotate_left
  ·cases h
  rename_i hF
  split at h
  rotate_left
  ·cases h
  rename_i hei hu
  split at h
  rotate_left
  ·cases h
  rename_i hz
  have := h
  injection this with this
  rw [hl n (by rw [← this]; simp), hF]
  simp only [hei, hu]
  rw [if_pos hz]
  exact h
 ·cases h
theorem loc_len {t : TypeId} {x : PV} (h : semLen T F t x = some r) (hl : ∀ n ∈ r.rd, F' n = F n) : semLen T F' t x = some r := by
 unfold semLen at h ⊢
 split at h
 ·rename_i hti; first | exact h | (rw [hti]; exact h)
 ·rename_i hti; first | exact h | (rw [hti]; exact h)
 ·rename_i hti
  try rw [hti]
  try simp only
  split at h
  ·rename_i q
   try simp only
   split at h
   rotate_left
   ·cases h
   rename_i hF
   have hn : q ∈ r.rd := by injection h with h; subst h; simp
   rw [hl q hn, hF]
   exact h
  ·exact h
  ·cases h
 ·rename_i hti; first | exact h | (rw [hti]; exact h)
 ·cases h
theorem loc_src {size : Nat} {xt : TypeId} {x : PV} {q : Prop} {p : Bool} {xs : List (List PV)} {rd : List Nm} (h : srcRows T F size xt x = some (q, p, xs, rd)) (hl : ∀ n ∈ rd, F' n = F n) : srcRows T F' size xt x = some (q, p, xs, rd) := by
 unfold srcRows at h ⊢
 split at h
 ·rename_i hti
  try rw [hti]
  try simp only
  split at h
  ·rename_i m row l
   try simp only
   split at h
   rotate_left
   ·cases h
   rename_i hF
   have hn : m ∈ rd := by
    split at h
    ·simp only [Option.some.injEq, Prod.mk.injEq] at h
     rw [← h.2.2.2]; simp
    ·cases h
   rw [hl m hn, hF]
   exact h
  ·exact h
  ·exact h
  ·cases h
 ·rename_i hti; first | exact h | (rw [hti]; exact h)
 ·cases h
theorem loc_append {t xt : TypeId} {s x : PV} (h : semAppend T F nx t xt s x = some r) (hl : ∀ n ∈ r.rd, F' n = F n) : semAppend T F' nx t xt s x = some r := by
 unfold semAppend at h ⊢
 split at h
 rotate_left
 ·cases h
 rename_i hti
 try rw [hti]
 try simp only
 split at h
 rotate_left
 ·cases h
 rename_i ei hei
 try simp only [hei]
 split at h
 ·cases h
 rename_i hc
 rw [if_neg hc]
 split at h
 ·cases h
 rename_i q px xs rd hsrc
 split at h
 ·have hl2 : ∀ n ∈ rd, F' n = F n := by injection h with h; subst h; exact hl
  rw [loc_src hsrc hl2]
  exact h
 ·rename_i n l
  split at h
  rotate_left
  ·cases h
  rename_i e' wd p rs hF
  split at h
  rotate_left
  ·cases h
  rename_i hc2
  have hrd : r.rd = n :: rd := by split at h <;> (injection h with h; subst h; rfl)
  rw [hrd] at hl
  rw [loc_src hsrc (fun m hm => hl m (by simp [hm]))]
  try simp only
  rw [hl n (by simp), hF]
  try simp only
  rw [if_pos hc2]
  exact h
 ·cases h
theorem loc_sliceData {x : PV} (h : semSliceData F x = some r) (hl : ∀ n ∈ r.rd, F' n = F n) : semSliceData F' x = some r := by
 unfold semSliceData at h ⊢
 split at h
 ·exact h
 ·split at h
  rotate_left
  ·cases h
  rename_i hF
  have := h
  injection this with this
  rw [hl _ (by rw [← this]; simp), hF]
  exact h
 ·cases h
theorem loc_ustring {pt : TypeId} {x y : PV} (h : semUString T F pt x y = some r) (hl : ∀ n ∈ r.rd, F' n = F n) : semUString T F' pt x y = some r := by
 unfold semUString at h ⊢
 split at h
 ·exact h
 ·split at h
  rotate_left
  ·cases h
  rename_i hF hp
  split at h
  rotate_left
  ·cases h
  rename_i he
  split at h
  rotate_left
  ·cases h
  rename_i hc
  have := h
  injection this with this
  rw [hl _ (by rw [← this]; simp), hF, hp]
  simp only [he]
  rw [if_pos hc]
  exact h
 ·cases h
theorem loc_clear {t : TypeId} {x : PV} (h : semClear T F t x = some r) (hl : ∀ n ∈ r.rd, F' n = F n) : semClear T F' t x = some r := by
 unfold semClear at h ⊢
 split at h
 rotate_left
 ·cases h
 rename_i n r0 l
 split at h
 rotate_left
 ·cases h
 rename_i e _ _ _ _ _ hti
 try simp only [hti]
 split at h
 rotate_left
 ·cases h
 rename_i ei hei
 try simp only [hei]
 split at h
 rotate_left
 ·cases h
 rename_i e' wd p rs hF
 split at h
 rotate_left
 ·cases h
 rename_i hc
 have hrd : r.rd = [n] := by injection h with h; subst h; rfl
 rw [hrd] at hl
 rw [hl n (by simp), hF]
 try simp only
 rw [if_pos hc]
 exact h
theorem loc_call {ρ : Operand → Option PV} {c : Call} (h : semCall T ρ F nx c = some r) (hl : ∀ n ∈ r.rd, F' n = F n) : semCall T ρ F' nx c = some r := by
 unfold semCall at h ⊢
 split at h
 rotate_left
 ·cases h
 rename_i b hc
 try simp only
 split at h
 ·simp only [Option.bind_eq_some_iff] at h ⊢
  obtain ⟨v, q1, q2⟩ := h
  exact ⟨v, q1, loc_len q2 hl⟩
 ·simp only [Option.bind_eq_some_iff] at h ⊢
  obtain ⟨v, q1, u, q2, q3⟩ := h
  exact ⟨v, q1, u, q2, loc_append q3 hl⟩
 ·exact h
 ·exact h
 ·simp only [Option.bind_eq_some_iff] at h ⊢
  obtain ⟨v, q1, q2⟩ := h
  exact ⟨v, q1, loc_sliceData q2 hl⟩
 ·simp only [Option.bind_eq_some_iff] at h ⊢
  obtain ⟨v, q1, q2⟩ := h
  exact ⟨v, q1, loc_clear q2 hl⟩
 ·simp only [Option.bind_eq_some_iff] at h ⊢
  obtain ⟨v, q1, u, q2, q3⟩ := h
  exact ⟨v, q1, u, q2, loc_ustring q3 hl⟩
 ·cases h
end
end Go.Tx
end
section
namespace Go.Tx
section
variable {T : Tys} {F F' : SF} {nx : Nm} {r : Res}
theorem loc_op {wr : Bool} {ρ : Operand → Option PV} {o : Op} (h : semOp T wr ρ F nx o = some r) (hl : ∀ n ∈ r.rd, F' n = F n) : semOp T wr ρ F' nx o = some r := by
 cases o <;> simp only [semOp] at h ⊢
 case load t a =>
  simp only [Option.bind_eq_some_iff] at h ⊢
  obtain ⟨v, q1, q2⟩ := h
  exact ⟨v, q1, loc_load q2 hl⟩
 case store t a x =>
  simp only [Option.bind_eq_some_iff] at h ⊢
  obtain ⟨v, q1, u, q2, q3⟩ := h
  exact ⟨v, q1, u, q2, loc_store q3 hl⟩
 case convert s d x =>
  simp only [Option.bind_eq_some_iff] at h ⊢
  obtain ⟨v, q1, q2⟩ := h
  exact ⟨v, q1, loc_conv q2 hl⟩
 case slice t x lo hi mx =>
  simp only [Option.bind_eq_some_iff] at h ⊢
  obtain ⟨v, q1, a, q2, b, q3, c, q4, q5⟩ := h
  exact ⟨v, q1, a, q2, b, q3, c, q4, loc_slice q5 hl⟩
 case indexAddr t x i =>
  simp only [Option.bind_eq_some_iff] at h ⊢
  obtain ⟨v, q1, u, q2, q3⟩ := h
  exact ⟨v, q1, u, q2, loc_indexAddr q3 hl⟩
 case lookup t x i ok =>
  simp only [Option.bind_eq_some_iff] at h ⊢
  obtain ⟨v, q1, u, q2, q3⟩ := h
  refine ⟨v, q1, u, q2, ?_⟩
  unfold semLookup at q3 ⊢
  split at q3
  rotate_left
  ·cases q3
  rename_i hti
  try rw [hti]
  try simp only
  split at q3
  rotate_left
  ·cases q3
  rename_i ei hki hei
  try rw [hki, hei]
  try simp only
  split at q3
  ·rename_i rr
   split at q3
   rotate_left
   ·cases q3
   rename_i hF
   have hrr : rr ∈ r.rd := by injection q3 with q3; subst q3; simp [lookRes]
   try simp only
   rw [hl rr hrr, hF]
   exact q3
  ·exact q3
  ·cases q3
 case mapUpdate t m k v =>
  simp only [Option.bind_eq_some_iff] at h ⊢
  obtain ⟨v, q1, u, q2, z, q3, q4⟩ := h
  refine ⟨v, q1, u, q2, z, q3, ?_⟩
  unfold semMapUpdate at q4 ⊢
  split at q4
  ·rename_i kt et _ _ _ _ _ rr n hti
   have hrr : rr ∈ r.rd := by
    split at q4
    ·injection q4 with q4; subst q4; simp
    ·cases q4
   rw [hl rr hrr]
   exact q4
  ·cases q4
 case makeMap t hint => cases hint <;> simp only [semOp] at h ⊢ <;> exact h
 case call c => exact loc_call h hl
 all_goals first | exact h | cases h
end
end Go.Tx
end
section
namespace Go.Tx
section
variable {T : Tys} {F F' : SF} {nx : Nm} {r : Res}
theorem vals_congr {ρ ρ' : Operand → Option PV} : ∀ {l : List Operand}, (∀ x ∈ l, ρ x = ρ' x) → vals ρ l = vals ρ' l
 | [], _ => rfl
 | x :: l, h => by simp only [vals, h x (by simp), vals_congr (l := l) (fun y hy => h y (by simp [hy]))]
theorem partsV_congr {ρ ρ' : Operand → Option PV} : ∀ {l : List (Nat × Operand)}, (∀ x ∈ l, ρ x.2 = ρ' x.2) → partsV ρ l = partsV ρ' l
 | [], _ => rfl
 | x :: l, h => by simp only [partsV, h x (by simp), partsV_congr (l := l) (fun y hy => h y (by simp [hy]))]
theorem optVal_congr {ρ ρ' : Operand → Option PV} {o : Option Operand} (h : ∀ x, o = some x → ρ x = ρ' x) : optVal ρ o = optVal ρ' o := by
 cases o with
 | none => rfl
 | some x => simp [optVal, h x rfl]
theorem congr_op {wr : Bool} {ρ ρ' : Operand → Option PV} {o : Op} (h : ∀ x ∈ o.operands.toList, ρ x = ρ' x) : semOp T wr ρ F nx o = semOp T wr ρ' F nx o := by
 cases o <;> simp only [semOp] <;> simp only [Op.operands] at h
 case move x => rw [h x (by simp)]
 case assign x => rw [h x (by simp)]
 case pick c a b => rw [h c (by simp), h a (by simp), h b (by simp)]
 case box t x => rw [h x (by simp)]
 case build t ps => rw [partsV_congr (fun x hx => h x.2 (by simp; exact ⟨x.1, by simpa using hx⟩))]
 case buildSlice t n ps => rw [partsV_congr (fun x hx => h x.2 (by simp; exact ⟨x.1, by simpa using hx⟩))]
 case load t a => rw [h a (by simp)]
 case store t a v => rw [h a (by simp), h v (by simp)]
 case nilCheck x => rw [h x (by simp)]
 case binOp op t x y yt => rw [h x (by simp), h y (by simp)]
 case unOp op t x => rw [h x (by simp)]
 case convert s d x => rw [h x (by simp)]
 case makeInterface t x => rw [h x (by simp)]
 case makeFunc fn a b =>
  rw [vals_congr (fun x hx => h x (by simp; exact .inl (by simpa using hx))), vals_congr (fun x hx => h x (by simp; exact .inr (by simpa using hx)))]
 case makeSlice t l c => rw [h l (by simp), h c (by simp)]
 case lookup t x i ok => rw [h x (by simp), h i (by simp)]
 case mapUpdate t m k v => rw [h m (by simp), h k (by simp), h v (by simp)]
 case makeMap t hint => cases hint <;> rfl
 case slice t x lo hi mx =>
  rw [h x (by simp), optVal_congr (o := lo) (fun y hy => h y (by simp [hy])), optVal_congr (o := hi) (fun y hy => h y (by simp [hy])), optVal_congr (o := mx) (fun y hy => h y (by simp [hy]))]
 case fieldAddr s x f => rw [h x (by simp)]
 case indexAddr t x i => rw [h x (by simp), h i (by simp)]
 case index t x i => rw [h x (by simp), h i (by simp)]
 case extract x i => rw [h x (by simp)]
 case call c =>
  obtain ⟨callee, ⟨args⟩, ats⟩ := c
  simp only [Call.operands] at h
  have ha : ∀ x ∈ args, ρ x = ρ' x := fun x hx => h x (by simp [hx])
  simp only [semCall]
  cases callee with
  | builtin b =>
   simp only
   split
   ·rw [ha _ (by simp)]
   ·rw [ha _ (by simp), ha _ (by simp)]
   ·rw [ha _ (by simp), ha _ (by simp)]
   ·rw [ha _ (by simp), ha _ (by simp)]
   ·rw [ha _ (by simp)]
   ·rw [ha _ (by simp)]
   ·rw [ha _ (by simp), ha _ (by simp)]
   ·rfl
  | value f => rfl
  | invoke x m => rfl
 all_goals rfl
theorem semOp_noDefer {wr : Bool} {ρ : Operand → Option PV} {o : Oper} (h : semOp T wr ρ F nx o.op = some r) : ∀ c, o.op ≠ .defer c := by
 intro c hc; rw [hc] at h; cases h
end
end Go.Tx
end
section
namespace Go.Tx
section
variable {κ : Type} [DecidableEq κ] {α : Type}
def keys (x : List (κ × α)) : List κ := x.map (·.1)
def setAll (f : κ → Option α) : List (κ × α) → (κ → Option α)
 | [] => f
 | (n, v) :: l => setAll (fun k => if k = n then some v else f k) l
def appl (S : Nat → Bool) : Nat → List (List (κ × α)) → (κ → Option α) → (κ → Option α)
 | _, [], f => f
 | i, x :: l, f => appl S (i + 1) l (if S i = true then setAll f x else f)
theorem setAll_not {k : κ} : ∀ {x : List (κ × α)} {f : κ → Option α}, k ∉ keys x → setAll f x k = f k
 | [], _, _ => rfl
 | (n, v) :: l, f, h => by
  simp only [keys, List.map_cons, List.mem_cons, not_or] at h
  simp only [setAll]
  rw [setAll_not h.2]
  simp [h.1]
theorem setAll_mem {k : κ} : ∀ {x : List (κ × α)} {f g : κ → Option α}, k ∈ keys x → setAll f x k = setAll g x k
 | [], _, _, h => by cases h
 | (n, v) :: l, f, g, h => by
  simp only [setAll]
  by_cases hk : k ∈ keys l
  ·exact setAll_mem hk
  ·rw [setAll_not hk, setAll_not hk]
   simp only [keys, List.map_cons, List.mem_cons] at h
   rcases h with h | h
   ·simp [h]
   ·exact absurd h hk
theorem setAll_at {k : κ} {x : List (κ × α)} {f g : κ → Option α} (h : f k = g k) : setAll f x k = setAll g x k := by
 by_cases hk : k ∈ keys x
 ·exact setAll_mem hk
 ·rw [setAll_not hk, setAll_not hk, h]
theorem appl_congr {k : κ} : ∀ (ws : List (List (κ × α))) {i : Nat} {f g : κ → Option α} {S S' : Nat → Bool}, f k = g k → (∀ (j : Nat) (x : List (κ × α)), ws[j]? = some x → k ∈ keys x → S (i + j) = S' (i + j)) →
  appl S i ws f k = appl S' i ws g k
 | [], _, _, _, _, _, h, _ => h
 | x :: l, i, f, g, S, S', h, hs => by
  simp only [appl]
  refine appl_congr l ?_ ?_
  ·by_cases hk : k ∈ keys x
   ·have := hs 0 x rfl hk
    simp only [Nat.add_zero] at this
    rw [this]
    split
    ·exact setAll_mem hk
    ·exact h
   ·split <;> split <;> first | (rw [setAll_not hk, setAll_not hk]; exact h) | (rw [setAll_not hk]; exact h) | exact h
  ·intro j y hy hk
   have := hs (j + 1) y (by simpa using hy) hk
   rw [show i + 1 + j = i + (j + 1) by omega]
   exact this
theorem appl_none {k : κ} (ws : List (List (κ × α))) {i : Nat} {f : κ → Option α} {S : Nat → Bool} (h : ∀ (j : Nat) (x : List (κ × α)), ws[j]? = some x → S (i + j) = true → k ∉ keys x) : appl S i ws f k = f k := by
 induction ws generalizing i f with
 | nil => rfl
 | cons x l ih =>
  simp only [appl]
  rw [ih (fun j y hy hs => h (j + 1) y (by simpa using hy) (by rw [show i + (j + 1) = i + 1 + j by omega]; exact hs))]
  split
  ·rename_i hsi
   exact setAll_not (h 0 x rfl (by simpa using hsi))
  ·rfl
theorem appl_last {k : κ} {g : κ → Option α} (ws : List (List (κ × α))) {i j : Nat} {f : κ → Option α} {S : Nat → Bool} {x : List (κ × α)} (hx : ws[j]? = some x) (hS : S (i + j) = true) (hk : k ∈ keys x)
  (h : ∀ (q : Nat) (y : List (κ × α)), j < q → ws[q]? = some y → S (i + q) = true → k ∉ keys y) : appl S i ws f k = setAll g x k := by
 induction ws generalizing i j f with
 | nil => cases hx
 | cons y l ih =>
  simp only [appl]
  cases j with
  | zero =>
   simp at hx; subst hx
   simp only [Nat.add_zero] at hS
   rw [if_pos hS, appl_none l (fun q z hz hs => h (q + 1) z (by omega) (by simpa using hz) (by rw [show i + (q + 1) = i + 1 + q by omega]; exact hs))]
   exact setAll_mem hk
  | succ j =>
   refine ih (j := j) (by simpa using hx) (by rw [show i + 1 + j = i + (j + 1) by omega]; exact hS) ?_
   intro q z hq hz hs
   exact h (q + 1) z (by omega) (by simpa using hz) (by rw [show i + (q + 1) = i + 1 + q by omega]; exact hs)
theorem appl_insert {ws : List (List (κ × α))} {f : κ → Option α} {S S' : Nat → Bool} {j : Nat} {x : List (κ × α)} (hx : ws[j]? = some x) (hj : S' j = true) (hoth : ∀ i, i ≠ j → S' i = S i)
  (h : ∀ (q : Nat) (y : List (κ × α)), j < q → ws[q]? = some y → S q = true → ∀ k ∈ keys x, k ∉ keys y) : appl S' 0 ws f = setAll (appl S 0 ws f) x := by
 funext k
 by_cases hk : k ∈ keys x
 ·refine appl_last ws hx (by simpa using hj) hk ?_
  intro q y hq hy hs
  simp only [Nat.zero_add] at hs
  exact h q y hq hy (by rw [← hoth q (by omega)]; exact hs) k hk
 ·rw [setAll_not hk]
  refine appl_congr ws rfl ?_
  intro q y hy hky
  simp only [Nat.zero_add]
  apply hoth
  rintro rfl
  rw [hx] at hy; injection hy with hy; subst hy
  exact hk hky
end
def mask (o : Oper) (acc : List Nat) : Nat :=
 o.after.toList.foldl (fun s e => if Region.binds .any e then s ||| 2 ^ e.on ||| acc.getD e.on 0 else s) 0
def ancs : List Oper → List Nat → List Nat
 | [], acc => acc
 | o :: l, acc => ancs l (acc ++ [mask o acc])
theorem foldl_mask (acc : List Nat) (i : Nat) : ∀ (l : List Edge) (s : Nat), (l.foldl (fun s e => if Region.binds .any e then s ||| 2 ^ e.on ||| acc.getD e.on 0 else s) s).testBit i = true →
  s.testBit i = true ∨ ∃ e ∈ l, Region.binds .any e = true ∧ (e.on = i ∨ (acc.getD e.on 0).testBit i = true)
 | [], s, h => .inl h
 | e :: l, s, h => by
  simp only [List.foldl_cons] at h
  rcases foldl_mask acc i l _ h with h | ⟨e', h1, h2⟩
  ·split at h
   ·rename_i hb
    simp only [Nat.testBit_or, Bool.or_eq_true, Nat.testBit_two_pow, decide_eq_true_eq] at h
    rcases h with (h | h) | h
    ·exact .inl h
    ·exact .inr ⟨e, by simp, hb, .inl h⟩
    ·exact .inr ⟨e, by simp, hb, .inr h⟩
   ·exact .inl h
  ·exact .inr ⟨e', by simp [h1], h2⟩
def DPred (ops : List Oper) (j k : Nat) : Prop := ∃ o, ops[j]? = some o ∧ ∃ e ∈ o.after.toList, Region.binds .any e = true ∧ e.on = k
theorem ancs_spec (ops : List Oper) : ∀ (l done : List Oper) (acc : List Nat), ops = done ++ l → acc.length = done.length →
  (∀ j i, j < acc.length → (acc.getD j 0).testBit i = true → ∃ k, DPred ops j k ∧ (k = i ∨ (acc.getD k 0).testBit i = true)) → (∀ j k, j < acc.length → DPred ops j k → k < j) → (∀ j k, DPred ops j k → k < j) →
  (∀ j i, (((ancs l acc).getD j 0).testBit i = true → ∃ k, DPred ops j k ∧ (k = i ∨ ((ancs l acc).getD k 0).testBit i = true)))
 | [], done, acc, _, hl, h, _, _ => by
  intro j i hj
  simp only [ancs] at hj ⊢
  by_cases hja : j < acc.length
  ·exact h j i hja hj
  ·rw [List.getD_eq_getElem?_getD, List.getElem?_eq_none (by omega)] at hj
   simp at hj
 | o :: l, done, acc, he, hl, h, hlt, hall => by
  simp only [ancs]
  have hstable : ∀ k, k < acc.length → (acc ++ [mask o acc]).getD k 0 = acc.getD k 0 := by
   intro k hk
   simp only [List.getD_eq_getElem?_getD]
   rw [List.getElem?_append_left hk]
  have hoj : ops[acc.length]? = some o := by rw [he, hl]; simp
  refine ancs_spec ops l (done ++ [o]) (acc ++ [mask o acc]) (by simp [he]) (by simp [hl]) ?_ ?_ hall
  ·intro j i hj hb
   simp only [List.length_append, List.length_cons, List.length_nil] at hj
   by_cases hja : j < acc.length
   ·rw [hstable j hja] at hb
    obtain ⟨k, h1, h2⟩ := h j i hja hb
    have hk := hlt j k hja h1
    exact ⟨k, h1, by rw [hstable k (by omega)]; exact h2⟩
   ·have hj' : j = acc.length := by omega
    subst hj'
    have : (acc ++ [mask o acc]).getD acc.length 0 = mask o acc := by simp [List.getD_eq_getElem?_getD]
    rw [this] at hb
    rcases foldl_mask acc i _ _ hb with h0 | ⟨e, h1, h2, h3⟩
    ·simp at h0
    ·have hd : DPred ops acc.length e.on := ⟨o, hoj, e, h1, h2, rfl⟩
     have := hall _ _ hd
     exact ⟨e.on, hd, by rw [hstable _ this]; exact h3⟩
  ·intro j k _ hd; exact hall j k hd
def masks (ops : List Oper) : List Nat := ancs ops []
def ord (ops : List Oper) (i j : Nat) : Bool := ((masks ops).getD j 0).testBit i
def edgesDown (ops : List Oper) : Bool := ops.zipIdx.all fun x => x.1.after.toList.all fun e => !Region.binds .any e || decide (e.on < x.2)
theorem edgesDown_spec {ops : List Oper} (h : edgesDown ops = true) {j k : Nat} (hd : DPred ops j k) : k < j := by
 obtain ⟨o, ho, e, he, hb, rfl⟩ := hd
 unfold edgesDown at h
 rw [List.all_eq_true] at h
 have := h (o, j) (by rw [List.mem_zipIdx_iff_getElem?]; exact ho)
 rw [List.all_eq_true] at this
 have := this e he
 simpa [hb] using this
theorem ord_closed {ops : List Oper} (hE : edgesDown ops = true) {S : Nat → Bool} (hD : ∀ j k, S j = true → DPred ops j k → S k = true) : ∀ (j : Nat), (∀ k, DPred ops j k → S k = true) → ∀ i, ord ops i j = true → S i = true := by
 have hdown := fun j k (hd : DPred ops j k) => edgesDown_spec hE hd
 have hspec := ancs_spec ops ops [] [] rfl rfl (by simp) (by simp) hdown
 intro j
 induction j using Nat.strongRecOn with
 | _ j ih =>
  intro hj i hi
  obtain ⟨k, h1, h2⟩ := hspec j i hi
  rcases h2 with rfl | h2
  ·exact hj _ h1
  ·exact ih k (hdown j k h1) (fun q hq => hD k q (hj k h1) hq) i h2
end Go.Tx
end
