/- Lemmas for the walk: Sx10, Sx11, Sx12, Sx13, Sx14, Sx14m. -/
import Derived.Test.YtfhhbkehlfipgaaSxA
import Derived.Laws.MakeOwn
import Derived.Laws.Append
import Derived.Laws.AppendOwn
import Derived.MapKept
section
set_option linter.unusedSimpArgs false
set_option linter.unusedVariables false
set_option linter.unnecessarySimpa false
set_option linter.unusedSectionVars false
namespace Go.Sx
section
variable {P : Program} {T : Tys} {E : Env} {F : SF} {nx : Nat} {w : World}

theorem PRel.of_map {parts : List (Nat × Operand)} {ρ : Operand → Option Value} {ρ' : Operand → Value} (hρ : ∀ x v, ρ x = some v → dv E v = some (ρ' x)) :
    ∀ {ps : List (Nat × Value)}, parts.mapM (fun x => (ρ x.2).map fun v => (x.1, v)) = some ps → PRel E ps (parts.map fun x => (x.1, ρ' x.2)) := by
  induction parts with
  | nil => intro ps h; simp at h; subst h; exact .nil
  | cons a l ih =>
    intro ps h
    simp only [List.mapM_cons, Option.bind_eq_bind, Option.bind_eq_some_iff, Option.map_eq_some_iff, Option.pure_def, Option.some.injEq] at h
    obtain ⟨b, ⟨v, h1, rfl⟩, l', h2, rfl⟩ := h
    exact .cons (hρ _ _ h1) (ih h2)

theorem mapM_places (hT : T.Ok P) (a : List Field) {fs : List (Nat × TypeId)} (h : a.map (fun f => (f.offset, f.type)) = fs) (hall : ∀ f ∈ fs, ∃ fi, T.get f.2 = some fi) :
    (a.mapM (fun f => do pure (f.offset, ← sizeOf f.type) : Field → Sem (Nat × Nat))).run P w = .ok (fs.map fun f => (f.1, ((T.get f.2).map (·.size)).getD 0)) w := by
  induction a generalizing fs with
  | nil => simp at h; subst h; simp
  | cons f l ih =>
    simp at h; subst h
    obtain ⟨fi, hfi⟩ := hall (f.offset, f.type) (by simp)
    have hz := (hT _ _ hfi).run_sizeOf w
    have ih' := ih rfl (fun g hg => hall g (by simp [hg]))
    simp only [List.mapM_cons, Sem.run_bind, hz, Result.andThen_ok, Sem.run_pure, ih', List.map_cons, hfi, Option.map_some, Option.getD_some]

theorem fillL_places {pl pl' : Nat → Option (Nat × Nat)} : ∀ {parts : List (Nat × Value)} {cells : List Value} {p : Prop} {cs : List Value}, fillL pl cells parts = some (p, cs) → (∀ i o, pl i = some o → pl' i = some o) → fillL pl' cells parts = some (p, cs)
  | [], _, _, _, h, _ => h
  | (i, v) :: rest, cells, p, cs, h, hp => by
    simp only [fillL] at h ⊢
    split at h
    · cases h
    rename_i off size hpl
    rw [hp _ _ hpl]
    simp only
    split at h
    rotate_left
    · cases h
    rename_i hok
    rw [if_pos hok]
    split at h
    · cases h
    rename_i q cs0 hq
    rw [fillL_places hq hp]
    exact h

theorem sound_build (hT : T.Ok P) (hall : ∀ t i fs, T.get t = some i → i.k = .struct fs → ∀ f ∈ fs, ∃ fi, T.get f.2 = some fi) (h : HRel E F w) {t : TypeId} {parts parts' : List (Nat × Value)} {r : Res}
    (hs : semBuild T t parts = some r) (hvc : r.vc) (hp : PRel E parts parts') : ∃ v', (Instr.build t parts'.toArray).run P w = .ok v' w ∧ Gives E F nx w r v' w := by
  unfold semBuild at hs
  split at hs
  rotate_left
  · cases hs
  rename_i ti hti
  have ht := hT _ _ hti
  obtain ⟨d, hd, hk⟩ := ht.run_underlying w
  have hz0 := dvl_plain E _ ht.pl
  rw [← cellsOf_eq] at hz0
  have hz1 : ∀ u ∈ ti.zero.cells.toList, u.oneCell' = true := by rw [cellsOf_eq]; simpa using ht.one
  rw [cellsOf_eq] at hz0
  split at hs
  · rename_i fs hfs
    split at hs
    rotate_left
    · cases hs
    rename_i p cs hfill
    injection hs with hs; subst hs
    rw [hfs] at hk
    obtain ⟨a, rfl, ha⟩ := tk_struct hk
    have hpl := mapM_places (w := w) hT a.toList ha (hall _ _ _ hti hfs)
    have hfill' := fillL_places (pl' := fun i => ((fs.map fun f => (f.1, ((T.get f.2).map (·.size)).getD 0)).toArray)[i]?) hfill (by
      intro i o ho
      simp only [Option.bind_eq_some_iff, Option.map_eq_some_iff] at ho
      obtain ⟨f, h1, fi, h2, rfl⟩ := ho
      simp [h1, h2])
    obtain ⟨cs', r1, r2, r3⟩ := sound_fill hp hfill' hvc (cells' := ti.zero.cells) (by rw [cellsOf_eq]; exact hz0) hz1
    refine ⟨.agg cs', ?_, Gives.still h rfl ?_⟩
    · simp only [Instr.build, Sem.run_bind, ht.run_zeroValue w, Result.andThen_ok, hd, Array.mapM_eq_mapM_toList, Sem.run_map, hpl]
      rw [r1]
      rfl
    · simp only [mkRes, dv, dva, r2, Option.map_some, Option.bind_some]
      rw [if_pos (by rw [Array.all_eq_true_iff_forall_mem]; simpa using r3)]
  · rename_i n e hfs
    split at hs
    rotate_left
    · cases hs
    rename_i ei hei
    split at hs
    rotate_left
    · cases hs
    rename_i p cs hfill
    injection hs with hs; subst hs
    rw [hfs] at hk
    obtain rfl := tk_array hk
    obtain ⟨cs', r1, r2, r3⟩ := sound_fill hp hfill hvc (cells' := ti.zero.cells) (by rw [cellsOf_eq]; exact hz0) hz1
    refine ⟨.agg cs', ?_, Gives.still h rfl ?_⟩
    · simp only [Instr.build, Sem.run_bind, ht.run_zeroValue w, Result.andThen_ok, hd, (hT _ _ hei).run_sizeOf w]
      rw [r1]
      rfl
    · simp only [mkRes, dv, dva, r2, Option.map_some, Option.bind_some]
      rw [if_pos (by rw [Array.all_eq_true_iff_forall_mem]; simpa using r3)]
  · cases hs

theorem sound_fillR {size : Nat} : ∀ {parts parts' : List (Nat × Value)}, PRel E parts parts' → ∀ {rows : List (List Value)} {cs : Array Value} {p : Prop} {rs : List (List Value)},
    fillR size rows parts = some (p, rs) → p → RowsA E size rows cs →
    ∃ cs', Instr.fill (fun i => some (i * size, size)) cs parts' = some cs' ∧ RowsA E size rs cs' ∧ rs.length = rows.length := by
  intro parts parts' hP
  induction hP with
  | nil =>
    intro rows cs p rs h hp hR
    simp only [fillR, Option.some.injEq, Prod.mk.injEq] at h
    obtain ⟨_, rfl⟩ := h
    exact ⟨cs, rfl, hR, rfl⟩
  | @cons i v v' l l' hv _ ih =>
    intro rows cs p rs h hp hR
    simp only [fillR] at h
    split at h
    rotate_left
    · cases h
    rename_i hok
    simp only [Bool.and_eq_true, decide_eq_true_eq] at hok
    split at h
    · cases h
    rename_i q rs0 hq
    simp only [Option.some.injEq, Prod.mk.injEq] at h
    obtain ⟨rfl, rfl⟩ := h
    obtain ⟨p1, p2⟩ := hp
    obtain ⟨c1, c2⟩ := dv_cells hv hok.1
    have hlv : (cellsOf v').length = size := by rw [(dvl_get c1).1, p1]
    obtain ⟨cs', r1, r2, r3⟩ := ih hq p2 (hR.set hok.2 c1 p1 c2)
    refine ⟨cs', ?_, r2, by simpa using r3⟩
    have hszv : v'.cells.size = size := by rw [← Array.length_toList, cellsOf_eq, hlv]
    have hm : (i + 1) * size ≤ rows.length * size := Nat.mul_le_mul_right _ hok.2
    have he : (i + 1) * size = i * size + size := Nat.succ_mul i size
    have hcs := hR.size
    simp only [Instr.fill]
    rw [if_neg (by simp [hszv]; omega)]
    rw [← r1]
    congr 1
    exact foldl_setA' (i * size) v' cs

theorem sound_buildSlice (hT : T.Ok P) (h : HRel E F w) (hE : E nx = none) {t : TypeId} {len : Nat} {parts parts' : List (Nat × Value)} {r : Res}
    (hs : semBuildSlice T nx t len parts = some r) (hvc : r.vc) (hp : PRel E parts parts') : ∃ v' w', (Instr.buildSlice t len parts'.toArray).run P w = .ok v' w' ∧ Gives E F nx w r v' w' := by
  unfold semBuildSlice at hs
  split at hs
  rotate_left
  · cases hs
  rename_i e _ _ _ _ hti
  split at hs
  rotate_left
  · cases hs
  rename_i ei hei
  split at hs
  · cases hs
  rename_i hsz
  simp only [Bool.or_eq_true, beq_iff_eq, decide_eq_true_eq, not_or] at hsz
  split at hs
  rotate_left
  · cases hs
  rename_i p rs hfill
  injection hs with hs; subst hs
  have ht := hT _ _ hti
  have hte := hT _ _ hei
  obtain ⟨d, hd, hk⟩ := ht.run_underlying w
  obtain rfl := tk_slice hk
  have hz0 := dvl_plain E _ hte.pl
  have hz0' : dvl E (cellsOf ei.zero) = some ei.zero.cells.toList := by rw [cellsOf_eq]; exact hz0
  have hz1 : ∀ u ∈ ei.zero.cells.toList, u.oneCell' = true := by rw [cellsOf_eq]; simpa using hte.one
  have hR0 := RowsA.replicate hz0' hz1 len ei.size hte.sz
  obtain ⟨cs', r1, r2, r3⟩ := sound_fillR hp hfill hvc hR0
  simp only [List.length_replicate] at r3
  have hcap : rs.length ≤ maxLen := by
    have : len * 1 ≤ len * ei.size := Nat.mul_le_mul_left _ (by omega)
    unfold maxLen; omega
  refine ⟨.slice (some ⟨w.heap.size, 0, none⟩) len len, w.alloc (.cells cs' e), ?_, E.set nx ⟨w.heap.size, 0, ei.size, rs.length, false⟩, ?_, StepR.new h hE _ _ _ rfl (new_rows hE (by omega) r2 hcap), FreshIn.set (Nat.le_refl _) (by omega)⟩
  · simp only [Instr.buildSlice, Sem.run_bind, hd, Result.andThen_ok, hte.run_sizeOf w]
    rw [if_neg (by omega)]
    by_cases h0 : len * ei.size = 0
    · rw [if_pos h0]
      rw [h0] at r1 ⊢
      simp only [show Array.range 0 = #[] from rfl, Array.map_empty] at r1
      simp only [Sem.run_bind, Sem.run_pure, Result.andThen_ok, show Array.range 0 = #[] from rfl, Array.map_empty, r1]
      rfl
    · rw [if_neg h0]
      simp only [Sem.run_bind, Sem.run_pure, Result.andThen_ok, hte.run_zeroValue w, r1]
      rfl
  · rw [dv_slice_mk (Env.set_self _ _ _) rfl]
    simp [r3]

theorem sound_makeSlice (hT : T.Ok P) (h : HRel E F w) (hE : E nx = none) {t : TypeId} {l c l' c' : Value} {r : Res}
    (hs : semMakeSlice T nx t l c = some r) (hvc : r.vc) (hl : dv E l = some l') (hc : dv E c = some c') : ∃ v' w', (Instr.makeSlice t l' c').run P w = .ok v' w' ∧ Gives E F nx w r v' w' := by
  unfold semMakeSlice at hs
  split at hs
  rotate_left
  · cases hs
  rename_i kl l kc c e _ _ _ _ hti
  simp [dv] at hl hc; subst hl; subst hc
  split at hs
  rotate_left
  · cases hs
  rename_i ei hei
  split at hs
  · cases hs
  rename_i hsz
  simp only [beq_iff_eq] at hsz
  injection hs with hs; subst hs
  obtain ⟨h1, rfl, h3, h4⟩ := hvc
  have ht := hT _ _ hti
  have hte := hT _ _ hei
  obtain ⟨d, hd, hk⟩ := ht.desc
  obtain rfl := tk_slice hk
  obtain ⟨x, hx, hx0, hx1, hx2⟩ := hte.info
  have hz0' : dvl E (cellsOf ei.zero) = some ei.zero.cells.toList := by rw [cellsOf_eq]; exact dvl_plain E _ hte.pl
  have hz1 : ∀ u ∈ ei.zero.cells.toList, u.oneCell' = true := by rw [cellsOf_eq]; simpa using hte.one
  have hR0 := RowsA.replicate hz0' hz1 l.toNat ei.size hte.sz
  have hrun := run_make (P := P) w t e x ei.zero hd hx hx0 kl kc l l h1 (Int.le_refl _) (by rw [hx2]; omega) h4
  rw [hx1] at hrun
  have hcap : (List.replicate l.toNat (cellsOf ei.zero)).length ≤ maxLen := by
    unfold maxLen; simp; omega
  refine ⟨_, _, hrun, E.set nx ⟨w.heap.size, 0, ei.size, (List.replicate l.toNat (cellsOf ei.zero)).length, false⟩, ?_, StepR.new h hE _ _ _ rfl (new_rows hE (by omega) (by simpa [madeCells] using hR0) hcap), FreshIn.set (Nat.le_refl _) (by omega)⟩
  rw [dv_slice_mk (Env.set_self _ _ _) rfl]
  simp

end
end Go.Sx
end

section
set_option linter.unusedSimpArgs false
set_option linter.unusedVariables false
set_option linter.unnecessarySimpa false
set_option linter.unusedSectionVars false
namespace Go.Sx
section
variable {P : Program} {T : Tys} {E : Env} {F : SF} {nx : Nat} {w : World}

theorem sound_index (hT : T.Ok P) (h : HRel E F w) {t : TypeId} {x x' i i' : Value} {r : Res} (hs : semIndex T t x i = some r) (hvc : r.vc) (hx : dv E x = some x') (hi : dv E i = some i') :
    ∃ v', (Instr.index t x' i').run P w = .ok v' w ∧ Gives E F nx w r v' w := by
  unfold semIndex at hs
  split at hs
  rotate_left
  · cases hs
  simp [dv] at hi; subst hi
  rename_i k i
  split at hs
  · rename_i _ _ _ _ _ s hti
    simp [dv] at hx; subst hx
    injection hs with hs; subst hs
    obtain ⟨h1, h2⟩ := hvc
    obtain ⟨d, hd, hk⟩ := (hT _ _ hti).run_underlying w
    obtain rfl := tk_str hk
    have hlt : i.toNat < s.data.toList.length := by
      have : s.data.toList.length = s.size := rfl
      omega
    refine ⟨.int .u8 (s.data.toList.getD i.toNat 0).toNat, ?_, Gives.still h rfl (by simp [mkRes, dv])⟩
    have hget : s[i.toNat]? = some (s.data.toList.getD i.toNat 0) := by
      have e1 := getD_of_lt (0 : UInt8) hlt
      have hlt' : i.toNat < s.size := by omega
      rw [show s[i.toNat]? = some (s[i.toNat]'hlt') from by simp [getElem?_pos, hlt']]
      rw [List.getElem?_eq_getElem hlt] at e1
      exact e1
    simp only [Instr.index, asIntOf, Sem.run_bind, Sem.run_pure, Result.andThen_ok, hd, h1, if_true, hget]
  · rename_i len e _ _ _ _ l hti
    split at hs
    rotate_left
    · cases hs
    rename_i ei hei
    obtain ⟨d, hd, hk⟩ := (hT _ _ hti).run_underlying w
    obtain rfl := tk_array hk
    simp only [dv, dva, Option.bind_eq_some_iff, Option.map_eq_some_iff] at hx
    obtain ⟨a, ⟨l', hl, rfl⟩, hx⟩ := hx
    split at hx
    rotate_left
    · cases hx
    rename_i hone
    injection hx with hx; subst hx
    have hz := (hT _ _ hei).run_sizeOf w
    have hagg := (hT _ _ hei).run_isAgg w
    obtain ⟨g1, g2⟩ := dvl_get hl
    split at hs
    · rename_i hag
      injection hs with hs; subst hs
      obtain ⟨h1, h2⟩ := hvc
      have hsub : dvl E ((l.drop (i.toNat * ei.size)).take ei.size) = some ((l'.drop (i.toNat * ei.size)).take ei.size) := by
        obtain ⟨q, hq⟩ := dvl_of (E := E) ((l.drop (i.toNat * ei.size)).take ei.size) (fun v hv => by
          obtain ⟨j, hj⟩ := List.getElem?_of_mem (List.mem_of_mem_drop (List.mem_of_mem_take hv))
          obtain ⟨v', a, _⟩ := g2 j v hj
          exact ⟨v', a⟩)
        obtain ⟨q1, q2⟩ := dvl_get hq
        rw [hq]
        congr 1
        apply List.ext_getElem?
        intro j
        by_cases hj : j < ((l.drop (i.toNat * ei.size)).take ei.size).length
        · have hget := List.getElem?_eq_getElem hj
          obtain ⟨v', a1, a2⟩ := q2 j _ hget
          rw [a2]
          rw [List.getElem?_take] at hget
          simp only [List.length_take, List.length_drop] at hj
          rw [if_pos (by omega), List.getElem?_drop] at hget
          obtain ⟨v2, b1, b2⟩ := g2 _ _ hget
          rw [List.getElem?_take, if_pos (by omega), List.getElem?_drop, b2]
          rw [a1] at b1; exact b1
        · rw [List.getElem?_eq_none (by omega), List.getElem?_eq_none (by
            simp only [List.length_take, List.length_drop] at hj ⊢; omega)]
      refine ⟨.agg ((l'.drop (i.toNat * ei.size)).take ei.size).toArray, ?_, Gives.still h rfl ?_⟩
      · simp only [Instr.index, asIntOf, Sem.run_bind, Sem.run_pure, Result.andThen_ok, hd, h1, h2, and_self, if_true, hz, part, hagg]
        simp only [isAggT] at hag
        simp only [hag, if_true, Sem.run_bind, hz, Result.andThen_ok, Sem.run_pure]
        congr 2
        apply Array.ext'
        simp [List.extract_eq_take_drop]
      · simp only [mkRes, dv, dva, hsub, Option.map_some, Option.bind_some]
        rw [if_pos]
        rw [Array.all_eq_true_iff_forall_mem] at hone ⊢
        intro x hx
        exact hone x (by simpa using List.mem_of_mem_drop (List.mem_of_mem_take (by simpa using hx)))
    · rename_i hag
      split at hs
      rotate_left
      · cases hs
      rename_i h1s
      simp only [beq_iff_eq] at h1s
      injection hs with hs; subst hs
      obtain ⟨h1, h2, h3⟩ := hvc
      have hlt : i.toNat < l.length := by omega
      obtain ⟨v', a1, a2⟩ := g2 i.toNat _ (getD_of_lt undef hlt)
      refine ⟨v', ?_, Gives.still h rfl a1⟩
      simp only [Instr.index, asIntOf, Sem.run_bind, Sem.run_pure, Result.andThen_ok, hd, h1, h2, and_self, if_true, hz, part, hagg]
      simp only [isAggT] at hag
      simp only [hag, Bool.false_eq_true, if_false, h1s, Nat.mul_one, List.getElem?_toArray, a2, Sem.run_pure]
  · cases hs

theorem run_sliceBound {v : Value} {k : IntKind} {i : Int} (y : Nat) (code : BoundsCode) (hv : v = .int k i) (h1 : 0 ≤ i) (h2 : i ≤ y) : (Instr.sliceBound v y code).run P w = .ok i.toNat w := by
  subst hv
  simp [Instr.sliceBound, asIntOf, h1, h2]

/-- The two bounds of a slice expression, as the run finds them. -/
theorem run_sliceBounds {isS : Bool} {len cap : Nat} {lo hi lo' hi' : Option Value} {l h : Int} (hl : boundOf lo 0 = some l) (hh : boundOf hi len = some h)
    (el : lo' = lo) (eh : hi' = hi) (h0 : 0 ≤ l) (h1 : l ≤ h) (h2 : h ≤ cap) :
    (Instr.sliceBounds isS len cap lo' hi' none).run P w = .ok (l.toNat, h.toNat, cap) w := by
  subst el; subst eh
  have hlo : ∀ (m : Nat) (code : BoundsCode), h ≤ m → (match lo' with | some v => Instr.sliceBound v h.toNat code | none => pure 0 : Sem Nat).run P w = .ok l.toNat w := by
    intro m code hm
    cases lo' with
    | none => simp [boundOf] at hl; subst hl; simp
    | some v =>
      cases v <;> simp [boundOf] at hl
      subst hl
      exact run_sliceBound _ _ rfl h0 (by omega)
  have hhi : (match hi' with | some v => Instr.sliceBound v cap (if isS then .sliceAcap else .sliceAlen) | none => pure len : Sem Nat).run P w = .ok h.toNat w := by
    cases hi' with
    | none => simp [boundOf] at hh; subst hh; simp
    | some v =>
      cases v <;> simp [boundOf] at hh
      subst hh
      exact run_sliceBound _ _ rfl (by omega) h2
  unfold Instr.sliceBounds
  cases hi' with
  | none =>
    simp only [Sem.run_pure] at hhi
    injection hhi with hhi _
    subst hhi
    have := hlo cap .sliceB h2
    simp only [Sem.run_bind, Sem.run_pure, Result.andThen_ok]
    cases lo' with
    | none => simp only [Sem.run_pure] at this; injection this with this _; rw [← this]; rfl
    | some v => simp only at this; simp only [Option.isSome_none, Bool.false_eq_true, if_false, Sem.run_bind]; rw [this]; rfl
  | some u =>
    simp only at hhi
    have := hlo cap .sliceB h2
    simp only [Sem.run_bind, Sem.run_pure, Result.andThen_ok, hhi]
    cases lo' with
    | none => simp only [Sem.run_pure] at this; injection this with this _; rw [← this]; rfl
    | some v => simp only at this; simp only [Option.isSome_none, Bool.false_eq_true, if_false, Sem.run_bind]; rw [this]; rfl


theorem bound_dv {v : Option Value} {d : Nat} {i : Int} (h : boundOf v d = some i) {v' : Option Value} (hv : ∀ x, v = some x → ∃ x', dv E x = some x' ∧ v' = some x') (hn : v = none → v' = none) : v' = v := by
  cases v with
  | none => exact hn rfl
  | some x =>
    obtain ⟨x', h1, h2⟩ := hv x rfl
    cases x <;> simp [boundOf] at h
    simp [dv] at h1
    rw [h2, ← h1]

theorem sound_slice (hT : T.Ok P) (h : HRel E F w) {t : TypeId} {x x' : Value} {lo hi mx lo' hi' mx' : Option Value} {r : Res} (hs : semSlice T F t x lo hi mx = some r) (hvc : r.vc) (hx : dv E x = some x')
    (hlo : ∀ y, lo = some y → ∃ y', dv E y = some y' ∧ lo' = some y') (hlo0 : lo = none → lo' = none)
    (hhi : ∀ y, hi = some y → ∃ y', dv E y = some y' ∧ hi' = some y') (hhi0 : hi = none → hi' = none) (hmx0 : mx = none → mx' = none) :
    ∃ v', (Instr.sliceAt t x' lo' hi' mx').run P w = .ok v' w ∧ Gives E F nx w r v' w := by
  unfold semSlice at hs
  split at hs
  · rename_i _ _ _ _ _ s hti
    obtain rfl := hmx0 rfl
    simp [dv] at hx; subst hx
    split at hs
    rotate_left
    · cases hs
    rename_i l hh hl hhh
    injection hs with hs; subst hs
    obtain ⟨h1, h2, h3⟩ := hvc
    obtain ⟨d, hd, hk⟩ := (hT _ _ hti).run_underlying w
    obtain rfl := tk_str hk
    have el := bound_dv hl hlo hlo0
    have eh := bound_dv hhh hhi hhi0
    refine ⟨.string (s.extract l.toNat hh.toNat), ?_, Gives.still h rfl (by simp only [mkRes, dv])⟩
    simp only [Instr.sliceAt, Sem.run_bind, hd, Result.andThen_ok, Instr.slice, Option.isSome_none, Bool.false_eq_true, if_false, run_sliceBounds hl hhh el eh h1 h2 h3, Sem.run_pure]
  · rename_i e _ _ _ _ n row c len cap hti
    obtain rfl := hmx0 rfl
    split at hs
    rotate_left
    · cases hs
    rename_i e0 wd own ex rs ei l hh hF hei hl hhh
    split at hs
    rotate_left
    · cases hs
    rename_i hcw
    simp only [Bool.and_eq_true, beq_iff_eq] at hcw
    obtain ⟨⟨rfl, hw⟩, rfl⟩ := hcw
    injection hs with hs; subst hs
    obtain ⟨h1, h2, h3, h4⟩ := hvc
    obtain ⟨d, hd, hk⟩ := (hT _ _ hti).run_underlying w
    obtain rfl := tk_slice hk
    have el := bound_dv hl hlo hlo0
    have eh := bound_dv hhh hhi hhi0
    have hz := (hT _ _ hei).run_sizeOf w
    obtain ⟨bi, hbi, hor⟩ := dv_slice hx
    rcases hor with ⟨hn, hl0, rfl⟩ | ⟨hn, rfl⟩
    · -- a nil slice
      have hrs : rs = [] := by
        obtain ⟨j, hj, hq⟩ := h.blk n _ hF
        rw [hbi] at hj; injection hj with hj; subst hj
        rcases hq with ⟨_, q⟩ | ⟨q, _⟩
        · exact q.1
        · rw [hn] at q; cases q
      subst hrs
      subst hl0
      simp only [List.length_nil, Nat.le_zero_eq] at h3
      have hh0 : hh = 0 := by omega
      have hl0 : l = 0 := by omega
      subst hh0; subst hl0
      refine ⟨.slice none 0 0, ?_, Gives.still h rfl ?_⟩
      · simp only [Instr.sliceAt, Sem.run_bind, hd, Result.andThen_ok, Instr.slice, run_sliceBounds (P := P) (w := w) (isS := true) (len := 0) (cap := 0) hl hhh el eh h1 h2 (by omega), Sem.run_pure, hz]
        rfl
      · simp [dv, dS, hbi, hn]
    · have hR := rowsRel_of h hF hbi hn
      have hle := hR.le
      have hcap : hh ≤ ((bi.n - row : Nat) : Int) := by omega
      refine ⟨_, ?_, Gives.still h rfl (dv_slice_mk hbi hn)⟩
      simp only [if_true]
      simp only [Instr.sliceAt, Sem.run_bind, hd, Result.andThen_ok, Instr.slice, run_sliceBounds (P := P) (w := w) (isS := true) (len := len) (cap := bi.n - row) hl hhh el eh h1 h2 hcap, Sem.run_pure, hz]
      have haddr : (if bi.n - row = l.toNat then some ({ block := bi.b, off := bi.o + (row * bi.wd + 0) } : Addr) else Option.map (fun x : Addr => x.add (l.toNat * ei.size)) (some ⟨bi.b, bi.o + (row * bi.wd + 0), none⟩)) = some ⟨bi.b, bi.o + ((row + l.toNat) * bi.wd + 0), none⟩ := by
        rcases h4 with h4 | h4
        · subst h4
          simp [addr_add]
        · rw [if_neg (by omega)]
          simp only [Option.map_some, addr_add, hw, hR.wd_eq, Nat.add_mul]
          congr 2
          omega
      rw [haddr]
      congr 2
      omega
  · rename_i e _ _ _ _ hti
    obtain rfl := hmx0 rfl
    simp [dv] at hx; subst hx
    split at hs
    rotate_left
    · cases hs
    rename_i l hh hl hhh
    split at hs
    rotate_left
    · cases hs
    rename_i hsome
    obtain ⟨ei, hei⟩ := Option.isSome_iff_exists.1 hsome
    injection hs with hs; subst hs
    obtain ⟨rfl, rfl⟩ := hvc
    obtain ⟨d, hd, hk⟩ := (hT _ _ hti).run_underlying w
    obtain rfl := tk_slice hk
    have el := bound_dv hl hlo hlo0
    have eh := bound_dv hhh hhi hhi0
    refine ⟨.slice none 0 0, ?_, Gives.still h rfl (by simp [mkRes, dv])⟩
    simp only [Instr.sliceAt, Sem.run_bind, hd, Result.andThen_ok, Instr.slice, run_sliceBounds (P := P) (w := w) (isS := true) (len := 0) (cap := 0) hl hhh el eh (by omega) (by omega) (by omega), Sem.run_pure, (hT _ _ hei).run_sizeOf w]
    rfl
  · cases hs

end
end Go.Sx
end

section
set_option linter.unusedSimpArgs false
set_option linter.unusedVariables false
set_option linter.unnecessarySimpa false
set_option linter.unusedSectionVars false
namespace Go.Sx

noncomputable def srcRows (T : Tys) (F : SF) (size : Nat) (xt : TypeId) (x : Value) : Option (Prop × List (List Value) × List Nat) :=
  match T.get xt, x with
  | some { k := .slice _, .. }, .slice (some ⟨m, r, some c⟩) l _ =>
    match F m with
    | some (.rows _ wd _ _ rs) => if c == 0 && wd == size then some (r + l ≤ rs.length, (rs.drop r).take l, [m]) else none
    | _ => none
  | some { k := .slice _, .. }, .slice none 0 0 => some (True, [], [])
  | _, _ => none

noncomputable def semAppend (T : Tys) (F : SF) (nx : Nat) (t xt : TypeId) (s x : Value) : Option Res :=
  match T.get t with
  | some { k := .slice e, .. } =>
    match T.get e with
    | some ei =>
      if ei.size == 0 || t != xt then none else
      match srcRows T F ei.size xt x with
      | none => none
      | some (p, xs, rd) =>
        match s with
        | .slice none 0 0 =>
          some { vc := p ∧ xs.length * ei.bytes ≤ 140737488355328 ∧ xs.length ≤ 9223372036854775807, v := .slice (some ⟨nx, 0, some 0⟩) xs.length FULL, upd := [(nx, .rows e ei.size true false xs)], rd := rd }
        | .slice (some ⟨n, 0, some c⟩) l cap =>
          match F n with
          | some (.rows e' wd true _ rs) =>
            if c == 0 && e' == e && wd == ei.size && cap == FULL && !(rd.contains n) then
              some { vc := p ∧ l = rs.length ∧ (rs.length + xs.length) * ei.bytes ≤ 140737488355328 ∧ rs.length + xs.length ≤ 9223372036854775807,
                     v := .slice (some ⟨nx, 0, some 0⟩) (l + xs.length) FULL, upd := [(n, .dead), (nx, .rows e ei.size true false (rs ++ xs))], rd := n :: rd }
            else none
          | _ => none
        | _ => none
    | none => none
  | _ => none

section
variable {P : Program} {T : Tys} {E : Env} {F : SF} {nx : Nat} {w : World}

theorem RowsRel.part {i : BI} {e : TypeId} {wd : Nat} {own ex : Bool} {rs : List (List Value)} (hR : RowsRel E w i e wd own ex rs) {r l : Nat} (h : r + l ≤ rs.length) :
    ∃ news : List Value, RowsA E wd ((rs.drop r).take l) news.toArray ∧ (∀ (j : Nat) (u : Value), news[j]? = some u → w.cell? ((⟨i.b, i.o + (r * wd + 0), none⟩ : Addr).add j) = some u) ∧ (∀ u ∈ news, u.oneCell' = true) := by
  have hlen : ((rs.drop r).take l).length = l := by simp; omega
  have hcell : ∀ k, k < l * wd → ∃ v', v'.oneCell' = true ∧ w.cell? ⟨i.b, i.o + (r * wd + 0) + k, none⟩ = some v' := by
    intro k hk
    have hq : k / wd < l := by rw [Nat.div_lt_iff_lt_mul hR.wd_pos]; exact hk
    have hrow := List.getElem?_eq_getElem (l := rs) (i := r + k / wd) (by omega)
    have hl2 := hR.len _ (List.mem_of_getElem? hrow)
    have hmod := Nat.mod_lt k hR.wd_pos
    have hc := List.getElem?_eq_getElem (l := rs[r + k / wd]) (i := k % wd) (by omega)
    obtain ⟨v', _, a2, a3⟩ := hR.cell hrow hc
    refine ⟨v', a2, ?_⟩
    rw [← a3]
    congr 2
    have := Nat.div_add_mod k wd
    rw [Nat.add_mul, Nat.mul_comm (k / wd) wd]
    omega
  refine ⟨(List.range (l * wd)).map fun k => (w.cell? ⟨i.b, i.o + (r * wd + 0) + k, none⟩).getD undef, ⟨?_, ?_, ?_⟩, ?_, ?_⟩
  · intro x hx; exact hR.len x (List.mem_of_mem_drop (List.mem_of_mem_take hx))
  · simp [hlen]
  · intro q row c v hq hc
    have hql := lt_of_get hq
    rw [hlen] at hql
    rw [List.getElem?_take, if_pos hql, List.getElem?_drop] at hq
    have hcl := lt_of_get hc
    have hrl := hR.len _ (List.mem_of_getElem? hq)
    obtain ⟨v', a1, a2, a3⟩ := hR.cell hq hc
    refine ⟨v', a1, a2, ?_⟩
    have hm : (q + 1) * wd ≤ l * wd := Nat.mul_le_mul_right _ hql
    have he : (q + 1) * wd = q * wd + wd := Nat.succ_mul q wd
    rw [List.getElem?_toArray, List.getElem?_map, List.getElem?_range (by omega)]
    simp only [Option.map_some]
    rw [Nat.add_mul] at a3
    rw [show i.o + (r * wd + 0) + (q * wd + c) = i.o + (r * wd + q * wd + c) by omega, a3]
    rfl
  · intro j u hj
    rw [List.getElem?_map] at hj
    by_cases hjl : j < l * wd
    · rw [List.getElem?_range hjl] at hj
      simp only [Option.map_some, Option.some.injEq] at hj
      obtain ⟨v', _, hv'⟩ := hcell j hjl
      rw [hv'] at hj
      simp only [Option.getD_some] at hj
      subst hj
      rw [addr_add]; exact hv'
    · rw [List.getElem?_eq_none (by simp; omega)] at hj; cases hj
  · intro u hu
    simp only [List.mem_map, List.mem_range] at hu
    obtain ⟨k, hk, rfl⟩ := hu
    obtain ⟨v', a1, a2⟩ := hcell k hk
    rw [a2]; exact a1

theorem RowsA.append {wd : Nat} {rs xs : List (List Value)} {cs ds : Array Value} (h : RowsA E wd rs cs) (k : RowsA E wd xs ds) : RowsA E wd (rs ++ xs) (cs ++ ds) := by
  refine ⟨?_, ?_, ?_⟩
  · intro r hr
    rcases List.mem_append.1 hr with hr | hr
    · exact h.len r hr
    · exact k.len r hr
  · rw [Array.size_append, h.size, k.size, List.length_append, Nat.add_mul]
  · intro r row c v hr hc
    have hsz := h.size
    by_cases hrl : r < rs.length
    · rw [List.getElem?_append_left hrl] at hr
      obtain ⟨v', a1, a2, a3⟩ := h.cell r row c v hr hc
      have hcl := lt_of_get hc
      have hwd := h.len _ (List.mem_of_getElem? hr)
      have hm : (r + 1) * wd ≤ rs.length * wd := Nat.mul_le_mul_right _ hrl
      have he : (r + 1) * wd = r * wd + wd := Nat.succ_mul r wd
      exact ⟨v', a1, a2, by rw [Array.getElem?_append_left (by omega)]; exact a3⟩
    · rw [List.getElem?_append_right (by omega)] at hr
      obtain ⟨v', a1, a2, a3⟩ := k.cell _ row c v hr hc
      refine ⟨v', a1, a2, ?_⟩
      have hsub : (r - rs.length) * wd + rs.length * wd = r * wd := by rw [← Nat.add_mul]; congr 1; omega
      rw [Array.getElem?_append_right (by omega), show r * wd + c - cs.size = (r - rs.length) * wd + c by omega]
      exact a3

/-- New rows with spare room behind them. -/
theorem new_rows_spare {t : TypeId} {wd cap : Nat} {rs : List (List Value)} {cs rest : Array Value} (hE : E nx = none) (hwd : 0 < wd) (h : RowsA E wd rs cs) (hle : rs.length ≤ cap) (hcap : cap ≤ maxLen)
    (hrest : rest.size = (cap - rs.length) * wd) : BRel (E.set nx ⟨w.heap.size, 0, wd, cap, false⟩) (w.alloc (.cells (cs ++ rest) t)) nx (.rows t wd true false rs) := by
  have hle' := Env.set_le (i := ⟨w.heap.size, 0, wd, cap, false⟩) hE
  have hs := h.size
  refine ⟨_, Env.set_self _ _ _, .inr ⟨rfl, rfl, hwd, h.len, hle, (fun hh => by cases hh), hcap, cs ++ rest, (0, 0), ?_, ?_, ?_, ?_⟩⟩
  · show (w.heap.push _)[w.heap.size]? = _
    simp
  · simp only [Array.size_append, hs, hrest, ← Nat.add_mul]
    rw [show rs.length + (cap - rs.length) = cap by omega]
    omega
  · intro _ j _ _; simp
  · intro r row c v hr hc
    obtain ⟨v', a1, a2, a3⟩ := h.cell r row c v hr hc
    refine ⟨v', dv_mono hle' _ _ a1, a2, ?_⟩
    have hlt : r * wd + c < cs.size := by
      rcases Nat.lt_or_ge (r * wd + c) cs.size with q | q
      · exact q
      · rw [Array.getElem?_eq_none q] at a3; cases a3
    simp only [Nat.zero_add]
    rw [Array.getElem?_append_left hlt]; exact a3

/-- A new name for a nil slice. -/
theorem StepR.nilName (h : HRel E F w) (hE : E nx = none) (t : TypeId) (wd : Nat) : StepR E F w (E.set nx ⟨0, 0, 0, 0, true⟩) (F.set nx (.rows t wd true false [])) w := by
  have hle := Env.set_le (i := ⟨0, 0, 0, 0, true⟩) hE
  refine ⟨hle, ⟨?_, ?_⟩, rfl, rfl, rfl, Nat.le_refl _, fun _ _ _ => rfl, ?_⟩
  · intro n b hf
    unfold SF.set at hf
    split at hf
    · rename_i hn; subst hn; injection hf with hf; subst hf
      exact ⟨_, Env.set_self _ _ _, .inl ⟨rfl, rfl, rfl⟩⟩
    · exact (h.blk n b hf).mono hle fun _ _ _ => rfl
  · intro n m b c i j hf hg hnm ho hl hi hj hin hjn
    unfold SF.set at hf hg
    by_cases hn : n = nx
    · subst hn; rw [Env.set_self] at hi; injection hi with hi; subst hi; cases hin
    · by_cases hm : m = nx
      · subst hm; rw [Env.set_self] at hj; injection hj with hj; subst hj; cases hjn
      · rw [if_neg hn] at hf; rw [if_neg hm] at hg
        rw [Env.set_ne E _ hn] at hi; rw [Env.set_ne E _ hm] at hj
        exact h.sep n m b c i j hf hg hnm ho hl hi hj hin hjn
  · intro n b i hf ho hi hin
    unfold SF.set at hf
    by_cases hn : n = nx
    · subst hn; rw [Env.set_self] at hi; injection hi with hi; subst hi; cases hin
    · rw [if_neg hn] at hf; rw [Env.set_ne E _ hn] at hi
      exact .inr ⟨n, b, i, hf, ho, hi, hin, rfl⟩

/-- A name is forgotten. -/
theorem StepR.forget (h : HRel E F w) (n : Nat) : StepR E F w E (F.set n .dead) w := by
  refine ⟨Env.le.refl _, ⟨?_, ?_⟩, rfl, rfl, rfl, Nat.le_refl _, fun _ _ _ => rfl, ?_⟩
  · intro m b hf
    unfold SF.set at hf
    split at hf
    · injection hf with hf; subst hf; trivial
    · exact h.blk m b hf
  · intro m k b c i j hf hg hnm ho hl hi hj hin hjn
    unfold SF.set at hf hg
    split at hf
    · injection hf with hf; subst hf; cases ho
    · split at hg
      · injection hg with hg; subst hg; cases hl
      · exact h.sep m k b c i j hf hg hnm ho hl hi hj hin hjn
  · intro m b i hf ho hi hin
    unfold SF.set at hf
    split at hf
    · injection hf with hf; subst hf; cases ho
    · exact .inr ⟨m, b, i, hf, ho, hi, hin, rfl⟩


/-- New rows written into the room behind the known ones. -/
theorem StepR.extend (h : HRel E F w) (hE : E nx = none) {n : Nat} {e : TypeId} {wd : Nat} {ex : Bool} {rs xs : List (List Value)} {i : BI} (hF : F n = some (.rows e wd true ex rs)) (hi : E n = some i) (hn : i.nil = false)
    {news : List Value} (hA : RowsA E wd xs news.toArray) (hone : ∀ u ∈ news, u.oneCell' = true) (hroom : rs.length + xs.length ≤ i.n) :
    (storeCells ⟨i.b, i.o + (rs.length * wd), none⟩ news).run P w = .ok () (w.setCells i.b (i.o + rs.length * wd) news) ∧
    StepR E F w (E.set nx i) ((F.set n .dead).set nx (.rows e wd true false (rs ++ xs))) (w.setCells i.b (i.o + rs.length * wd) news) := by
  have hR := rowsRel_of h hF hi hn
  obtain ⟨cs, fz, b1, b2, b3, b4⟩ := hR.cells
  have hsz := hA.size
  simp only [List.size_toArray] at hsz
  have hm : (rs.length + xs.length) * wd ≤ i.n * wd := Nat.mul_le_mul_right _ hroom
  rw [Nat.add_mul] at hm
  have hle := Env.set_le (i := i) hE
  have hlt : i.b < w.heap.size := (h.blk n _ hF).lt rfl hi hn
  have hrun := run_storeCells_cells (P := P) i.b (i.o + rs.length * wd) news 0 w
    (fun j hj => by
      simp only [World.cell?, b1, Option.isSome_none, Bool.false_eq_true, if_false]
      rw [Array.getElem?_eq_getElem (by omega)]; rfl)
    (fun j hj => by
      have := b3 rfl (i.o + rs.length * wd + 0 + j) (by omega) (by omega)
      simp only [World.frozen?, b1]
      simpa using this) hone
  have hheap := heap_setCells i.b e fz news (i.o + rs.length * wd) cs w b1
  have hother := fun k (hk : k ≠ i.b) => heap_setCells_ne i.b k hk news (i.o + rs.length * wd) w
  have hsize := size_setCells i.b news (i.o + rs.length * wd) w
  obtain ⟨hos, htape, hout⟩ := os_setCells i.b news (i.o + rs.length * wd) w
  refine ⟨hrun, ?_⟩
  generalize w.setCells i.b (i.o + rs.length * wd) news = w' at *
  refine ⟨hle, ⟨?_, ?_⟩, hos, htape, hout, by omega, ?_, ?_⟩
  · intro m b hm'
    unfold SF.set at hm'
    split at hm'
    · rename_i hmn; subst hmn; injection hm' with hm'; subst hm'
      refine ⟨i, Env.set_self _ _ _, .inr ⟨hn, hR.wd_eq, hR.wd_pos, ?_, by simpa using hroom, (fun hh => by cases hh), hR.cap, setA cs (i.o + rs.length * wd) news, fz, hheap, by rw [setA_size]; exact b2, b3, ?_⟩⟩
      · intro x hx
        rcases List.mem_append.1 hx with hx | hx
        · exact hR.len x hx
        · exact hA.len x hx
      · intro r row c v hr hc
        rw [setA_get _ _ _ _ (by omega)]
        by_cases hrl : r < rs.length
        · rw [List.getElem?_append_left hrl] at hr
          obtain ⟨v', a1, a2, a3⟩ := b4 r row c v hr hc
          have hcl := lt_of_get hc
          have hwd := hR.len _ (List.mem_of_getElem? hr)
          have hm2 : (r + 1) * wd ≤ rs.length * wd := Nat.mul_le_mul_right _ hrl
          have he2 : (r + 1) * wd = r * wd + wd := Nat.succ_mul r wd
          rw [if_neg (by omega)]
          exact ⟨v', dv_mono hle _ _ a1, a2, a3⟩
        · rw [List.getElem?_append_right (by omega)] at hr
          obtain ⟨v', a1, a2, a3⟩ := hA.cell _ row c v hr hc
          rw [List.getElem?_toArray] at a3
          have hj := lt_of_get a3
          have hsub : (r - rs.length) * wd + rs.length * wd = r * wd := by rw [← Nat.add_mul]; congr 1; omega
          rw [if_pos (by omega), show i.o + (r * wd + c) - (i.o + rs.length * wd) = (r - rs.length) * wd + c by omega]
          exact ⟨v', dv_mono hle _ _ a1, a2, a3⟩
    · rename_i hmx
      split at hm'
      · injection hm' with hm'; subst hm'; trivial
      · rename_i hmn
        by_cases hl : b.live = true
        rotate_left
        · cases b <;> first | trivial | simp [SBlk.live] at hl
        refine (h.blk m b hm').mono hle fun j hj hjn => hother _ ?_
        exact fun e => h.sep n m _ b i j hF hm' (fun e => hmn e.symm) rfl hl hi hj hn hjn e.symm
  · intro m k b d a q hm' hk hmk hb hd ha hq han hqn
    unfold SF.set at hm' hk
    by_cases hmx : m = nx
    · subst hmx
      rw [Env.set_self] at ha; injection ha with ha; subst ha
      rw [if_neg (fun e => hmk e.symm)] at hk
      rw [Env.set_ne E _ (fun e => hmk e.symm)] at hq
      split at hk
      · injection hk with hk; subst hk; cases hd
      · rename_i hkn
        exact h.sep n k _ d i q hF hk (fun e => hkn e.symm) rfl hd hi hq hn hqn
    · rw [if_neg hmx] at hm'
      rw [Env.set_ne E _ hmx] at ha
      split at hm'
      · injection hm' with hm'; subst hm'; cases hb
      rename_i hmn
      by_cases hkx : k = nx
      · subst hkx
        rw [Env.set_self] at hq; injection hq with hq; subst hq
        exact h.sep m n b _ a i hm' hF hmn hb rfl ha hi han hn
      · rw [if_neg hkx] at hk
        rw [Env.set_ne E _ hkx] at hq
        split at hk
        · injection hk with hk; subst hk; cases hd
        · exact h.sep m k b d a q hm' hk hmk hb hd ha hq han hqn
  · intro k hk hno
    exact hother k (fun e => hno n _ i hF rfl hi hn e.symm)
  · intro m b q hm' hb hq hqn
    unfold SF.set at hm'
    by_cases hmx : m = nx
    · subst hmx
      rw [Env.set_self] at hq; injection hq with hq; subst hq
      exact .inr ⟨n, _, i, hF, rfl, hi, hn, rfl⟩
    · rw [if_neg hmx] at hm'
      rw [Env.set_ne E _ hmx] at hq
      split at hm'
      · injection hm' with hm'; subst hm'; cases hb
      · exact .inr ⟨m, b, q, hm', hb, hq, hqn, rfl⟩

end
end Go.Sx
end

section
set_option linter.unusedSimpArgs false
set_option linter.unusedVariables false
set_option linter.unnecessarySimpa false
set_option linter.unusedSectionVars false
namespace Go.Sx
section
variable {P : Program} {T : Tys} {E : Env} {F : SF} {nx : Nat} {w : World}

/-- The source of an append, as it lies in the world. -/
def Src (E : Env) (w : World) (size : Nat) (x' : Value) (xs : List (List Value)) : Prop :=
  (x' = .slice none 0 0 ∧ xs = []) ∨
  ∃ a c news, x' = .slice (some a) xs.length c ∧ RowsA E size xs (news : List Value).toArray ∧ (∀ (j : Nat) (u : Value), news[j]? = some u → w.cell? (a.add j) = some u) ∧ (∀ u ∈ news, u.oneCell' = true)

theorem src_of (h : HRel E F w) {size : Nat} {xt : TypeId} {x x' : Value} {p : Prop} {xs : List (List Value)} {rd : List Nat} (hs : srcRows T F size xt x = some (p, xs, rd)) (hp : p) (hx : dv E x = some x') : Src E w size x' xs := by
  unfold srcRows at hs
  split at hs
  · rename_i m r c l _ _
    split at hs
    rotate_left
    · cases hs
    rename_i e wd own ex rs hF
    split at hs
    rotate_left
    · cases hs
    rename_i hcw
    simp only [Bool.and_eq_true, beq_iff_eq] at hcw
    obtain ⟨rfl, rfl⟩ := hcw
    injection hs with hs
    simp only [Prod.mk.injEq] at hs
    obtain ⟨rfl, rfl, _⟩ := hs
    obtain ⟨i, hi, hor⟩ := dv_slice hx
    rcases hor with ⟨_, rfl, rfl⟩ | ⟨hn, rfl⟩
    · exact .inl ⟨rfl, by simp⟩
    · have hR := rowsRel_of h hF hi hn
      obtain ⟨news, a1, a2, a3⟩ := hR.part hp
      have hlen : ((rs.drop r).take l).length = l := by simp; omega
      exact .inr ⟨_, _, news, by rw [hlen, hR.wd_eq], a1, a2, a3⟩
  · injection hs with hs
    simp only [Prod.mk.injEq] at hs
    obtain ⟨_, rfl, _⟩ := hs
    simp [dv] at hx
    exact .inl ⟨hx.symm, rfl⟩
  · cases hs

theorem Src.len {size : Nat} {x' : Value} {xs : List (List Value)} (h : Src E w size x' xs) : (Builtin.lenOf x').run P w = .ok xs.length w := by
  rcases h with ⟨rfl, rfl⟩ | ⟨a, c, news, rfl, _, _, _⟩ <;> rfl
theorem Src.cells {size : Nat} {x' : Value} {xs : List (List Value)} (h : Src E w size x' xs) : ∃ news : List Value, (Builtin.firstCells size xs.length x').run P w = .ok news.toArray w ∧ RowsA E size xs news.toArray ∧ (∀ u ∈ news, u.oneCell' = true) := by
  rcases h with ⟨rfl, rfl⟩ | ⟨a, c, news, rfl, h1, h2, h3⟩
  · exact ⟨[], rfl, ⟨by simp, by simp, by simp⟩, by simp⟩
  · exact ⟨news, run_firstCells_some w size xs.length a xs.length c news (by simpa using h1.size) h2, h1, h3⟩

/-- append onto nil. -/
theorem append_nil (hT : T.Ok P) (h : HRel E F w) (hE : E nx = none) {t ty e : TypeId} {ei : TI} (hu : P.underlying t = some (.slice e)) (hei : T.get e = some ei) (hsz : 0 < ei.size) {x' : Value} {xs : List (List Value)}
    (hsrc : Src E w ei.size x' xs) (hb : xs.length * ei.bytes ≤ 140737488355328) (hm : xs.length ≤ 9223372036854775807) :
    ∃ v' w' E', (Builtin.append_ #[t, t] ty #[.slice none 0 0, x']).run P w = .ok v' w' ∧ dv E' (.slice (some ⟨nx, 0, some 0⟩) xs.length FULL) = some v' ∧
      StepR E F w E' (F.set nx (.rows e ei.size true false xs)) w' ∧ FreshIn E E' nx := by
  obtain ⟨x, hx, hx0, hx1, hx2⟩ := (hT _ _ hei).info
  have fresh : ∀ i : BI, FreshIn E (E.set nx i) nx := fun i => FreshIn.set (Nat.le_refl _) (by omega)
  have hnil : xs = [] → (Builtin.append_ #[t, t] ty #[.slice none 0 0, x']).run P w = .ok (.slice none 0 0) w → ∃ v' w' E', (Builtin.append_ #[t, t] ty #[.slice none 0 0, x']).run P w = .ok v' w' ∧ dv E' (.slice (some ⟨nx, 0, some 0⟩) xs.length FULL) = some v' ∧
      StepR E F w E' (F.set nx (.rows e ei.size true false xs)) w' ∧ FreshIn E E' nx := by
    intro hxs hr
    subst hxs
    exact ⟨_, _, E.set nx ⟨0, 0, 0, 0, true⟩, hr, by simp [dv, dS, Env.set_self], StepR.nilName h hE e ei.size, fresh _⟩
  rcases hsrc with ⟨rfl, rfl⟩ | ⟨a, c, news, rfl, h1, h2, h3⟩
  · refine hnil rfl ?_
    simp [Builtin.append_, run_underlying hu, sizeOf, typeInfo, hx, Builtin.lenOf, Builtin.firstCells]
  · by_cases h0 : xs.length = 0
    · have hxs : xs = [] := List.eq_nil_of_length_eq_zero h0
      refine hnil hxs ?_
      subst hxs
      simp [Builtin.append_, run_underlying hu, sizeOf, typeInfo, hx, Builtin.lenOf, Builtin.firstCells, loadCells, loadCellsFrom]
    · have hsz' := h1.size
      simp only [List.size_toArray] at hsz'
      have hr := run_append_nil (P := P) w t ty e x ei.zero hu hx hx0 a xs.length c news (by rw [hx1]; exact hsz') h2 (by omega) (by omega) (by rw [hx2]; omega)
      have hge := grownCap_ge w xs.length 0 e
      have hcm := grownCap_le_maxLen w xs.length 0 e (by unfold maxLen; omega)
      refine ⟨_, _, E.set nx ⟨w.heap.size, 0, ei.size, grownCap w xs.length 0 e, false⟩, hr, ?_, ?_, fresh _⟩
      · rw [dv_slice_mk (Env.set_self _ _ _) rfl]; simp
      · have hrest : (Builtin.zeroCells ei.zero.cells (grownCap w xs.length 0 e - xs.length)).size = (grownCap w xs.length 0 e - xs.length) * ei.size := by
          rw [size_zeroCells, ← Array.length_toList, cellsOf_eq, (hT _ _ hei).sz]
        have hb := new_rows_spare (w := w) (t := e) hE hsz h1 hge hcm hrest
        have := StepR.new h hE (.cells (news.toArray ++ Builtin.zeroCells ei.zero.cells (grownCap w xs.length 0 e - xs.length)) e) ⟨w.heap.size, 0, ei.size, grownCap w xs.length 0 e, false⟩ _ rfl hb
        exact this.drew

theorem sound_append (hT : T.Ok P) (h : HRel E F w) (hE : E nx = none) {t xt ty : TypeId} {s s' x x' : Value} {r : Res} (hs : semAppend T F nx t xt s x = some r) (hvc : r.vc) (hds : dv E s = some s') (hdx : dv E x = some x') :
    ∃ v' w', (Builtin.append_ #[t, xt] ty #[s', x']).run P w = .ok v' w' ∧ Gives E F nx w r v' w' := by
  unfold semAppend at hs
  split at hs
  rotate_left
  · cases hs
  rename_i e _ _ _ _ hti
  split at hs
  rotate_left
  · cases hs
  rename_i ei hei
  split at hs
  · cases hs
  rename_i hcond
  simp only [Bool.or_eq_true, beq_iff_eq, bne_iff_ne, ne_eq, not_or, Decidable.not_not] at hcond
  obtain ⟨hsz, rfl⟩ := hcond
  obtain ⟨d, hd, hk⟩ := (hT _ _ hti).desc
  obtain rfl := tk_slice hk
  obtain ⟨ix, hx, hx0, hx1, hx2⟩ := (hT _ _ hei).info
  split at hs
  · cases hs
  rename_i p xs rd hsrc
  split at hs
  · injection hs with hs; subst hs
    obtain ⟨hp, hb, hm⟩ := hvc
    simp [dv] at hds; subst hds
    obtain ⟨v', w', E', r1, r2, r3, r4⟩ := append_nil hT h hE (ty := ty) hd hei (by omega) (src_of h hsrc hp hdx) hb hm
    exact ⟨v', w', r1, E', r2, r3, r4⟩
  · rename_i n c l cap
    split at hs
    rotate_left
    · cases hs
    rename_i e' wd ex rs hF
    split at hs
    rotate_left
    · cases hs
    rename_i hc2
    simp only [Bool.and_eq_true, beq_iff_eq] at hc2
    obtain ⟨⟨⟨⟨rfl, rfl⟩, rfl⟩, rfl⟩, _⟩ := hc2
    injection hs with hs; subst hs
    obtain ⟨hp, rfl, hb, hm⟩ := hvc
    have hsrc' := src_of h hsrc hp hdx
    obtain ⟨i, hi, hor⟩ := dv_slice hds
    rcases hor with ⟨hn, hl0, rfl⟩ | ⟨hn, rfl⟩
    · have hrs : rs = [] := List.eq_nil_of_length_eq_zero hl0
      subst hrs
      have hf := StepR.forget h n
      simp only [List.length_nil, Nat.zero_add, List.nil_append] at hb hm ⊢
      obtain ⟨v', w', E', r1, r2, r3, r4⟩ := append_nil hT hf.rel hE (ty := ty) hd hei (by omega) hsrc' hb hm
      exact ⟨v', w', r1, E', r2, hf.trans r3, r4⟩
    · have hR := rowsRel_of h hF hi hn
      have hw := hR.wd_eq
      obtain ⟨news, c1, c2, c3⟩ := hsrc'.cells (P := P)
      have hlen := hsrc'.len (P := P)
      simp only [Nat.zero_mul, Nat.add_zero, if_true, Nat.sub_zero]
      by_cases hroom : rs.length + xs.length ≤ i.n
      · obtain ⟨e1, e2⟩ := StepR.extend (P := P) h hE hF hi hn c2 c3 hroom
        refine ⟨.slice (some ⟨i.b, i.o, none⟩) (rs.length + xs.length) i.n, w.setCells i.b (i.o + rs.length * ei.size) news, ?_, E.set nx i, ?_, e2, FreshIn.set (Nat.le_refl _) (by omega)⟩
        · simp [Builtin.append_, run_underlying hd, sizeOf, typeInfo, hx, hx1, hlen, hroom, c1, addr_add, e1]
        · rw [dv_slice_mk (Env.set_self _ _ _) hn]; simp
      · -- growth
        rcases hsrc' with ⟨rfl, rfl⟩ | ⟨a, cx, news', rfl, h1, h2, h3⟩
        · have := hR.le; simp at hroom; omega
        · obtain ⟨olds, o1, o2, o3⟩ := hR.part (r := 0) (l := rs.length) (by omega)
          simp only [List.drop_zero, List.take_length, Nat.zero_mul, Nat.add_zero] at o1 o2
          have hso := o1.size
          have hsn := h1.size
          simp only [List.size_toArray] at hso hsn
          have hr := run_append_grow (P := P) w t ty e' ix ei.zero hd hx hx0 ⟨i.b, i.o, none⟩ rs.length i.n olds (by rw [hx1]; exact hso) o2 a xs.length cx news' (by rw [hx1]; exact hsn) h2 (by omega) (by omega)
            (growslice_fits (by omega) (by rw [hx2]; exact hb))
          have hge := grownCap_ge w (rs.length + xs.length) i.n e'
          have hcm := grownCap_le_maxLen w (rs.length + xs.length) i.n e' (by unfold maxLen; omega)
          refine ⟨_, _, hr, E.set nx ⟨w.heap.size, 0, ei.size, grownCap w (rs.length + xs.length) i.n e', false⟩, ?_, ?_, FreshIn.set (Nat.le_refl _) (by omega)⟩
          · rw [dv_slice_mk (Env.set_self _ _ _) rfl]; simp
          · have hf := StepR.forget h n
            have hrest : (Builtin.zeroCells ei.zero.cells (grownCap w (rs.length + xs.length) i.n e' - (rs.length + xs.length))).size = (grownCap w (rs.length + xs.length) i.n e' - (rs ++ xs).length) * ei.size := by
              rw [size_zeroCells, ← Array.length_toList, cellsOf_eq, (hT _ _ hei).sz, List.length_append]
            have hb := new_rows_spare (w := w) (t := e') hE (by omega) (o1.append h1) (by simpa using hge) hcm hrest
            exact (hf.trans (StepR.new hf.rel hE _ ⟨w.heap.size, 0, ei.size, grownCap w (rs.length + xs.length) i.n e', false⟩ _ rfl hb)).drew
  · cases hs

end
end Go.Sx
end

section
set_option linter.unusedSimpArgs false
set_option linter.unusedVariables false
set_option linter.unnecessarySimpa false
set_option linter.unusedSectionVars false
namespace Go.Sx
section
variable {P : Program} {T : Tys} {E : Env} {F : SF} {nx : Nat} {w : World}

theorem sound_len (hT : T.Ok P) (h : HRel E F w) {t ty : TypeId} {x x' : Value} {r : Res} (hs : semLen T F t x = some r) (hx : dv E x = some x') :
    ∃ v', (Builtin.len_ #[t] ty #[x']).run P w = .ok v' w ∧ Gives E F nx w r v' w := by
  unfold semLen at hs
  split at hs
  · rename_i hti
    simp [dv] at hx; subst hx
    injection hs with hs; subst hs
    obtain ⟨d, hd, hk⟩ := (hT _ _ hti).run_underlying w
    obtain rfl := tk_str hk
    rename_i s
    exact ⟨.int .i64 s.size, by simp [Builtin.len_, hd, goInt], Gives.still h rfl (by simp [mkRes, dv])⟩
  · rename_i a n c hti
    injection hs with hs; subst hs
    obtain ⟨d, hd, hk⟩ := (hT _ _ hti).run_underlying w
    obtain rfl := tk_slice hk
    have hx' : ∃ a' c', x' = .slice a' n c' := by
      cases a with
      | none => simp [dv] at hx; exact ⟨_, _, hx.symm⟩
      | some a =>
        simp only [dv, dS] at hx
        split at hx
        rotate_left
        · cases hx
        split at hx
        · split at hx
          · rename_i hn; subst hn; injection hx with hx; exact ⟨_, _, hx.symm⟩
          · cases hx
        · injection hx with hx; exact ⟨_, _, hx.symm⟩
    obtain ⟨a', c', rfl⟩ := hx'
    exact ⟨.int .i64 n, by simp [Builtin.len_, hd, goInt], Gives.still h rfl (by simp [mkRes, dv])⟩
  · rename_i hti
    split at hs
    rotate_left
    · cases hs
    rename_i r _ own es hF
    injection hs with hs; subst hs
    obtain ⟨d, hd, hk⟩ := (hT _ _ hti).run_underlying w
    obtain rfl := tk_map hk
    obtain ⟨i, hi, hn, ents, clk, h1, h2⟩ := h.blk _ _ hF
    simp only [dv, dM, hi, hn] at hx
    simp at hx; subst hx
    have hl : ∀ {l : List MapEntry} {l' : List (Value × Value)}, MRel E l l' → l.length = l'.length := by
      intro l
      induction l with
      | nil => intro l' h; cases l' <;> simp_all [MRel]
      | cons a l ih => intro l' h; cases l' with
        | nil => simp [MRel] at h
        | cons b l' => simp [ih h.2.2]
    refine ⟨.int .i64 es.length, ?_, Gives.still h rfl (by simp [dv])⟩
    have := hl h2
    simp only [Array.length_toList] at this
    simp [Builtin.len_, hd, getObj, Sem.run, h1, goInt, this]
  · rename_i hti
    injection hs with hs; subst hs
    obtain ⟨d, hd, hk⟩ := (hT _ _ hti).run_underlying w
    obtain rfl := tk_array hk
    refine ⟨_, ?_, Gives.still h rfl (by simp [mkRes, dv]; rfl)⟩
    simp only [Builtin.len_]
    simp [hd, goInt]
  · cases hs

theorem sound_min (h : HRel E F w) {ty : TypeId} {ts : Array TypeId} {isMax : Bool} {a b a' b' : Value} {r : Res} (hs : semMin isMax a b = some r) (ha : dv E a = some a') (hb : dv E b = some b') :
    ∃ v', (if isMax then Builtin.max_ ts ty #[a', b'] else Builtin.min_ ts ty #[a', b']).run P w = .ok v' w ∧ Gives E F nx w r v' w := by
  unfold semMin at hs
  split at hs
  rotate_left
  · cases hs
  rename_i k x k' y
  split at hs
  rotate_left
  · cases hs
  rename_i hk; subst hk
  simp [dv] at ha hb; subst ha; subst hb
  injection hs with hs; subst hs
  cases isMax
  · refine ⟨.int k (min x y), ?_, Gives.still h rfl (by simp [mkRes, dv])⟩
    have : (if y < x then y else x) = min x y := by simp only [Int.min_def]; split <;> split <;> omega
    simp [Builtin.min_, Builtin.min2, this]
  · refine ⟨.int k (max x y), ?_, Gives.still h rfl (by simp [mkRes, dv])⟩
    have : (if x < y then y else x) = max x y := by simp only [Int.max_def]; split <;> split <;> omega
    simp [Builtin.max_, Builtin.max2, this]

theorem run_bytesLoop {cs : List Value} {acc : ByteArray} (rows : List (List Value)) (hl : cs.length = rows.length) (h : ∀ (j : Nat) (row : List Value) (v : Value), rows[j]? = some row → cs[j]? = some v → ∃ n : Int, row = [.int .u8 n] ∧ v = .int .u8 n) :
    (forIn cs acc (fun c s => (match c with | .int .u8 n => pure (ForInStep.yield (s.push (UInt8.ofNat n.toNat))) | _ => do stuck "bytesToString: byte expected"; pure (ForInStep.yield s) : Sem (ForInStep ByteArray)))).run P w = .ok ⟨acc.data ++ (rows.map byteOfRow).toArray⟩ w := by
  induction cs generalizing rows acc with
  | nil =>
    have : rows = [] := List.eq_nil_of_length_eq_zero (by simpa using hl.symm)
    subst this; simp
  | cons v l ih =>
    cases rows with
    | nil => simp at hl
    | cons row rows =>
      obtain ⟨n, rfl, rfl⟩ := h 0 row v rfl rfl
      simp only [List.forIn_cons, Sem.run_bind, Sem.run_pure, Result.andThen_ok]
      rw [ih rows (by simpa using hl) (fun j row v h1 h2 => h (j + 1) row v (by simpa using h1) (by simpa using h2))]
      congr 2
      simp [byteOfRow, ByteArray.push]


theorem heap_push_modify (h : Array Obj) (o : Obj) (f : Obj → Obj) : (h.push o).modify h.size f = h.push (f o) := by
  apply Array.ext'
  apply List.ext_getElem?
  intro j
  rw [Array.getElem?_toList, Array.getElem?_toList, Array.getElem?_modify, Array.getElem?_push, Array.getElem?_push]
  by_cases hj : j = h.size
  · subst hj; simp
  · rw [if_neg (fun e => hj e.symm), if_neg hj]
    simp [hj]

theorem run_stringToBytes (e : TypeId) (s : ByteArray) (w : World) (cap : Nat) (hcap : (Question.appendCap s.size 0 e).cut (w.tape w.drawn (.appendCap s.size 0 e)) = cap) (cs : Array Value)
    (hcs : cs = (s.data.map fun b => .int .u8 b.toNat) ++ Array.replicate (cap - s.size) (.int .u8 0)) (hsz : cs.size = cap) :
    (Conv.stringToBytes e s).run P w = .ok (.slice (some ⟨w.heap.size, 0, none⟩) s.size cap) (w.alloc (.cells cs e (cap, cap + 1))).drew := by
  have h1 : (choose (.appendCap s.size 0 e)).run P w = .ok cap w.drew := by rw [← hcap]; rfl
  have h2 : (newRow e cs).run P w.drew = .ok ⟨w.heap.size, 0, none⟩ (w.alloc (.cells cs e)).drew := rfl
  have h3 : (shape w.heap.size).run P (w.alloc (.cells cs e)).drew = .ok (some (e, cap)) (w.alloc (.cells cs e)).drew := by
    simp only [shape, Sem.run]
    congr 1
    simp only [World.shape?]
    rw [show (w.alloc (.cells cs e)).drew.heap = w.heap.push (.cells cs e) from rfl]
    simp [hsz]
  have h4 : (freeze { block := w.heap.size, off := cap } 1).run P (w.alloc (.cells cs e)).drew = .ok () (w.alloc (.cells cs e (cap, cap + 1))).drew := by
    simp only [freeze, Sem.run]
    congr 1
    simp only [World.freeze]
    rw [if_neg (by omega)]
    show ({ (w.alloc (.cells cs e)).drew with heap := (w.heap.push (.cells cs e)).modify w.heap.size _ } : World) = _
    rw [heap_push_modify]
    rfl
  simp only [Conv.stringToBytes, Sem.run_bind, h1, Result.andThen_ok]
  rw [← hcs]
  simp only [h2, Result.andThen_ok, markStringish, Sem.run_bind, h3, h4, Sem.run_pure]

theorem sound_conv (hT : T.Ok P) (h : HRel E F w) (hE : E nx = none) {src dst : TypeId} {x x' : Value} {r : Res} (hs : semConv T F nx src dst x = some r) (hvc : r.vc) (hx : dv E x = some x') :
    ∃ v' w', (convert src dst x').run P w = .ok v' w' ∧ Gives E F nx w r v' w' := by
  unfold semConv at hs
  split at hs
  rotate_left
  · cases hs
  rename_i si di hsi hdi
  obtain ⟨ds, hds, hks⟩ := (hT _ _ hsi).run_underlying w
  obtain ⟨dd, hdd, hkd⟩ := (hT _ _ hdi).run_underlying w
  split at hs
  · rename_i k0 k k1 n h1 h2
    rw [h1] at hks; rw [h2] at hkd
    obtain rfl := tk_int hks
    obtain rfl := tk_int hkd
    simp [dv] at hx; subst hx
    split at hs
    · rename_i hk; subst hk
      injection hs with hs; subst hs
      refine ⟨.int .i64 n, w, ?_, Gives.still h rfl (by simp [mkRes, dv])⟩
      simp [convert, hds, hdd, Conv.intToInt, wrap_i64 hvc]
    · injection hs with hs; subst hs
      refine ⟨.int k (k.wrap n), w, ?_, Gives.still h rfl (by simp [mkRes, dv])⟩
      simp [convert, hds, hdd, Conv.intToInt]
  · rename_i s h1 h2
    rw [h1] at hks; rw [h2] at hkd
    obtain rfl := tk_str hks
    obtain rfl := tk_str hkd
    simp [dv] at hx; subst hx
    injection hs with hs; subst hs
    refine ⟨.string s, w, ?_, Gives.still h rfl (by simp [mkRes, dv])⟩
    simp [convert, hds, hdd]
  · rename_i e n row c l cap h1 h2
    rw [h1] at hks; rw [h2] at hkd
    obtain rfl := tk_slice hks
    obtain rfl := tk_str hkd
    split at hs
    rotate_left
    · cases hs
    rename_i _ _ _ _ e0 wd own ex rs hei hF
    split at hs
    rotate_left
    · cases hs
    rename_i hcw
    simp only [Bool.and_eq_true, beq_iff_eq] at hcw
    obtain ⟨rfl, rfl⟩ := hcw
    injection hs with hs; subst hs
    obtain ⟨v1, v2⟩ := hvc
    obtain ⟨de, hde, hke⟩ := (hT _ _ hei).run_underlying w
    obtain rfl := tk_int hke
    have hrun : ∀ y : Value, (∀ s, y ≠ .string s) → (∀ k n, y ≠ .int k n) → (convert src dst y).run P w = (Conv.bytesToString y).run P w := by
      intro y hy hy2
      cases y <;> simp_all [convert]
    obtain ⟨i, hi, hor⟩ := dv_slice hx
    rcases hor with ⟨hn, rfl, rfl⟩ | ⟨hn, rfl⟩
    · refine ⟨.string .empty, w, ?_, Gives.still h rfl ?_⟩
      · rw [hrun _ (by simp) (by simp)]; rfl
      · simp [dv, bytesOf]; rfl
    · have hR := rowsRel_of h hF hi hn
      obtain ⟨news, a1, a2, a3⟩ := hR.part v1
      have hsz := a1.size
      have hlen : ((rs.drop row).take l).length = l := by simp; omega
      simp only [List.size_toArray, Nat.mul_one, hlen] at hsz
      refine ⟨.string (bytesOf ((rs.drop row).take l)), w, ?_, Gives.still h rfl (by simp [dv])⟩
      rw [hrun _ (by simp) (by simp)]
      have hload : (loadCells ⟨i.b, i.o + (row * i.wd + 0), none⟩ l).run P w = .ok news.toArray w := by
        rw [← hsz, hR.wd_eq]; exact run_loadCells_list w _ news a2
      have hloop := run_bytesLoop (P := P) (w := w) (cs := news) (acc := .empty) ((rs.drop row).take l) (by omega) (fun j rw_ v q1 q2 => by
        obtain ⟨n, hn⟩ := v2 rw_ (List.mem_of_getElem? q1)
        subst hn
        obtain ⟨v', b1, _, b3⟩ := a1.cell j _ 0 (.int .u8 n) q1 rfl
        simp [dv] at b1; subst b1
        simp only [Nat.mul_one, Nat.add_zero, List.getElem?_toArray] at b3
        rw [q2] at b3
        exact ⟨n, rfl, by injection b3⟩)
      simp only [Conv.bytesToString, Sem.run_bind, hload, Result.andThen_ok]
      rw [← Array.forIn_toList]
      refine (congrArg (fun q : Result ByteArray => q.andThen fun a w' => Sem.run P (pure (Value.string a)) w') (hloop : _)).trans ?_
      simp [bytesOf]
  · rename_i e s h1 h2
    rw [h1] at hks; rw [h2] at hkd
    obtain rfl := tk_str hks
    obtain rfl := tk_slice hkd
    simp [dv] at hx; subst hx
    split at hs
    rotate_left
    · cases hs
    rename_i _ _ _ hei
    injection hs with hs; subst hs
    obtain ⟨de, hde, hke⟩ := (hT _ _ hei).run_underlying w
    obtain rfl := tk_int hke
    have hcut : ∀ t, (Question.appendCap s.size 0 e).cut t = s.size + t % (2 ^ 63 - s.size) := fun t => rfl
    generalize hcap : s.size + (w.tape w.drawn (.appendCap s.size 0 e)) % (2 ^ 63 - s.size) = cap
    have hge : s.size ≤ cap := by omega
    have hle : cap ≤ maxLen := by
      have := Nat.mod_lt (w.tape w.drawn (.appendCap s.size 0 e)) (show 0 < 2 ^ 63 - s.size by omega)
      unfold maxLen; omega
    let cs : Array Value := s.data.map fun b => .int .u8 b.toNat
    let o : Obj := .cells (cs ++ Array.replicate (cap - s.size) (.int .u8 0)) e (cap, cap + 1)
    have hcs : cs.size = s.size := by simp [cs]
    have hA : RowsA E 1 (s.data.toList.map rowOfByte) cs := by
      refine ⟨by intro r hr; simp [rowOfByte] at hr; obtain ⟨b, _, rfl⟩ := hr; rfl, by simp [cs], ?_⟩
      intro r row c v hr hc
      rw [List.getElem?_map] at hr
      cases hb : s.data.toList[r]? with
      | none => rw [hb] at hr; cases hr
      | some b =>
        rw [hb] at hr; simp only [Option.map_some, Option.some.injEq] at hr; subst hr
        have hc0 : c = 0 := by have := lt_of_get hc; simp [rowOfByte] at this; exact this
        subst hc0
        simp [rowOfByte] at hc; subst hc
        refine ⟨.int .u8 b.toNat, by simp [dv], rfl, ?_⟩
        rw [Array.getElem?_toList] at hb
        simp [cs, hb]
    have hb : BRel (E.set nx ⟨w.heap.size, 0, 1, cap, false⟩) (w.alloc o) nx (.rows e 1 true false (s.data.toList.map rowOfByte)) := by
      have hle' := Env.set_le (i := ⟨w.heap.size, 0, 1, cap, false⟩) hE
      have hsl : s.data.toList.length = s.size := rfl
      refine ⟨_, Env.set_self _ _ _, .inr ⟨rfl, rfl, by omega, hA.len, by simp; exact hge, (fun hh => by cases hh), hle, cs ++ Array.replicate (cap - s.size) (.int .u8 0), (cap, cap + 1), ?_, ?_, ?_, ?_⟩⟩
      · show (w.heap.push _)[w.heap.size]? = _
        simp [o]
      · simp [hcs]; omega
      · intro _ j _ hj; simp at hj ⊢; omega
      · intro r row c v hr hc
        obtain ⟨v', a1, a2, a3⟩ := hA.cell r row c v hr hc
        refine ⟨v', dv_mono hle' _ _ a1, a2, ?_⟩
        have hlt : r * 1 + c < cs.size := by
          rcases Nat.lt_or_ge (r * 1 + c) cs.size with q | q
          · exact q
          · rw [Array.getElem?_eq_none q] at a3; cases a3
        simp only [Nat.zero_add]
        rw [Array.getElem?_append_left hlt]; exact a3
    refine ⟨.slice (some ⟨w.heap.size, 0, none⟩) s.size cap, (w.alloc o).drew, ?_, E.set nx ⟨w.heap.size, 0, 1, cap, false⟩, ?_, (StepR.new h hE o _ _ rfl hb).drew, FreshIn.set (Nat.le_refl _) (by omega)⟩
    · have hr := run_stringToBytes (P := P) e s w cap (by rw [hcut, hcap]) _ rfl (by simp; have : s.data.size = s.size := rfl; omega)
      simp only [convert, Sem.run_bind, hds, hdd, hde, Result.andThen_ok, hr]
      rfl
    · rw [dv_slice_mk (Env.set_self _ _ _) rfl]; simp
  · cases hs

end
end Go.Sx
end

section
set_option linter.unusedSimpArgs false
set_option linter.unusedVariables false
set_option linter.unnecessarySimpa false
set_option linter.unusedSectionVars false
namespace Go.Sx

/-! ### Maps with int keys -/
def mapGet : List (Value × Value) → Int → Option Value
  | [], _ => none
  | (.int _ m, v) :: l, n => if m = n then some v else mapGet l n
  | _ :: l, n => mapGet l n
def mapPut : List (Value × Value) → Int → Value → List (Value × Value)
  | [], n, v => [(.int .i64 n, v)]
  | (.int k m, u) :: l, n, v => if m = n then (.int .i64 n, v) :: l else (.int k m, u) :: mapPut l n v
  | e :: l, n, v => e :: mapPut l n v
def intKeys (es : List (Value × Value)) : Prop := ∀ e ∈ es, ∃ m, e.1 = .int .i64 m

noncomputable def semMakeMap (T : Tys) (nx : Nat) (t : TypeId) : Option Res :=
  match T.get t with
  | some { k := .map _ _, .. } => some ⟨True, .map (some nx), [(nx, .map true [])], []⟩
  | _ => none
noncomputable def semLookup (T : Tys) (F : SF) (t : TypeId) (x i : Value) (ok : Bool) : Option Res :=
  match T.get t, x, i with
  | some { k := .map kt et, .. }, .map (some r), .int .i64 n =>
    match T.get kt, T.get et, F r with
    | some { k := .int .i64, .. }, some ei, some (.map _ es) => some ⟨intKeys es, if ok then .tuple #[(mapGet es n).getD ei.zero, .bool (mapGet es n).isSome] else (mapGet es n).getD ei.zero, [], [r]⟩
    | _, _, _ => none
  | _, _, _ => none
noncomputable def semMapUpdate (T : Tys) (F : SF) (t : TypeId) (x i v : Value) : Option Res :=
  match T.get t, x, i with
  | some { k := .map kt _, .. }, .map (some r), .int .i64 n =>
    match T.get kt, F r with
    | some { k := .int .i64, .. }, some (.map true es) => some ⟨intKeys es, undef, [(r, .map true (mapPut es n v))], [r]⟩
    | _, _ => none
  | _, _, _ => none

/-- A map of one's own is changed. -/
theorem StepR.setMap {E : Env} {F : SF} {w : World} (h : HRel E F w) {n : Nat} {es es' : List (Value × Value)} {i : BI} (hF : F n = some (.map true es)) (hi : E n = some i) (hnil : i.nil = false)
    {ents : Array MapEntry} {clk : Nat} (hm : MRel E ents.toList es') (hb : i.b < w.heap.size) :
    StepR E F w E (F.set n (.map true es')) { w with heap := w.heap.setIfInBounds i.b (.map ents clk) } := by
  have hother : ∀ k, k ≠ i.b → (w.heap.setIfInBounds i.b (.map ents clk))[k]? = w.heap[k]? := fun k hk => by simp [Ne.symm hk]
  refine ⟨Env.le.refl _, ⟨?_, ?_⟩, rfl, rfl, rfl, by simp, ?_, ?_⟩
  · intro m b hmb
    unfold SF.set at hmb
    split at hmb
    · rename_i hmn; subst hmn; injection hmb with hmb; subst hmb
      exact ⟨i, hi, hnil, ents, clk, by simp [hb], hm⟩
    · rename_i hmn
      by_cases hl : b.live = true
      rotate_left
      · cases b <;> first | trivial | simp [SBlk.live] at hl
      refine (h.blk m b hmb).mono (Env.le.refl _) fun j hj hjn => hother _ ?_
      exact fun e => h.sep n m _ b i j hF hmb (fun e => hmn e.symm) rfl hl hi hj hnil hjn e.symm
  · intro m k b d a q hm' hk hmk hb' hd ha hq han hqn
    unfold SF.set at hm' hk
    by_cases hmn : m = n
    · subst hmn
      rw [if_neg (fun e => hmk e.symm)] at hk
      exact h.sep m k _ d a q hF hk hmk rfl hd ha hq han hqn
    · rw [if_neg hmn] at hm'
      by_cases hkn : k = n
      · subst hkn
        exact h.sep m k b _ a q hm' hF hmk hb' rfl ha hq han hqn
      · rw [if_neg hkn] at hk
        exact h.sep m k b d a q hm' hk hmk hb' hd ha hq han hqn
  · intro k hk hno
    exact hother k (fun e => hno n _ i hF rfl hi hnil e.symm)
  · intro m b q hm' hb' hq hqn
    unfold SF.set at hm'
    by_cases hmn : m = n
    · subst hmn
      exact .inr ⟨m, _, q, hF, rfl, hq, hqn, rfl⟩
    · rw [if_neg hmn] at hm'
      exact .inr ⟨m, b, q, hm', hb', hq, hqn, rfl⟩

def Found (E : Env) (n : Int) (l : List MapEntry) (es : List (Value × Value)) (i : Nat) : Option (Nat × Value) → Prop
  | none => mapGet es n = none ∧ (∀ v, mapPut es n v = es ++ [(.int .i64 n, v)])
  | some ju => i ≤ ju.1 ∧ ∃ (v : Value) (e : MapEntry), mapGet es n = some v ∧ dv E v = some ju.2 ∧ l[ju.1 - i]? = some e ∧ e.key = .int .i64 n ∧
      (∀ (x y : Value), dv E x = some y → MRel E (l.modify (ju.1 - i) (fun e => { e with key := .int .i64 n, val := y })) (mapPut es n x))

theorem mFind {E : Env} {n : Int} : ∀ {l : List MapEntry} {es : List (Value × Value)} (i : Nat), MRel E l es → intKeys es →
    ∃ a : Option (Nat × Value), Instr.findNow (.int .i64) (.int .i64 n) l i = some a ∧ Found E n l es i a
  | [], [], i, _, _ => ⟨none, rfl, rfl, fun _ => rfl⟩
  | e :: l, kv :: es, i, h, hk => by
    obtain ⟨m, hm⟩ := hk kv (by simp)
    obtain ⟨k, u⟩ := kv
    simp only at hm; subst hm
    obtain ⟨h1, h2, h3⟩ := h
    simp only [dv, Option.some.injEq] at h1
    have hkk : intKeys es := fun x hx => hk x (by simp [hx])
    by_cases hmn : m = n
    · subst hmn
      refine ⟨some (i, e.val), by simp [Instr.findNow, Instr.sameNow, ← h1], Nat.le_refl _, u, e, by simp [mapGet], h2, by simp, h1.symm, ?_⟩
      intro v v' hv
      simp only [Nat.sub_self, List.modify_zero_cons, mapPut, if_true]
      exact ⟨rfl, hv, h3⟩
    · obtain ⟨a, q1, q2⟩ := mFind (n := n) (i + 1) h3 hkk
      refine ⟨a, by simp [Instr.findNow, Instr.sameNow, ← h1, show (n == m) = false by simp [Ne.symm hmn], q1], ?_⟩
      cases a with
      | none => exact ⟨by simp [mapGet, hmn, q2.1], fun v => by simp [mapPut, hmn, q2.2 v]⟩
      | some ju =>
        obtain ⟨j, x⟩ := ju
        obtain ⟨a1, v, e', a2, a3, a4, a5, a6⟩ := q2
        have hj : j - i = (j - (i + 1)) + 1 := by omega
        refine ⟨by omega, v, e', by simp [mapGet, hmn, a2], a3, by rw [hj]; simpa using a4, a5, ?_⟩
        intro v v' hv
        rw [hj]
        simp only [List.modify_succ_cons, mapPut, if_neg hmn]
        exact ⟨by simp [dv, h1], h2, a6 v v' hv⟩
  | [], _ :: _, _, h, _ => h.elim
  | _ :: _, [], _, h, _ => h.elim

section
variable {P : Program} {T : Tys} {E : Env} {F : SF} {nx : Nat} {w : World}

theorem sound_makeMap (h : HRel E F w) (hE : E nx = none) {t : TypeId} {r : Res} (hs : semMakeMap T nx t = some r) : ∃ v' w', (Instr.makeMap t none).run P w = .ok v' w' ∧ Gives E F nx w r v' w' := by
  unfold semMakeMap at hs
  split at hs
  rotate_left
  · cases hs
  injection hs with hs; subst hs
  refine ⟨.map (some w.heap.size), w.alloc (.map #[] 0), by simp [Instr.makeMap, Result.andThen], E.set nx ⟨w.heap.size, 0, 1, 0, false⟩, ?_, StepR.new h hE (.map #[] 0) _ _ rfl ?_, FreshIn.set (Nat.le_refl _) (by omega)⟩
  · simp [dv, dM, Env.set_self]
  · exact ⟨_, Env.set_self _ _ _, rfl, #[], 0, (MapKept.heap_alloc w _).1, trivial⟩

theorem plain_zero {t : TypeId} {i : TI} (h : TOk P t i) : plain i.zero = true := by
  have h1 := h.pl
  have h2 := h.one
  cases hz : i.zero with
  | agg cs =>
    rw [hz] at h1 h2
    obtain ⟨cs⟩ := cs
    simp only [plain, plainA, Bool.and_eq_true]
    exact ⟨by simpa [cellsOf] using h1, by simpa [cellsOf] using h2⟩
  | _ => rw [hz] at h1; simpa [cellsOf, plainL] using h1
theorem dv_map {r : Nat} {v' : Value} {i : BI} (hi : E r = some i) (hn : i.nil = false) (h : dv E (.map (some r)) = some v') : v' = .map (some i.b) := by
  simp only [dv, dM, hi, hn] at h
  simpa using h.symm

theorem sound_lookup (hT : T.Ok P) (h : HRel E F w) {t : TypeId} {x k x' k' : Value} {ok : Bool} {r : Res} (hs : semLookup T F t x k ok = some r) (hvc : r.vc) (hx : dv E x = some x') (hk : dv E k = some k') :
    ∃ v', (Instr.lookup t x' k' ok).run P w = .ok v' w ∧ Gives E F nx w r v' w := by
  unfold semLookup at hs
  split at hs
  rotate_left
  · cases hs
  rename_i kt et _ _ _ _ rr n hti
  split at hs
  rotate_left
  · cases hs
  rename_i _ _ _ _ ei own es hki hei hF
  injection hs with hs; subst hs
  simp only at hvc
  simp only [dv, Option.some.injEq] at hk; subst hk
  obtain ⟨i, hi, hn, ents, clk, hb, hm⟩ := h.blk _ _ hF
  have hx' := dv_map hi hn hx
  subst hx'
  obtain ⟨d, hd, hkd⟩ := (hT _ _ hti).desc
  obtain rfl := tk_map hkd
  obtain ⟨d2, hd2, hkd2⟩ := (hT _ _ hki).desc
  have hd2' : d2 = .int .i64 := by cases d2 <;> simp [tk] at hkd2; rw [hkd2]
  subst hd2'
  obtain ⟨a, q1, q2⟩ := mFind (n := n) 0 hm hvc
  have hz : (zeroValue et).run P w = .ok ei.zero w := (hT _ _ hei).run_zeroValue w
  have hik : MapKept.IsKey (.int .i64) (.int .i64 n) := by simp [MapKept.IsKey]
  cases a with
  | none =>
    refine ⟨if ok then .tuple #[ei.zero, .bool false] else ei.zero, ?_, Gives.still h rfl ?_⟩
    · simp [Instr.lookup, run_underlying hd, MapKept.run_getObj_map hb, MapKept.run_checkKey hd2 hik, MapKept.run_findKey hd2 q1, hz, Result.andThen]
    · cases ok <;> simp [q2.1, dv, dva, dvl, dv_plain E _ (plain_zero (hT _ _ hei))]
  | some ju =>
    obtain ⟨_, v, e, a2, a3, _⟩ := q2
    refine ⟨if ok then .tuple #[ju.2, .bool true] else ju.2, ?_, Gives.still h rfl ?_⟩
    · simp [Instr.lookup, run_underlying hd, MapKept.run_getObj_map hb, MapKept.run_checkKey hd2 hik, MapKept.run_findKey hd2 q1, Result.andThen]
    · cases ok <;> simp [a2, dv, dva, dvl, a3]

theorem MRel.push {l : List MapEntry} {es : List (Value × Value)} {e : MapEntry} {k v : Value} : MRel E l es → dv E k = some e.key → dv E v = some e.val → MRel E (l ++ [e]) (es ++ [(k, v)]) := by
  induction l generalizing es with
  | nil => intro h h1 h2; cases es with
    | nil => exact ⟨h1, h2, trivial⟩
    | cons _ _ => exact h.elim
  | cons a l ih => intro h h1 h2; cases es with
    | nil => exact h.elim
    | cons b es => exact ⟨h.1, h.2.1, ih h.2.2 h1 h2⟩

theorem sound_mapUpdate (hT : T.Ok P) (h : HRel E F w) {t : TypeId} {x k v x' k' v' : Value} {r : Res} (hs : semMapUpdate T F t x k v = some r) (hvc : r.vc) (hx : dv E x = some x') (hk : dv E k = some k') (hv : dv E v = some v') :
    ∃ w', (Instr.mapUpdate t x' k' v').run P w = .ok () w' ∧ Gives E F nx w r undef w' := by
  unfold semMapUpdate at hs
  split at hs
  rotate_left
  · cases hs
  rename_i kt et _ _ _ _ rr n hti
  split at hs
  rotate_left
  · cases hs
  rename_i _ _ _ _ es hki hF
  injection hs with hs; subst hs
  simp only at hvc
  simp only [dv, Option.some.injEq] at hk; subst hk
  obtain ⟨i, hi, hn, ents, clk, hb, hm⟩ := h.blk _ _ hF
  have hx' := dv_map hi hn hx
  subst hx'
  obtain ⟨d, hd, hkd⟩ := (hT _ _ hti).desc
  obtain rfl := tk_map hkd
  obtain ⟨d2, hd2, hkd2⟩ := (hT _ _ hki).desc
  have hd2' : d2 = .int .i64 := by cases d2 <;> simp [tk] at hkd2; rw [hkd2]
  subst hd2'
  obtain ⟨a, q1, q2⟩ := mFind (n := n) 0 hm hvc
  have hik : MapKept.IsKey (.int .i64) (.int .i64 n) := by simp [MapKept.IsKey]
  have hlt : i.b < w.heap.size := by
    rcases Nat.lt_or_ge i.b w.heap.size with h | h
    · exact h
    · rw [Array.getElem?_eq_none h] at hb; cases hb
  cases a with
  | none =>
    refine ⟨_, by simp [Instr.mapUpdate, run_underlying hd, MapKept.run_getObj_map hb, MapKept.run_checkKey hd2 hik, MapKept.run_findKey hd2 q1, MapKept.run_setObj_map _ hb, Result.andThen]; rfl, E, dv_plain E undef rfl, StepR.setMap h hF hi hn ?_ hlt, FreshIn.refl _ _⟩
    rw [q2.2 v]
    simp only [Array.toList_push]
    exact hm.push (by simp [dv]) hv
  | some ju =>
    obtain ⟨j, u⟩ := ju
    obtain ⟨_, v0, e, a2, a3, a4, a5, a6⟩ := q2
    simp only [Nat.sub_zero] at a4 a6
    have hj : ents[j]? = some e := by simpa using a4
    refine ⟨_, by simp [Instr.mapUpdate, run_underlying hd, MapKept.run_getObj_map hb, MapKept.run_checkKey hd2 hik, MapKept.run_findKey hd2 q1, hj, a5, MapKept.run_keyThatStays hik, MapKept.run_setObj_map _ hb, Result.andThen]; rfl, E, dv_plain E undef rfl, StepR.setMap h hF hi hn ?_ hlt, FreshIn.refl _ _⟩
    rw [Array.toList_modify]
    exact a6 v v' hv
end
end Go.Sx
end
