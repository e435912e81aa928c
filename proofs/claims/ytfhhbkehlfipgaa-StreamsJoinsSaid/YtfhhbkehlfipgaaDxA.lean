/- Lemmas for the walk: D3, D4, D5, D6, D7. -/
import Derived.Test.YtfhhbkehlfipgaaCxL
import Derived.Test.YtfhhbkehlfipgaaCxN
import Derived.Test.YtfhhbkehlfipgaaCxE
section
set_option linter.unusedSimpArgs false
set_option linter.unusedVariables false
set_option linter.unnecessarySimpa false
set_option linter.unusedSectionVars false
namespace Go.Proofs.Ytfhhbkehlfipgaa
open Go.Tx
set_option maxRecDepth 100000
set_option maxHeartbeats 1000000
set_option linter.unusedSimpArgs false
set_option linter.unusedVariables false
/-! messages in pieces that come in any order: what Take and Skip deliver -/
structure Plan where
  n : Nat
  M : Nat → Msg
  c : Nat → Nat
  t : Nat → Nat → Int
  sq : Nat → Nat
structure Plan.Ok (p : Plan) : Prop where
  c1 : ∀ j, j < p.n → 1 ≤ p.c j
  tn : ∀ j i, j < p.n → i + 1 < p.c j → (p.t j i + 1) % 4294967296 = p.t j (i + 1)
  ti : ∀ j i j' i', j < p.n → i < p.c j → j' < p.n → i' < p.c j' → p.t j i = p.t j' i' → j = j' ∧ i = i'
  sqi : ∀ j j', j < p.n → j' < p.n → (p.M j).lo = false → (p.M j').lo = false → (p.M j).st = (p.M j').st → p.sq j = p.sq j' → j = j'
  sqd : ∀ j, j < p.n → (p.M j).lo = false → ∀ q, q < p.sq j → ∃ j', j' < p.n ∧ (p.M j').lo = false ∧ (p.M j').st = (p.M j).st ∧ p.sq j' = q
  sqb : ∀ j, j < p.n → p.sq j < 1000
  tx : ∀ j, j < p.n → (List.range (p.c j)).flatMap (pieceS (p.M j).tx) = (p.M j).tx
def Plan.pc (p : Plan) (j i : Nat) : Dat := ⟨p.t j i, (p.M j).st, p.sq j, (p.M j).pr, i == 0, i + 1 == p.c j, (p.M j).lo, pieceS (p.M j).tx i⟩
def Plan.tsns (p : Plan) (j : Nat) : List Int := (List.range (p.c j)).map (p.t j)
structure Plan.Sub (p : Plan) (ps : List Dat) : Prop where
  mem : ∀ d ∈ ps, ∃ j i, j < p.n ∧ i < p.c j ∧ d = p.pc j i
  nd : (ps.map Dat.tsn).Nodup
def Plan.all (p : Plan) (ps : List Dat) (j : Nat) : Prop := ∀ i, i < p.c j → p.pc j i ∈ ps
section
variable {p : Plan} (hp : p.Ok)
include hp
theorem Plan.pc_inj {j i j' i' : Nat} (h1 : j < p.n) (h2 : i < p.c j) (h3 : j' < p.n) (h4 : i' < p.c j') (h : p.pc j i = p.pc j' i') : j = j' ∧ i = i' := hp.ti j i j' i' h1 h2 h3 h4 (congrArg Dat.tsn h)
theorem Plan.getT_pc {ps : List Dat} (hs : p.Sub ps) {j i : Nat} (h1 : j < p.n) (h2 : i < p.c j) : (getT ps (p.t j i) = some (p.pc j i) ∧ p.pc j i ∈ ps) ∨ (getT ps (p.t j i) = none ∧ p.pc j i ∉ ps) := by
  cases hg : getT ps (p.t j i) with
  | none =>
    right
    refine ⟨rfl, fun hm => ?_⟩
    unfold getT at hg
    rw [List.find?_eq_none] at hg
    exact hg _ hm (by simp [Plan.pc])
  | some d =>
    left
    obtain ⟨hm, ht⟩ := getT_mem hg
    obtain ⟨j', i', h3, h4, rfl⟩ := hs.mem d hm
    obtain ⟨rfl, rfl⟩ := hp.ti _ _ _ _ h3 h4 h1 h2 ht
    exact ⟨rfl, hm⟩
theorem Plan.len_ge {ps : List Dat} {j i : Nat} (h1 : j < p.n) (h2 : i < p.c j) (hm : ∀ i', i' ≤ i → p.pc j i' ∈ ps) : i + 1 ≤ ps.length := by
  have hnd : ((List.range (i + 1)).map (p.t j)).Nodup := by
    rw [List.nodup_iff_pairwise_ne, List.pairwise_map]
    refine List.Pairwise.imp_of_mem ?_ (List.nodup_iff_pairwise_ne.1 List.nodup_range)
    intro a b ha hb hab he
    have ha := List.mem_range.1 ha
    have hb := List.mem_range.1 hb
    exact hab (hp.ti j a j b h1 (by omega) h1 (by omega) he).2
  have := nodup_sub (m := ps.map Dat.tsn) hnd (fun x hx => by
    obtain ⟨a, ha, rfl⟩ := List.mem_map.1 hx
    have ha := List.mem_range.1 ha
    exact List.mem_map.2 ⟨p.pc j a, hm a (by omega), rfl⟩)
  simpa using this
theorem Plan.compG_pc {ps : List Dat} (hs : p.Sub ps) {j : Nat} (h1 : j < p.n) : ∀ (k i : Nat) (tx : List UInt8) (ns : List Int), i < p.c j → (∀ i', i' ≤ i → p.pc j i' ∈ ps) → ns = (List.range i).map (p.t j) → tx = (List.range i).flatMap (pieceS (p.M j).tx) → ps.length + 1 ≤ k + i →
    (p.all ps j ∧ compG ps (p.pc j 0) k (p.pc j i) tx ns = some ((p.M j).tx, p.tsns j)) ∨ (¬ p.all ps j ∧ compG ps (p.pc j 0) k (p.pc j i) tx ns = none)
  | 0, i, tx, ns, h2, hm, _, _, hk => by
    have := p.len_ge hp h1 h2 hm
    omega
  | k + 1, i, tx, ns, h2, hm, hns, htx, hk => by
    have e1 : ns.contains (p.t j i) = false := by
      rw [hns, List.contains_eq_any_beq, List.any_eq_false]
      intro x hx
      obtain ⟨a, ha, rfl⟩ := List.mem_map.1 hx
      have ha := List.mem_range.1 ha
      simp only [beq_iff_eq]
      intro he
      have := (hp.ti j i j a h1 h2 h1 (by omega) he).2
      omega
    have e2 : ((i == 0) && !ns.isEmpty) = false := by
      cases i with
      | zero => rw [hns]; rfl
      | succ i => rfl
    have hc : ((p.pc j i).st != (p.pc j 0).st || (p.pc j i).sq != (p.pc j 0).sq || (p.pc j i).lo != (p.pc j 0).lo || ((p.pc j i).fi && !ns.isEmpty) || ns.contains (p.pc j i).tsn) = false := by
      have : ((p.pc j i).fi && !ns.isEmpty) = false := e2
      rw [this, show ns.contains (p.pc j i).tsn = false from e1]
      simp [Plan.pc]
    have hstep : ns ++ [p.t j i] = (List.range (i + 1)).map (p.t j) := by rw [List.range_succ, List.map_append, hns]; rfl
    have hstx : tx ++ pieceS (p.M j).tx i = (List.range (i + 1)).flatMap (pieceS (p.M j).tx) := by rw [List.range_succ, List.flatMap_append, htx]; simp
    rw [compG, if_neg (by rw [hc]; simp)]
    by_cases hla : i + 1 = p.c j
    · left
      have : (p.pc j i).la = true := by simp [Plan.pc, hla]
      rw [this]
      refine ⟨fun i' hi' => hm i' (by omega), ?_⟩
      simp only [if_true]
      rw [show (p.pc j i).pl = pieceS (p.M j).tx i from rfl, show (p.pc j i).tsn = p.t j i from rfl, hstep, hstx, hla, hp.tx j h1]
      rfl
    · have : (p.pc j i).la = false := by simp [Plan.pc, hla]
      rw [this]
      simp only [if_false, Bool.false_eq_true]
      rw [show (p.pc j i).tsn = p.t j i from rfl, hp.tn j i h1 (by omega)]
      rcases p.getT_pc hp hs h1 (show i + 1 < p.c j by omega) with ⟨g1, g2⟩ | ⟨g1, g2⟩
      · rw [g1]
        simp only
        exact Plan.compG_pc hs h1 k (i + 1) _ _ (by omega) (fun i' hi' => by
          by_cases he : i' = i + 1
          · subst he; exact g2
          · exact hm i' (by omega)) hstep hstx (by omega)
      · right
        rw [g1]
        exact ⟨fun ha => g2 (ha _ (by omega)), rfl⟩
theorem Plan.complete_pc {ps : List Dat} (hs : p.Sub ps) {j i : Nat} (h1 : j < p.n) (h2 : i < p.c j) (hm : p.pc j i ∈ ps) : (i = 0 ∧ p.all ps j ∧ complete ps (p.pc j i) = some (p.M j, p.tsns j)) ∨ (¬ (i = 0 ∧ p.all ps j) ∧ complete ps (p.pc j i) = none) := by
  unfold complete
  by_cases hi : i = 0
  · subst hi
    rw [if_pos (show (p.pc j 0).fi = true from rfl)]
    rcases p.compG_pc hp hs h1 (ps.length + 1) 0 [] [] h2 (fun i' hi' => by rw [Nat.le_zero.1 hi']; exact hm) rfl rfl (by omega) with ⟨a, b⟩ | ⟨a, b⟩
    · left
      rw [b]
      exact ⟨rfl, a, rfl⟩
    · right
      rw [b]
      exact ⟨fun h => a h.2, rfl⟩
  · right
    rw [if_neg (by simp [Plan.pc, hi])]
    exact ⟨fun h => hi h.1, rfl⟩
theorem Plan.due_some {inn : List Int} {ps : List Dat} (hs : p.Sub ps) {m : Msg} {ns : List Int} (h : dueG inn ps = some (m, ns)) : ∃ j, j < p.n ∧ p.all ps j ∧ m = p.M j ∧ ns = p.tsns j ∧ ((p.M j).lo = true ∨ (p.sq j : Int) = inn.getD (p.M j).st.toNat 0) := by
  obtain ⟨d, hd, hc, hq⟩ := due_spec h
  obtain ⟨j, i, h1, h2, rfl⟩ := hs.mem d hd
  rcases p.complete_pc hp hs h1 h2 hd with ⟨_, a, b⟩ | ⟨_, b⟩
  · rw [b] at hc
    injection hc with hc
    injection hc with e1 e2
    exact ⟨j, h1, a, e1.symm, e2.symm, hq⟩
  · rw [b] at hc; cases hc
theorem Plan.due_none {inn : List Int} {ps : List Dat} (hs : p.Sub ps) (h : dueG inn ps = none) {j : Nat} (h1 : j < p.n) (ha : p.all ps j) : (p.M j).lo = false ∧ (p.sq j : Int) ≠ inn.getD (p.M j).st.toNat 0 := by
  have h2 := hp.c1 j h1
  have hm := ha 0 h2
  unfold dueG at h
  rw [List.findSome?_eq_none_iff] at h
  have h3 := h _ hm
  rcases p.complete_pc hp hs h1 h2 hm with ⟨_, _, b⟩ | ⟨b, _⟩
  · rw [b] at h3
    split at h3
    · rename_i hc
      simp only [Plan.pc, Bool.and_eq_true, Bool.not_eq_true', bne_iff_ne, ne_eq] at hc
      exact hc
    · cases h3
  · exact absurd ⟨rfl, ha⟩ b
end
theorem lead_small {x y : Nat} (hx : x < 2000) (hy : y < 2000) : lead x y 16 = (x : Int) - y := by
  unfold lead
  rw [show (2 : Int) ^ (Int.toNat 16) = 65536 from rfl, show (2 : Int) ^ (Int.toNat (16 - 1)) = 32768 from rfl]
  split <;> omega
/-- The state, when the pieces of A have come and the messages of D are delivered; of the messages, x may be given up. -/
structure Plan.Inv (p : Plan) (x : Nat) (inn : List Int) (A : List Dat) (D : List Nat) (ps : List Dat) : Prop where
  a : p.Sub A
  dn : D.Nodup
  dl : ∀ j ∈ D, j < p.n
  dA : ∀ j ∈ D, j ≠ x → ∀ i, i < p.c j → p.pc j i ∈ A
  s : p.Sub ps
  m : ∀ j i, j < p.n → i < p.c j → (p.pc j i ∈ ps ↔ p.pc j i ∈ A ∧ j ∉ D)
  q : ∀ j, j < p.n → (p.M j).lo = false → (j ∈ D ↔ (p.sq j : Int) < inn.getD (p.M j).st.toNat 0)
  r : ∀ j, j < p.n → ∃ v : Nat, inn.getD (p.M j).st.toNat 0 = v ∧ v ≤ 1000
  st : ∀ j, j < p.n → 0 ≤ (p.M j).st ∧ (p.M j).st < inn.length
  ord : D.Pairwise fun a b => (p.M a).lo = false → (p.M b).lo = false → (p.M a).st = (p.M b).st → p.sq a < p.sq b
end Go.Proofs.Ytfhhbkehlfipgaa
end

section
set_option linter.unusedSimpArgs false
set_option linter.unusedVariables false
set_option linter.unnecessarySimpa false
set_option linter.unusedSectionVars false
namespace Go.Proofs.Ytfhhbkehlfipgaa
open Go.Tx
set_option maxRecDepth 100000
set_option maxHeartbeats 1000000
set_option linter.unusedSimpArgs false
set_option linter.unusedVariables false
/-! how the state goes on -/
theorem getD_nextI (inn : List Int) {st st' : Int} (sq : Int) (h0 : 0 ≤ st) (h1 : st < inn.length) (h0' : 0 ≤ st') : (nextI inn st sq).getD st'.toNat 0 = if st' = st then (sq + 1) % 65536 else inn.getD st'.toNat 0 := by
  unfold nextI
  rw [List.getD_eq_getElem?_getD, List.getElem?_set]
  split
  · rename_i he
    have : st' = st := by omega
    rw [if_pos this, if_pos (by omega)]; rfl
  · rw [if_neg (by rintro rfl; simp_all), ← List.getD_eq_getElem?_getD]
theorem Plan.sub_filter {p : Plan} {ps : List Dat} (hs : p.Sub ps) (f : Dat → Bool) : p.Sub (withoutG ps f) where
  mem := fun d hd => hs.mem d (List.mem_filter.1 hd).1
  nd := List.Nodup.sublist (List.Sublist.map _ List.filter_sublist) hs.nd
section
variable {p : Plan} (hp : p.Ok)
include hp
theorem Plan.in_tsns {j i j' : Nat} (h1 : j < p.n) (h2 : i < p.c j) (h3 : j' < p.n) : (p.tsns j').contains (p.t j i) = decide (j = j') := by
  rw [Bool.eq_iff_iff, List.contains_iff_mem, decide_eq_true_eq]
  constructor
  · intro h
    obtain ⟨i', hi', he⟩ := List.mem_map.1 h
    exact (hp.ti j' i' j i h3 (List.mem_range.1 hi') h1 h2 he).1.symm
  · rintro rfl
    exact List.mem_map.2 ⟨i, List.mem_range.2 h2, rfl⟩
/-- A message is delivered that is Loose. -/
theorem Plan.Inv.loose {x : Nat} {inn : List Int} {A ps : List Dat} {D : List Nat} (h : p.Inv x inn A D ps) {j : Nat} (h1 : j < p.n) (ha : p.all ps j) (hlo : (p.M j).lo = true) : p.Inv x inn A (D ++ [j]) (withoutG ps fun d => (p.tsns j).contains d.tsn) := by
  have hj : j ∉ D := ((h.m j 0 h1 (hp.c1 j h1)).1 (ha 0 (hp.c1 j h1))).2
  refine ⟨h.a, ?_, ?_, ?_, p.sub_filter h.s _, ?_, ?_, h.r, h.st, ?_⟩
  · rw [List.nodup_append]
    refine ⟨h.dn, by simp, fun a ha' b hb => ?_⟩
    simp at hb; subst hb; rintro rfl; exact hj ha'
  · intro k hk
    rcases List.mem_append.1 hk with hk | hk
    · exact h.dl k hk
    · simp at hk; subst hk; exact h1
  · intro k hk hx i hi
    rcases List.mem_append.1 hk with hk | hk
    · exact h.dA k hk hx i hi
    · simp at hk; subst hk; exact ((h.m k i h1 hi).1 (ha i hi)).1
  · intro k i hk hi
    unfold withoutG
    rw [List.mem_filter, h.m k i hk hi]
    have : (p.tsns j).contains (p.pc k i).tsn = decide (k = j) := p.in_tsns hp hk hi h1
    simp only [this, List.mem_append, List.mem_singleton, not_or, Bool.not_eq_true', decide_eq_false_iff_not, and_assoc]
  · intro k hk hl
    rw [← h.q k hk hl, List.mem_append, List.mem_singleton]
    constructor
    · rintro (h | rfl)
      · exact h
      · rw [hlo] at hl; cases hl
    · exact .inl
  · rw [List.pairwise_append]
    refine ⟨h.ord, by simp, fun a _ b hb _ hlb => ?_⟩
    simp at hb; subst hb; rw [hlo] at hlb; cases hlb
/-- A message that is not Loose is done with: its number is the stream's. -/
theorem Plan.Inv.next {x : Nat} {inn : List Int} {A ps : List Dat} {D : List Nat} (h : p.Inv x inn A D ps) {j : Nat} (h1 : j < p.n) (hlo : (p.M j).lo = false) (hq : (p.sq j : Int) = inn.getD (p.M j).st.toNat 0) (hA : j ≠ x → ∀ i, i < p.c j → p.pc j i ∈ A)
    (ps2 : List Dat) (hs2 : p.Sub ps2) (hm2 : ∀ k i, k < p.n → i < p.c k → (p.pc k i ∈ ps2 ↔ (p.pc k i ∈ A ∧ k ∉ D) ∧ k ≠ j)) :
    p.Inv x (nextI inn (p.M j).st (p.sq j)) A (D ++ [j]) (nextP inn ps2 (p.M j).st (p.sq j)) := by
  have hst := h.st j h1
  have hsq := hp.sqb j h1
  have hmod : ((p.sq j : Int) + 1) % 65536 = ((p.sq j + 1 : Nat) : Int) := by omega
  have hg : ∀ k, k < p.n → (nextI inn (p.M j).st (p.sq j)).getD (p.M k).st.toNat 0 = if (p.M k).st = (p.M j).st then ((p.sq j + 1 : Nat) : Int) else inn.getD (p.M k).st.toNat 0 := by
    intro k hk
    rw [getD_nextI inn _ hst.1 hst.2 (h.st k hk).1, hmod]
  have hj : j ∉ D := by rw [h.q j h1 hlo]; omega
  have hold : ∀ d ∈ ps2, oldB (nextI inn (p.M j).st (p.sq j)) (p.M j).st d = false := by
    intro d hd
    obtain ⟨k, i, hk, hi, rfl⟩ := hs2.mem d hd
    obtain ⟨⟨_, hkD⟩, hkj⟩ := (hm2 k i hk hi).1 hd
    unfold oldB
    rw [show (p.pc k i).st = (p.M k).st from rfl, show (p.pc k i).lo = (p.M k).lo from rfl, show (p.pc k i).sq = (p.sq k : Int) from rfl]
    by_cases hs : (p.M k).st = (p.M j).st
    · cases hl : (p.M k).lo with
      | true => simp
      | false =>
        have hg' := hg j h1
        rw [if_pos rfl] at hg'
        rw [hg', lead_small (by have := hp.sqb k hk; omega) (by omega)]
        have h3 : ¬ (p.sq k : Int) < inn.getD (p.M k).st.toNat 0 := fun hc => hkD ((h.q k hk hl).2 hc)
        rw [hs, ← hq] at h3
        have h4 : p.sq k ≠ p.sq j := fun he => hkj (hp.sqi k j hk h1 hl hlo hs he)
        simp only [Bool.and_eq_false_iff, decide_eq_false_iff_not]
        right; omega
    · simp [hs]
  have hP : nextP inn ps2 (p.M j).st (p.sq j) = ps2 := by
    unfold nextP withoutG
    rw [List.filter_eq_self]
    intro d hd
    rw [hold d hd]; rfl
  rw [hP]
  refine ⟨h.a, ?_, ?_, ?_, hs2, ?_, ?_, ?_, ?_, ?_⟩
  · rw [List.nodup_append]
    refine ⟨h.dn, by simp, fun a ha' b hb => ?_⟩
    simp at hb; subst hb; rintro rfl; exact hj ha'
  · intro k hk
    rcases List.mem_append.1 hk with hk | hk
    · exact h.dl k hk
    · simp at hk; subst hk; exact h1
  · intro k hk hx i hi
    rcases List.mem_append.1 hk with hk | hk
    · exact h.dA k hk hx i hi
    · simp at hk; subst hk; exact hA hx i hi
  · intro k i hk hi
    rw [hm2 k i hk hi]
    simp only [List.mem_append, List.mem_singleton, not_or, and_assoc]
  · intro k hk hl
    rw [hg k hk, List.mem_append, List.mem_singleton, h.q k hk hl]
    by_cases hs : (p.M k).st = (p.M j).st
    · rw [if_pos hs, hs, ← hq]
      constructor
      · rintro (h | rfl) <;> omega
      · intro h4
        by_cases he : p.sq k = p.sq j
        · exact .inr (hp.sqi k j hk h1 hl hlo hs he)
        · left; omega
    · rw [if_neg hs]
      constructor
      · rintro (h | rfl)
        · exact h
        · exact absurd rfl hs
      · exact .inl
  · intro k hk
    rw [hg k hk]
    split
    · exact ⟨_, rfl, by omega⟩
    · exact h.r k hk
  · intro k hk
    rw [nextI_len]; exact h.st k hk
  · rw [List.pairwise_append]
    refine ⟨h.ord, by simp, fun a ha b hb hla hlb hst' => ?_⟩
    simp at hb; subst hb
    have := (h.q a (h.dl a ha) hla).1 ha
    rw [hst', ← hq] at this
    omega
theorem Plan.wlen {ps : List Dat} {j : Nat} (h1 : j < p.n) (ha : p.all ps j) : (withoutG ps fun d => (p.tsns j).contains d.tsn).length < ps.length :=
  without_len (ha 0 (hp.c1 j h1)) (by
    rw [show (p.pc j 0).tsn = p.t j 0 from rfl, p.in_tsns hp h1 (hp.c1 j h1) h1]; simp)
theorem Plan.del : ∀ (k : Nat) {x : Nat} {inn : List Int} {A ps : List Dat} {D : List Nat} (out : List Msg), p.Inv x inn A D ps → ps.length ≤ k →
    ∃ D', p.Inv x (delG k inn ps out).1 A (D ++ D') (delG k inn ps out).2.1 ∧ (delG k inn ps out).2.2 = out ++ D'.map p.M ∧ dueG (delG k inn ps out).1 (delG k inn ps out).2.1 = none
  | 0, x, inn, A, ps, D, out, h, hl => by
    have : ps = [] := List.length_eq_zero_iff.1 (by omega)
    subst this
    exact ⟨[], by simpa [delG] using h, by simp [delG], rfl⟩
  | k + 1, x, inn, A, ps, D, out, h, hl => by
    rw [delG]
    cases hd : dueG inn ps with
    | none => exact ⟨[], by simpa using h, by simp, hd⟩
    | some r =>
      obtain ⟨m, ns⟩ := r
      obtain ⟨j, h1, ha, rfl, rfl, hq⟩ := p.due_some hp h.s hd
      have hlen := p.wlen hp h1 ha
      simp only
      cases hlo : (p.M j).lo with
      | true =>
        simp only [if_true]
        obtain ⟨D', a, b, c⟩ := Plan.del k (out ++ [p.M j]) (h.loose hp h1 ha hlo) (by omega)
        exact ⟨j :: D', by simpa using a, by rw [b]; simp, c⟩
      | false =>
        simp only [Bool.false_eq_true, if_false]
        have hq' := hq.resolve_left (by rw [hlo]; simp)
        rw [← hq']
        have hA : ∀ i, i < p.c j → p.pc j i ∈ A := fun i hi => ((h.m j i h1 hi).1 (ha i hi)).1
        have hi := h.next hp h1 hlo hq' (fun _ => hA) (withoutG ps fun d => (p.tsns j).contains d.tsn) (p.sub_filter h.s _) (fun k i hk hi => by
          unfold withoutG
          rw [List.mem_filter, h.m k i hk hi]
          have : (p.tsns j).contains (p.pc k i).tsn = decide (k = j) := p.in_tsns hp hk hi h1
          simp only [this, Bool.not_eq_true', decide_eq_false_iff_not])
        have hlen2 : (nextP inn (withoutG ps fun d => (p.tsns j).contains d.tsn) (p.M j).st (p.sq j)).length ≤ _ := List.length_filter_le _ _
        obtain ⟨D', a, b, c⟩ := Plan.del k (out ++ [p.M j]) hi (by omega)
        exact ⟨j :: D', by simpa using a, by rw [b]; simp, c⟩
/-- A piece comes. -/
theorem Plan.take {x : Nat} {inn : List Int} {A ps : List Dat} {D : List Nat} (h : p.Inv x inn A D ps) {j i : Nat} (h1 : j < p.n) (h2 : i < p.c j) (hn : p.pc j i ∉ A) (hj : j ∉ D) :
    ∃ D', p.Inv x (takeG inn ps (p.pc j i)).1 (A ++ [p.pc j i]) (D ++ D') (takeG inn ps (p.pc j i)).2.1 ∧ (takeG inn ps (p.pc j i)).2.2 = D'.map p.M ∧ dueG (takeG inn ps (p.pc j i)).1 (takeG inn ps (p.pc j i)).2.1 = none := by
  have hne : ∀ (L : List Dat), p.Sub L → p.pc j i ∉ L → ∀ y ∈ L, y.tsn ≠ p.t j i := by
    intro L hL hnl y hy he
    obtain ⟨k, i', hk, hi', rfl⟩ := hL.mem y hy
    obtain ⟨rfl, rfl⟩ := hp.ti _ _ _ _ hk hi' h1 h2 he
    exact hnl hy
  have hps : p.pc j i ∉ ps := fun hm => hn ((h.m j i h1 h2).1 hm).1
  have hadd : ∀ (L : List Dat), p.Sub L → p.pc j i ∉ L → p.Sub (L ++ [p.pc j i]) := by
    intro L hL hnl
    refine ⟨fun d hd => ?_, ?_⟩
    · rcases List.mem_append.1 hd with hd | hd
      · exact hL.mem d hd
      · simp at hd; exact ⟨j, i, h1, h2, hd⟩
    · rw [List.map_append, List.nodup_append]
      refine ⟨hL.nd, by simp, fun a ha b hb => ?_⟩
      simp at hb; subst hb
      obtain ⟨y, hy, rfl⟩ := List.mem_map.1 ha
      exact hne L hL hnl y hy
  have hc : (ps.any (fun y => y.tsn == (p.pc j i).tsn) || (!(p.pc j i).lo && decide (lead (p.pc j i).sq (inn.getD (p.pc j i).st.toNat 0) 16 < 0))) = false := by
    rw [Bool.or_eq_false_iff]
    refine ⟨?_, ?_⟩
    · rw [List.any_eq_false]
      intro y hy
      simp only [beq_iff_eq]
      exact hne ps h.s hps y hy
    · rw [show (p.pc j i).lo = (p.M j).lo from rfl, show (p.pc j i).sq = (p.sq j : Int) from rfl, show (p.pc j i).st = (p.M j).st from rfl]
      cases hlo : (p.M j).lo with
      | true => rfl
      | false =>
        obtain ⟨v, hv, hv2⟩ := h.r j h1
        have h3 : ¬ (p.sq j : Int) < inn.getD (p.M j).st.toNat 0 := fun hc => hj ((h.q j h1 hlo).2 hc)
        rw [hv] at h3 ⊢
        rw [lead_small (by have := hp.sqb j h1; omega) (by omega)]
        simp; omega
  unfold takeG
  rw [if_neg (by rw [hc]; simp)]
  have hI : p.Inv x inn (A ++ [p.pc j i]) D (ps ++ [p.pc j i]) := by
    refine ⟨hadd A h.a hn, h.dn, h.dl, fun k hk hx i' hi' => List.mem_append_left _ (h.dA k hk hx i' hi'), hadd ps h.s hps, fun k i' hk hi' => ?_, h.q, h.r, h.st, h.ord⟩
    rw [List.mem_append, List.mem_append, h.m k i' hk hi', List.mem_singleton]
    constructor
    · rintro (⟨a, b⟩ | a)
      · exact ⟨.inl a, b⟩
      · obtain ⟨rfl, rfl⟩ := p.pc_inj hp hk hi' h1 h2 a
        exact ⟨.inr rfl, hj⟩
    · rintro ⟨a | a, b⟩
      · exact .inl ⟨a, b⟩
      · exact .inr a
  obtain ⟨D', a, b, c⟩ := p.del hp (ps.length + 1) [] hI (by simp)
  exact ⟨D', a, by simpa using b, c⟩
/-- Pieces come, one after the other. -/
theorem Plan.comes {x : Nat} : ∀ (l : List Dat) {inn : List Int} {A ps : List Dat} {D : List Nat} (out : List Msg), p.Inv x inn A D ps → dueG inn ps = none → (∀ d ∈ l, ∃ j i, j < p.n ∧ i < p.c j ∧ j ≠ x ∧ d = p.pc j i) → ((A ++ l).map Dat.tsn).Nodup →
    ∃ D', p.Inv x (comesG inn ps l out).1 (A ++ l) (D ++ D') (comesG inn ps l out).2.1 ∧ (comesG inn ps l out).2.2 = out ++ D'.map p.M ∧ dueG (comesG inn ps l out).1 (comesG inn ps l out).2.1 = none
  | [], inn, A, ps, D, out, h, hd, _, _ => ⟨[], by simpa [comesG] using h, by simp [comesG], hd⟩
  | d :: l, inn, A, ps, D, out, h, hd, hl, hnd => by
    obtain ⟨j, i, h1, h2, hx, rfl⟩ := hl d (by simp)
    have hn : p.pc j i ∉ A := by
      intro hm
      rw [List.map_append, List.nodup_append] at hnd
      exact hnd.2.2 _ (List.mem_map.2 ⟨_, hm, rfl⟩) (p.pc j i).tsn (by simp) rfl
    have hj : j ∉ D := fun hm => hn (h.dA j hm hx i h2)
    obtain ⟨D1, a, b, c⟩ := p.take hp h h1 h2 hn hj
    obtain ⟨D2, a2, b2, c2⟩ := Plan.comes l (out ++ (takeG inn ps (p.pc j i)).2.2) a c (fun d hd => hl d (by simp [hd])) (by simpa using hnd)
    refine ⟨D1 ++ D2, ?_, ?_, ?_⟩
    · simpa [comesG] using a2
    · rw [comesG, b2, b]; simp
    · exact c2
/-- Where all pieces have come, all messages are delivered. -/
theorem Plan.Inv.total {x : Nat} {inn : List Int} {A ps : List Dat} {D : List Nat} (h : p.Inv x inn A D ps) (hd : dueG inn ps = none) (hA : ∀ j i, j < p.n → i < p.c j → j ≠ x → p.pc j i ∈ A) {j : Nat} (h1 : j < p.n) (hx : j ≠ x)
    (hb : (p.M j).lo = false → ∀ k, k < p.n → (p.M k).lo = false → (p.M k).st = (p.M j).st → p.sq k < p.sq j → k ≠ x ∨ k ∈ D) : j ∈ D := by
  have loose : ∀ k, k < p.n → k ≠ x → k ∉ D → p.all ps k := fun k hk hkx hkD i hi => (h.m k i hk hi).2 ⟨hA k i hk hi hkx, hkD⟩
  cases hlo : (p.M j).lo with
  | true =>
    refine Classical.byContradiction fun hj => ?_
    have := (p.due_none hp h.s hd h1 (loose j h1 hx hj)).1
    rw [hlo] at this; cases this
  | false =>
    have key : ∀ s k, p.sq k = s → k < p.n → (p.M k).lo = false → (p.M k).st = (p.M j).st → p.sq k ≤ p.sq j → (k ≠ x ∨ k ∈ D) → k ∈ D := by
      intro s
      induction s using Nat.strongRecOn with
      | ind s ih =>
        intro k hs hk hkl hks hle hkx
        refine Classical.byContradiction fun hkD => ?_
        have hkx' := hkx.resolve_right hkD
        have h3 := (p.due_none hp h.s hd hk (loose k hk hkx' hkD)).2
        obtain ⟨v, hv, hv2⟩ := h.r k hk
        have h4 : ¬ (p.sq k : Int) < inn.getD (p.M k).st.toNat 0 := fun hc => hkD ((h.q k hk hkl).2 hc)
        rw [hv] at h3 h4
        have h5 : v < p.sq k := by omega
        obtain ⟨k', a1, a2, a3, a4⟩ := hp.sqd k hk hkl v h5
        have h6 := ih v (by omega) k' a4 a1 a2 (a3.trans hks) (by omega) (hb hlo k' a1 a2 (a3.trans hks) (by omega))
        have h7 := (h.q k' a1 a2).1 h6
        rw [a3, hv, a4] at h7
        omega
    exact key _ j rfl h1 hlo rfl (Nat.le_refl _) (.inl hx)
end
end Go.Proofs.Ytfhhbkehlfipgaa
end

section
set_option linter.unusedSimpArgs false
set_option linter.unusedVariables false
set_option linter.unnecessarySimpa false
set_option linter.unusedSectionVars false
namespace Go.Proofs.Ytfhhbkehlfipgaa
open Go.Tx
set_option maxRecDepth 100000
set_option maxHeartbeats 1000000
set_option linter.unusedSimpArgs false
set_option linter.unusedVariables false
/-! messages as a plan -/
theorem text_pcs (X : List UInt8) : ∀ n, (List.range n).flatMap (pieceS X) = X.take (1000 * n)
  | 0 => by simp
  | n + 1 => by rw [List.range_succ, List.flatMap_append, text_pcs X n]; simp [takeS]
def cP (m : Msg) : Nat := (m.tx.length + 999) / 1000
def offP (ms : List Msg) (j : Nat) : Nat := ((ms.take j).map cP).sum
def ordB (st : Int) (m : Msg) : Bool := !m.lo && m.st == st
def cntP (ms : List Msg) (st : Int) (j : Nat) : Nat := ((ms.take j).filter (ordB st)).length
def msA (ms : List Msg) (j : Nat) : Msg := ms.getD j Msg.zero
def sqP (ms : List Msg) (j : Nat) : Nat := if (msA ms j).lo then 0 else cntP ms (msA ms j).st j
def planOf (f : Int) (ms : List Msg) : Plan := ⟨ms.length, msA ms, fun j => cP (msA ms j), fun j i => (f + ((offP ms j + i : Nat) : Int)) % 4294967296, sqP ms⟩
theorem msA_eq {ms : List Msg} {j : Nat} (h : j < ms.length) : msA ms j = ms[j] := by simp [msA, List.getD_eq_getElem?_getD, h]
theorem offP_succ {ms : List Msg} {j : Nat} (h : j < ms.length) : offP ms (j + 1) = offP ms j + cP (msA ms j) := by
  unfold offP
  rw [List.take_succ_eq_append_getElem h, List.map_append, List.sum_append, msA_eq h]; simp
theorem cntP_succ {ms : List Msg} {st : Int} {j : Nat} (h : j < ms.length) : cntP ms st (j + 1) = cntP ms st j + if ordB st (msA ms j) then 1 else 0 := by
  unfold cntP
  rw [List.take_succ_eq_append_getElem h, List.filter_append, List.length_append, msA_eq h]
  congr 1
  by_cases hb : ordB st ms[j] = true <;> simp [hb]
theorem cntP_le (ms : List Msg) (st : Int) (j : Nat) : cntP ms st j ≤ j := by
  unfold cntP
  refine Nat.le_trans (List.length_filter_le _ _) (by rw [List.length_take]; omega)
theorem cntP_mono {ms : List Msg} {st : Int} {a b : Nat} (h : a ≤ b) (hb : b ≤ ms.length) : cntP ms st a ≤ cntP ms st b := by
  induction b with
  | zero => have : a = 0 := by omega
            subst this; exact Nat.le_refl _
  | succ b ih =>
    by_cases he : a = b + 1
    · subst he; exact Nat.le_refl _
    · rw [cntP_succ (by omega)]
      have := ih (by omega) (by omega)
      omega
theorem cntP_at {ms : List Msg} {st : Int} : ∀ (j : Nat), j ≤ ms.length → ∀ q, q < cntP ms st j → ∃ k, k < j ∧ ordB st (msA ms k) = true ∧ cntP ms st k = q
  | 0, _, q, h => by simp [cntP] at h
  | j + 1, hj, q, h => by
    rw [cntP_succ (by omega)] at h
    by_cases hq : q < cntP ms st j
    · obtain ⟨k, a, b⟩ := cntP_at j (by omega) q hq
      exact ⟨k, by omega, b⟩
    · split at h
      · rename_i hb
        exact ⟨j, by omega, hb, by omega⟩
      · omega
theorem offP_add {ms : List Msg} {a b : Nat} (h : a < b) (hb : b ≤ ms.length) : offP ms a + cP (msA ms a) ≤ offP ms b := by
  induction b with
  | zero => omega
  | succ b ih =>
    rw [offP_succ (by omega)]
    by_cases he : a = b
    · subst he; omega
    · have := ih (by omega) (by omega)
      omega
theorem offP_le {ms : List Msg} (hm : ∀ m ∈ ms, m.tx.length ≤ 3300) : ∀ j, j ≤ ms.length → offP ms j ≤ 4 * j
  | 0, _ => by simp [offP]
  | j + 1, h => by
    rw [offP_succ (by omega)]
    have h1 := offP_le hm j (by omega)
    have h2 := hm ms[j] (List.getElem_mem _)
    rw [msA_eq (by omega)]
    unfold cP
    omega
/-- What is asked of the messages. -/
structure MsOk (N : Nat) (ms : List Msg) : Prop where
  len : ms.length ≤ 12
  st : ∀ m ∈ ms, 0 ≤ m.st ∧ m.st < N
  pr : ∀ m ∈ ms, 0 ≤ m.pr ∧ m.pr < 4294967296
  t1 : ∀ m ∈ ms, 1 ≤ m.tx.length
  t2 : ∀ m ∈ ms, m.tx.length ≤ 3300
theorem msA_mem {ms : List Msg} {j : Nat} (h : j < ms.length) : msA ms j ∈ ms := by rw [msA_eq h]; exact List.getElem_mem h
theorem ordB_iff {st : Int} {m : Msg} : ordB st m = true ↔ m.lo = false ∧ m.st = st := by simp [ordB]
theorem sq_lt {ms : List Msg} {j j' : Nat} (hj : j < j') (hj' : j' < ms.length) (h1 : (msA ms j).lo = false) (h2 : (msA ms j').lo = false) (hs : (msA ms j).st = (msA ms j').st) : sqP ms j < sqP ms j' := by
  unfold sqP
  rw [h1, h2]
  simp only [if_false, Bool.false_eq_true]
  have h3 := cntP_succ (ms := ms) (st := (msA ms j).st) (show j < ms.length by omega)
  rw [if_pos (ordB_iff.2 ⟨h1, rfl⟩)] at h3
  have h4 := cntP_mono (ms := ms) (st := (msA ms j).st) (show j + 1 ≤ j' by omega) (by omega)
  rw [← hs]; omega
theorem planOf_ok {N : Nat} {ms : List Msg} (h : MsOk N ms) {f : Int} (hf : 0 ≤ f) : (planOf f ms).Ok where
  c1 := fun j hj => by
    have := h.t1 _ (msA_mem hj)
    show 1 ≤ cP (msA ms j)
    unfold cP; omega
  tn := fun j i hj hi => by
    show ((f + ((offP ms j + i : Nat) : Int)) % 4294967296 + 1) % 4294967296 = (f + ((offP ms j + (i + 1) : Nat) : Int)) % 4294967296
    omega
  ti := fun j i j' i' hj hi hj' hi' he => by
    have hj : j < ms.length := hj
    have hj' : j' < ms.length := hj'
    have hi : i < cP (msA ms j) := hi
    have hi' : i' < cP (msA ms j') := hi'
    have he : (f + ((offP ms j + i : Nat) : Int)) % 4294967296 = (f + ((offP ms j' + i' : Nat) : Int)) % 4294967296 := he
    have hl := h.len
    have b1 := offP_le h.t2 (j + 1) (by omega)
    have b2 := offP_le h.t2 (j' + 1) (by omega)
    rw [offP_succ hj] at b1
    rw [offP_succ hj'] at b2
    have e : offP ms j + i = offP ms j' + i' := by omega
    rcases Nat.lt_trichotomy j j' with hlt | rfl | hlt
    · have := offP_add hlt (show j' ≤ ms.length by omega); omega
    · exact ⟨rfl, by omega⟩
    · have := offP_add hlt (show j ≤ ms.length by omega); omega
  sqi := fun j j' hj hj' h1 h2 hs he => by
    rcases Nat.lt_trichotomy j j' with hlt | rfl | hlt
    · have := sq_lt hlt hj' h1 h2 hs
      have he : sqP ms j = sqP ms j' := he
      omega
    · rfl
    · have := sq_lt hlt hj h2 h1 hs.symm
      have he : sqP ms j = sqP ms j' := he
      omega
  sqd := fun j hj h1 q hq => by
    have hj : j < ms.length := hj
    have h1 : (msA ms j).lo = false := h1
    have hq : q < sqP ms j := hq
    unfold sqP at hq
    rw [h1] at hq
    simp only [if_false, Bool.false_eq_true] at hq
    obtain ⟨k, a, b, c⟩ := cntP_at j (by omega) q hq
    obtain ⟨b1, b2⟩ := ordB_iff.1 b
    refine ⟨k, show k < ms.length by omega, b1, b2, ?_⟩
    show sqP ms k = q
    unfold sqP
    rw [b1]
    simp only [if_false, Bool.false_eq_true]
    rw [b2]; exact c
  sqb := fun j hj => by
    have hj : j < ms.length := hj
    have hl := h.len
    show sqP ms j < 1000
    unfold sqP
    split
    · omega
    · have := cntP_le ms (msA ms j).st j; omega
  tx := fun j hj => by
    have := h.t1 _ (msA_mem hj)
    show (List.range (cP (msA ms j))).flatMap (pieceS (msA ms j).tx) = (msA ms j).tx
    rw [text_pcs, List.take_of_length_le]
    unfold cP; omega
theorem pc_ok {N : Nat} {ms : List Msg} (h : MsOk N ms) (hN : N ≤ 16) {f : Int} (hf : 0 ≤ f) {j i : Nat} (hj : j < ms.length) (hi : i < cP (msA ms j)) : ((planOf f ms).pc j i).ok = true ∧ ((planOf f ms).pc j i).st < N := by
  have hm := msA_mem hj
  have h1 := h.st _ hm
  have h2 := h.pr _ hm
  have h3 := h.t1 _ hm
  have h4 := h.t2 _ hm
  have hl := h.len
  refine ⟨?_, h1.2⟩
  have h32 : (2 : Int) ^ (Int.toNat 32) = 4294967296 := rfl
  have h16 : (2 : Int) ^ (Int.toNat 16) = 65536 := rfl
  have hpl : 1 ≤ (pieceS (msA ms j).tx i).length ∧ (pieceS (msA ms j).tx i).length ≤ 1000 := by
    unfold cP at hi
    simp [pieceS]; omega
  have hsq : sqP ms j < 1000 := (planOf_ok h hf).sqb j hj
  have hlo : (msA ms j).lo = true → sqP ms j = 0 := by intro h; unfold sqP; rw [if_pos h]
  obtain ⟨q, hq⟩ : ∃ q, q = pieceS (msA ms j).tx i := ⟨_, rfl⟩
  rw [← hq] at hpl
  show Dat.ok ⟨(f + ((offP ms j + i : Nat) : Int)) % 4294967296, (msA ms j).st, sqP ms j, (msA ms j).pr, i == 0, i + 1 == cP (msA ms j), (msA ms j).lo, pieceS (msA ms j).tx i⟩ = true
  simp only [Dat.ok, ← hq, serB, h32, h16, Bool.and_eq_true, decide_eq_true_eq, Bool.or_eq_true, Bool.not_eq_true', beq_iff_eq]
  refine ⟨⟨⟨by omega, by omega⟩, h2.1, h2.2⟩, ⟨⟨h1.1, by omega⟩, by omega, by omega⟩, by omega, by omega, ?_⟩
  cases hl' : (msA ms j).lo with
  | false => exact .inl rfl
  | true => right; rw [hlo hl']; rfl
/-! what numbered makes of it -/
def outP (N : Nat) (ms : List Msg) (j : Nat) : List Int := (List.range N).map fun (st : Nat) => ((cntP ms (st : Int) j : Nat) : Int)
theorem outP_zero (N : Nat) (ms : List Msg) : outP N ms 0 = zrs N := by
  unfold outP zrs
  apply List.ext_getElem?
  intro k
  by_cases hk : k < N
  · simp [hk, cntP, List.getElem?_replicate]
  · simp [hk, List.getElem?_replicate]
theorem outP_get {N : Nat} {ms : List Msg} {j st : Nat} (h : st < N) : (outP N ms j).getD st 0 = cntP ms st j := by simp [outP, List.getD_eq_getElem?_getD, h]
theorem outP_next {N : Nat} {ms : List Msg} (h : MsOk N ms) {j : Nat} (hj : j < ms.length) : outS (outP N ms j) (msA ms j).st.toNat (msA ms j).lo = outP N ms (j + 1) := by
  have h1 := h.st _ (msA_mem hj)
  have hl := h.len
  unfold outS
  apply List.ext_getElem?
  intro k
  by_cases hk : k < N
  · have e1 : (outP N ms (j + 1))[k]? = some ((cntP ms k (j + 1) : Nat) : Int) := by simp [outP, hk]
    have e2 : (outP N ms j)[k]? = some ((cntP ms k j : Nat) : Int) := by simp [outP, hk]
    rw [e1, cntP_succ hj]
    cases hlo : (msA ms j).lo with
    | true =>
      simp only [if_true]
      rw [e2, if_neg (by rw [ordB_iff, hlo]; simp)]; rfl
    | false =>
      simp only [if_false, Bool.false_eq_true]
      rw [List.getElem?_set]
      by_cases hs : (msA ms j).st.toNat = k
      · rw [if_pos hs, if_pos (by simp [outP]; omega), if_pos (ordB_iff.2 ⟨hlo, by omega⟩), outP_get (by omega)]
        have := cntP_le ms ((msA ms j).st.toNat) j
        rw [hs] at this ⊢
        simp only [Option.some.injEq]
        omega
      · rw [if_neg hs, e2, if_neg (by rw [ordB_iff]; rintro ⟨_, h⟩; omega)]; rfl
  · rw [List.getElem?_eq_none (by split <;> simp [outP] <;> omega), List.getElem?_eq_none (by simp [outP]; omega)]
theorem cuts_plan {N : Nat} {ms : List Msg} (h : MsOk N ms) {f : Int} {j : Nat} (hj : j < ms.length) (g : Int) (k : Nat) (hg : g + (k : Int) = f + ((offP ms j : Nat) : Int)) :
    stampL g k (cutsM (outP N ms j) (msA ms j)) (cutsM (outP N ms j) (msA ms j)).length = (List.range (cP (msA ms j))).map ((planOf f ms).pc j) := by
  have h1 := h.st _ (msA_mem hj)
  unfold stampL cutsM
  rw [sendD_len]
  apply List.map_congr_left
  intro i hi
  have hi := List.mem_range.1 hi
  have e1 : seqS (outP N ms j) (msA ms j).st.toNat (msA ms j).lo = ((sqP ms j : Nat) : Int) := by
    unfold seqS sqP
    cases hlo : (msA ms j).lo with
    | true => rfl
    | false =>
      simp only [if_false, Bool.false_eq_true]
      rw [outP_get (by omega), show (((msA ms j).st.toNat : Nat) : Int) = (msA ms j).st by omega]
  rw [e1]
  unfold stamp sendD
  simp only [List.getD_eq_getElem?_getD, List.getElem?_map, List.getElem?_range hi, Option.map_some, Option.getD_some]
  show (⟨(g + ((k + i : Nat) : Int)) % 4294967296, _, _, _, _, _, _, _⟩ : Dat) = ⟨(f + ((offP ms j + i : Nat) : Int)) % 4294967296, _, _, _, _, _, _, _⟩
  congr 1
  omega
end Go.Proofs.Ytfhhbkehlfipgaa
end

section
set_option linter.unusedSimpArgs false
set_option linter.unusedVariables false
set_option linter.unnecessarySimpa false
set_option linter.unusedSectionVars false
namespace Go.Proofs.Ytfhhbkehlfipgaa
open Go.Tx
set_option maxRecDepth 100000
set_option maxHeartbeats 1000000
set_option linter.unusedSimpArgs false
set_option linter.unusedVariables false
/-! the plain laws of StreamsSkips and StreamsJoins -/
def piecesP (p : Plan) (j : Nat) : List Dat := (List.range (p.c j)).map (p.pc j)
def othersP (p : Plan) (x : Nat) : List Dat := ((List.range p.n).filter fun j => j != x).flatMap (piecesP p)
theorem mem_others {p : Plan} {x : Nat} {d : Dat} : d ∈ othersP p x ↔ ∃ j i, j < p.n ∧ i < p.c j ∧ j ≠ x ∧ d = p.pc j i := by
  unfold othersP piecesP
  simp only [List.mem_flatMap, List.mem_filter, List.mem_range, List.mem_map, bne_iff_ne, ne_eq]
  constructor
  · rintro ⟨j, ⟨h1, h2⟩, i, h3, rfl⟩
    exact ⟨j, i, h1, h3, h2, rfl⟩
  · rintro ⟨j, i, h1, h3, h2, rfl⟩
    exact ⟨j, ⟨h1, h2⟩, i, h3, rfl⟩
theorem others_nd {p : Plan} (hp : p.Ok) (x : Nat) : ((othersP p x).map Dat.tsn).Nodup := by
  rw [List.nodup_iff_pairwise_ne, List.pairwise_map]
  unfold othersP
  rw [List.pairwise_flatMap]
  have hr : (List.range p.n).Pairwise fun a b => a ≠ b := List.nodup_iff_pairwise_ne.1 List.nodup_range
  refine ⟨fun j hj => ?_, ?_⟩
  · have hj := List.mem_range.1 (List.mem_filter.1 hj).1
    unfold piecesP
    rw [List.pairwise_map]
    refine List.Pairwise.imp_of_mem ?_ (List.nodup_iff_pairwise_ne.1 List.nodup_range)
    intro a b ha hb hab he
    exact hab (hp.ti j a j b hj (List.mem_range.1 ha) hj (List.mem_range.1 hb) he).2
  · refine List.Pairwise.imp_of_mem ?_ (List.Pairwise.sublist List.filter_sublist hr)
    intro j j' hj hj' hne y hy y' hy' he
    have hj := List.mem_range.1 (List.mem_filter.1 hj).1
    have hj' := List.mem_range.1 (List.mem_filter.1 hj').1
    obtain ⟨i, hi, rfl⟩ := List.mem_map.1 hy
    obtain ⟨i', hi', rfl⟩ := List.mem_map.1 hy'
    exact hne (hp.ti j i j' i' hj (List.mem_range.1 hi) hj' (List.mem_range.1 hi') he).1
theorem zrs_get (N k : Nat) : (zrs N).getD k 0 = 0 := by
  unfold zrs
  rw [List.getD_eq_getElem?_getD, List.getElem?_replicate]
  split <;> rfl
theorem inv0 {N : Nat} {ms : List Msg} (h : MsOk N ms) {f : Int} (x : Nat) : (planOf f ms).Inv x (zrs N) [] [] [] where
  a := ⟨by simp, by simp⟩
  dn := by simp
  dl := by simp
  dA := by simp
  s := ⟨by simp, by simp⟩
  m := by simp
  q := fun j hj _ => by rw [zrs_get]; simp
  r := fun j hj => ⟨0, by rw [zrs_get]; rfl, by omega⟩
  st := fun j hj => by
    have := h.st _ (msA_mem (show j < ms.length from hj))
    simpa [zrs, planOf] using this
  ord := by simp
theorem full_len {n : Nat} {D : List Nat} (h1 : D.Nodup) (h2 : ∀ j ∈ D, j < n) (h3 : ∀ j, j < n → j ∈ D) : D.length = n := by
  have a := nodup_sub (m := List.range n) h1 (fun x hx => List.mem_range.2 (h2 x hx))
  have b := nodup_sub (l := List.range n) (m := D) List.nodup_range (fun x hx => h3 x (List.mem_range.1 hx))
  simp at a b; omega
theorem Plan.Inv.empty {p : Plan} {x : Nat} {inn : List Int} {A ps : List Dat} {D : List Nat} (h : p.Inv x inn A D ps) (ha : ∀ j, j < p.n → j ∈ D) : ps = [] := by
  cases ps with
  | nil => rfl
  | cons d l =>
    obtain ⟨j, i, h1, h2, rfl⟩ := h.s.mem d (by simp)
    exact absurd (ha j h1) ((h.m j i h1 h2).1 (by simp)).2
theorem late_none {p : Plan} {inn : List Int} {j : Nat} (hq : (p.sq j : Int) < inn.getD (p.M j).st.toNat 0) (hv : inn.getD (p.M j).st.toNat 0 ≤ 1000) (hlo : (p.M j).lo = false) : ∀ (l : List Nat) (out : List Msg), comesG inn [] (l.map (p.pc j)) out = (inn, [], out)
  | [], out => rfl
  | i :: l, out => by
    have hc : takeG inn [] (p.pc j i) = (inn, [], []) := by
      unfold takeG
      rw [if_pos]
      rw [show (p.pc j i).lo = (p.M j).lo from rfl, show (p.pc j i).sq = (p.sq j : Int) from rfl, show (p.pc j i).st = (p.M j).st from rfl, hlo]
      obtain ⟨v, hv'⟩ : ∃ v : Nat, inn.getD (p.M j).st.toNat 0 = v := ⟨(inn.getD (p.M j).st.toNat 0).toNat, by omega⟩
      rw [hv'] at hq hv ⊢
      rw [lead_small (by omega) (by omega)]
      simp; omega
    rw [List.map_cons, comesG, hc]
    simp only [List.append_nil]
    exact late_none hq hv hlo l out
theorem skips_plain {N : Nat} {ms : List Msg} (h : MsOk N ms) {f : Int} (hf : 0 ≤ f) {x : Nat} (hx : x < ms.length) (hlo : (msA ms x).lo = false) {l' : List Dat} (hl' : l'.Perm (othersP (planOf f ms) x)) :
    ∃ in1 ps1 got in2 more, comesG (zrs N) [] l' [] = (in1, ps1, got) ∧ skipG in1 ps1 ((planOf f ms).t x (cP (msA ms x) - 1)) [((msA ms x).st, (sqP ms x : Int))] = (in2, [], more) ∧ got.length + more.length = ms.length - 1 ∧ comesG in2 [] (piecesP (planOf f ms) x) [] = (in2, [], []) := by
  have hp := planOf_ok h hf
  obtain ⟨p, hpd⟩ : ∃ p, p = planOf f ms := ⟨_, rfl⟩
  have hM : p.M x = msA ms x := by rw [hpd]; rfl
  have hn : p.n = ms.length := by rw [hpd]; rfl
  have hsq : p.sq x = sqP ms x := by rw [hpd]; rfl
  have hcx : p.c x = cP (msA ms x) := by rw [hpd]; rfl
  have h0 := inv0 h (f := f) ms.length
  rw [← hpd] at hp hl' h0 ⊢
  rw [← hcx, ← hM, ← hsq, ← hn]
  rw [← hM] at hlo
  rw [← hn] at hx h0
  have hmem : ∀ d, d ∈ l' ↔ ∃ j i, j < p.n ∧ i < p.c j ∧ j ≠ x ∧ d = p.pc j i := fun d => (hl'.mem_iff).trans mem_others
  have hnd : ((([] : List Dat) ++ l').map Dat.tsn).Nodup := (hl'.map Dat.tsn).nodup_iff.2 (others_nd hp x)
  obtain ⟨D1, i1, b1, d1⟩ := p.comes hp l' [] h0 rfl (fun d hd => by
    obtain ⟨j, i, h1, h2, h3, rfl⟩ := (hmem d).1 hd
    exact ⟨j, i, h1, h2, by omega, rfl⟩) hnd
  rw [List.nil_append, List.nil_append] at i1
  obtain ⟨in1, ps1, got, hcm⟩ : ∃ a b c, comesG (zrs N) [] l' [] = (a, b, c) := ⟨_, _, _, rfl⟩
  rw [hcm] at i1 b1 d1
  simp only [List.nil_append] at i1 b1 d1
  have hpx : ∀ i, i < p.c x → p.pc x i ∉ l' := by
    intro i hi hm
    obtain ⟨j, i', h1, h2, h3, he⟩ := (hmem _).1 hm
    exact h3 (p.pc_inj hp hx hi h1 h2 he).1.symm
  have hcx1 := hp.c1 x hx
  have hxD : x ∉ D1 := fun hm => hpx 0 hcx1 (i1.dA x hm (by omega) 0 hcx1)
  have i2 : p.Inv x in1 l' D1 ps1 := ⟨i1.a, i1.dn, i1.dl, fun j hj _ => i1.dA j hj (by have := i1.dl j hj; omega), i1.s, i1.m, i1.q, i1.r, i1.st, i1.ord⟩
  have hA : ∀ j i, j < p.n → i < p.c j → j ≠ x → p.pc j i ∈ l' := fun j i h1 h2 h3 => (hmem _).2 ⟨j, i, h1, h2, h3, rfl⟩
  have hqx : (p.sq x : Int) = in1.getD (p.M x).st.toNat 0 := by
    obtain ⟨v, hv, hv2⟩ := i2.r x hx
    have h3 : ¬ (p.sq x : Int) < in1.getD (p.M x).st.toNat 0 := fun hc => hxD ((i2.q x hx hlo).2 hc)
    rw [hv] at h3 ⊢
    have h4 : ¬ v < p.sq x := by
      intro hlt
      obtain ⟨j', a1, a2, a3, a4⟩ := hp.sqd x hx hlo (p.sq x - 1) (by omega)
      have hjx : j' ≠ x := by rintro rfl; omega
      have h5 := i2.total hp d1 hA a1 hjx (fun _ k hk _ _ hlt => .inl (by rintro rfl; omega))
      have h6 := (i2.q j' a1 a2).1 h5
      rw [a3, hv, a4] at h6
      omega
    omega
  have i3 := i2.next hp hx hlo hqx (fun h => absurd rfl h) ps1 i2.s (fun k i hk hi => by
    rw [i2.m k i hk hi]
    constructor
    · rintro ⟨a, b⟩
      exact ⟨⟨a, b⟩, by rintro rfl; exact hpx i hi a⟩
    · exact fun h => h.1)
  obtain ⟨inx, hinx⟩ : ∃ y, y = nextI in1 (p.M x).st (p.sq x) := ⟨_, rfl⟩
  obtain ⟨psx, hpsx⟩ : ∃ y, y = nextP in1 ps1 (p.M x).st (p.sq x) := ⟨_, rfl⟩
  rw [← hinx, ← hpsx] at i3
  have hL : skipL in1 ps1 [((p.M x).st, (p.sq x : Int))] = (inx, psx) := by
    unfold skipL
    simp only [List.foldl_cons, List.foldl_nil]
    unfold skipStep
    obtain ⟨v, hv, hv2⟩ := i2.r x hx
    have hb := hp.sqb x hx
    simp only
    rw [if_pos, ← hinx, ← hpsx]
    rw [← hqx, lead_small (by omega) (by omega)]
    omega
  have hcut : cutG psx (p.t x (p.c x - 1)) = [] := by
    unfold cutG
    rw [cutS]
    rcases p.getT_pc hp i3.s hx (show p.c x - 1 < p.c x by omega) with ⟨_, g⟩ | ⟨g, _⟩
    · exact absurd ((i3.m x _ hx (by omega)).1 g).1 (hpx _ (by omega))
    · rw [g]
  have hkeep : withoutG psx (skB (p.t x (p.c x - 1)) []) = psx := by
    unfold withoutG
    rw [List.filter_eq_self]
    intro d hd
    obtain ⟨j, i, h1, h2, rfl⟩ := i3.s.mem d hd
    have hj := ((i3.m j i h1 h2).1 hd).2
    simp only [List.mem_append, List.mem_singleton, not_or] at hj
    have : (p.M j).lo = false := by
      cases hl : (p.M j).lo with
      | false => rfl
      | true => exact absurd (i2.total hp d1 hA h1 hj.2 (fun h => by rw [hl] at h; cases h)) hj.1
    simp [skB, Plan.pc, this]
  have hS : skipG in1 ps1 (p.t x (p.c x - 1)) [((p.M x).st, (p.sq x : Int))] = delG psx.length inx psx [] := by
    unfold skipG skipP
    rw [hL]
    simp only
    rw [hcut, hkeep]
  obtain ⟨D2, i4, b4, d4⟩ := p.del hp psx.length [] i3 (Nat.le_refl _)
  obtain ⟨in2, ps2, more, hdl⟩ : ∃ a b c, delG psx.length inx psx [] = (a, b, c) := ⟨_, _, _, rfl⟩
  rw [hdl] at i4 b4 d4
  simp only [List.nil_append] at i4 b4 d4
  have hxin : x ∈ D1 ++ [x] ++ D2 := by simp
  have hall : ∀ j, j < p.n → j ∈ D1 ++ [x] ++ D2 := by
    intro j hj
    by_cases hjx : j = x
    · subst hjx; exact hxin
    · exact i4.total hp d4 hA hj hjx (fun _ k _ _ _ _ => by
        by_cases hk : k = x
        · subst hk; exact .inr hxin
        · exact .inl hk)
  have hps := i4.empty hall
  have hlen := full_len i4.dn i4.dl hall
  subst hps
  refine ⟨in1, ps1, got, in2, more, hcm, hS.trans hdl, ?_, ?_⟩
  · rw [b1, b4]
    simp at hlen ⊢; omega
  · have hq2 := (i4.q x hx hlo).1 hxin
    obtain ⟨v, hv, hv2⟩ := i4.r x hx
    exact late_none hq2 (by omega) hlo _ _
end Go.Proofs.Ytfhhbkehlfipgaa
end

section
set_option linter.unusedSimpArgs false
set_option linter.unusedVariables false
set_option linter.unnecessarySimpa false
set_option linter.unusedSectionVars false
namespace Go.Proofs.Ytfhhbkehlfipgaa
open Go.Tx
set_option maxRecDepth 100000
set_option maxHeartbeats 1000000
set_option linter.unusedSimpArgs false
set_option linter.unusedVariables false
/-! the plain law of StreamsJoins -/
theorem map_msA (ms : List Msg) : (List.range ms.length).map (msA ms) = ms := by
  apply List.ext_getElem?
  intro k
  by_cases hk : k < ms.length
  · simp [hk, msA_eq hk]
  · simp [hk]
theorem joins_plain {N : Nat} {ms : List Msg} (h : MsOk N ms) {f : Int} (hf : 0 ≤ f) {l' : List Dat} (hl' : l'.Perm (othersP (planOf f ms) ms.length)) :
    ∃ in1 got, comesG (zrs N) [] l' [] = (in1, [], got) ∧ got.Perm ms ∧ ∀ st, got.filter (ordB st) = ms.filter (ordB st) := by
  have hp := planOf_ok h hf
  obtain ⟨p, hpd⟩ : ∃ p, p = planOf f ms := ⟨_, rfl⟩
  have hM : p.M = msA ms := by rw [hpd]; rfl
  have hn : p.n = ms.length := by rw [hpd]; rfl
  have hsq : p.sq = sqP ms := by rw [hpd]; rfl
  have h0 := inv0 h (f := f) ms.length
  rw [← hpd] at hp hl' h0
  rw [← hn] at h0 hl'
  have hmem : ∀ d, d ∈ l' ↔ ∃ j i, j < p.n ∧ i < p.c j ∧ j ≠ p.n ∧ d = p.pc j i := fun d => (hl'.mem_iff).trans mem_others
  have hnd : ((([] : List Dat) ++ l').map Dat.tsn).Nodup := (hl'.map Dat.tsn).nodup_iff.2 (others_nd hp _)
  obtain ⟨D, i1, b1, d1⟩ := p.comes hp l' [] h0 rfl (fun d hd => (hmem d).1 hd) hnd
  rw [List.nil_append, List.nil_append] at i1
  obtain ⟨in1, ps1, got, hcm⟩ : ∃ a b c, comesG (zrs N) [] l' [] = (a, b, c) := ⟨_, _, _, rfl⟩
  rw [hcm] at i1 b1 d1
  simp only [List.nil_append] at i1 b1 d1
  have hA : ∀ j i, j < p.n → i < p.c j → j ≠ p.n → p.pc j i ∈ l' := fun j i h1 h2 h3 => (hmem _).2 ⟨j, i, h1, h2, h3, rfl⟩
  have hall : ∀ j, j < p.n → j ∈ D := fun j hj => i1.total hp d1 hA hj (by omega) (fun _ k hk _ _ _ => .inl (by omega))
  have hps := i1.empty hall
  subst hps
  have hperm : D.Perm (List.range p.n) := (List.perm_ext_iff_of_nodup i1.dn List.nodup_range).2 fun j => ⟨fun hj => List.mem_range.2 (i1.dl j hj), fun hj => hall j (List.mem_range.1 hj)⟩
  have hgot : got = D.map (msA ms) := by rw [b1, hM]
  refine ⟨in1, got, hcm, ?_, fun st => ?_⟩
  · have := hperm.map (msA ms)
    rw [← hgot, hn, map_msA] at this
    exact this
  · rw [hgot]
    conv => rhs; rw [← map_msA ms]
    rw [List.filter_map, List.filter_map]
    congr 1
    rw [← hn]
    have hq : ∀ j, j < p.n → (ordB st ∘ msA ms) j = true → (msA ms j).lo = false ∧ (msA ms j).st = st := fun j _ hj => ordB_iff.1 hj
    refine List.Perm.eq_of_pairwise (le := fun a b => sqP ms a < sqP ms b) (fun a b _ _ h1 h2 => absurd h1 (by omega)) ?_ ?_ (hperm.filter _)
    · rw [List.pairwise_filter]
      refine List.Pairwise.imp_of_mem ?_ i1.ord
      intro a b ha hb hab pa pb
      obtain ⟨a1, a2⟩ := hq a (i1.dl a ha) pa
      obtain ⟨b1, b2⟩ := hq b (i1.dl b hb) pb
      rw [hM, hsq] at hab
      exact hab a1 b1 (a2.trans b2.symm)
    · rw [List.pairwise_filter]
      refine List.Pairwise.imp_of_mem ?_ List.pairwise_lt_range
      intro a b ha hb hab pa pb
      have ha := List.mem_range.1 ha
      have hb := List.mem_range.1 hb
      obtain ⟨a1, a2⟩ := hq a ha pa
      obtain ⟨b1, b2⟩ := hq b hb pb
      exact sq_lt hab (by omega) a1 b1 (a2.trans b2.symm)
/-- All pieces, as numbered makes them. -/
theorem numAll {N : Nat} {ms : List Msg} (h : MsOk N ms) {f : Int} : ∀ (k j : Nat) (acc : List Dat), j + k = ms.length → acc.length = offP ms j →
    numG f (outP N ms j) (ms.drop j) acc = (outP N ms ms.length, acc ++ (List.range k).flatMap fun i => piecesP (planOf f ms) (j + i))
  | 0, j, acc, hj, _ => by
    have : j = ms.length := by omega
    subst this
    rw [List.drop_of_length_le (Nat.le_refl _), numG]; simp
  | k + 1, j, acc, hj, ha => by
    have hlt : j < ms.length := by omega
    rw [List.drop_eq_getElem_cons hlt, ← msA_eq hlt, numG, outP_next h hlt, cuts_plan h hlt (f := f) f acc.length (by rw [ha])]
    have hlen : (acc ++ (List.range (cP (msA ms j))).map ((planOf f ms).pc j)).length = offP ms (j + 1) := by
      rw [offP_succ hlt]; simp [ha]
    rw [numAll h k (j + 1) _ (by omega) hlen, List.append_assoc]
    congr 2
    rw [List.range_succ_eq_map, List.flatMap_cons, List.flatMap_map]
    congr 1
    congr 1
    funext i
    show piecesP _ (j + 1 + i) = piecesP _ (j + (i + 1))
    rw [show j + 1 + i = j + (i + 1) by omega]
theorem numAll0 {N : Nat} {ms : List Msg} (h : MsOk N ms) {f : Int} : (numG f (zrs N) ms []).2 = othersP (planOf f ms) ms.length := by
  have := numAll h (f := f) ms.length 0 [] (by omega) (by simp [offP])
  rw [outP_zero, List.drop_zero] at this
  rw [this]
  simp only [List.nil_append, Nat.zero_add]
  unfold othersP
  congr 1
  show List.range ms.length = (List.range ms.length).filter _
  symm
  rw [List.filter_eq_self]
  intro j hj
  have := List.mem_range.1 hj
  simp; omega
end Go.Proofs.Ytfhhbkehlfipgaa
end
