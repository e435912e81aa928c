/- Lemmas for the walk: YC48, YC34, YC38, YC53, YC17, YC18, YC19, YC20, YC54, YC60, YC67a. -/
import Derived.Test.YtfhhbkehlfipgaaP13
import Derived.Test.YtfhhbkehlfipgaaShelfP
import Derived.Test.YtfhhbkehlfipgaaP14
import Derived.Test.YtfhhbkehlfipgaaP11
import Derived.Test.YtfhhbkehlfipgaaP12
set_option linter.all false
section
namespace Go.Proofs.Ytfhhbkehlfipgaa
open Go.Tx
set_option maxRecDepth 100000
set_option maxHeartbeats 16000000
theorem fnRep : Try.prog.funcs[36]? = some Try.f36 := by kernel_rfl
theorem repeat_ok {F : SF} {L nx : Nat} (s : List UInt8) (c : Nat) (hc : c ≤ 1000000) (hl : s.length * c ≤ 140737488355328) : Con Try.prog 36 [.str s, .int .i64 c] F L nx nx (.str (Lib.repeatL s c)) [] [] := by
 refine ⟨Nat.le_refl _, fun F2 hF2 E w args' hR _ _ hv => ?_⟩
 simp only [VRl, VR] at hv
 obtain ⟨_, _, rfl, rfl, _, _, rfl, rfl, rfl⟩ := hv
 have h := Try.strings_Repeat ⟨s.toArray⟩ c w (by omega) (by rw [strV_size]; exact hl)
 rw [callFunc_run fnRep (by rfl) (by kernel_rfl)]
 refine Calls.mono h ?_
 rintro e w' ⟨rfl, hb⟩
 refine ⟨_, rfl, E, ?_, StepR.same hR hb.os hb.tape hb.output hb.size hb.block, fun n h1 h2 => absurd h1 h2⟩
 simp only [VR]
 rfl
theorem idx_getT : ∀ (ps : List Dat) (t : Int), (getT ps t = none ∧ idxI (fun d => d.tsn == t) ps = -1) ∨ (∃ i : Nat, ∃ h : i < ps.length, getT ps t = some ps[i] ∧ idxI (fun d => d.tsn == t) ps = i) := by
 intro ps t
 cases hg : getT ps t with
 | none =>
  left
  refine ⟨rfl, idxI_end fun j hj => ?_⟩
  unfold getT at hg
  rw [List.find?_eq_none] at hg
  simpa using hg _ (List.getElem_mem hj)
 | some d =>
  right
  unfold getT at hg
  rw [List.find?_eq_some_iff_getElem] at hg
  obtain ⟨h1, i, hi, h2, h3⟩ := hg
  exact ⟨i, hi, by rw [h2], idxI_stop hi (fun j hj hji => by simpa using h3 j hji) (by rw [h2]; exact h1)⟩
structure CutX where
 i : Nat
 q : Nat
 c : Nat
 t : Int
 d : Dat
 ns : List Int
def cutI (ps : List Dat) (cum : Int) (z : CutX) : Prop :=
 z.ns.length = z.i ∧ z.ns.Nodup ∧ (∀ x ∈ z.ns, x ∈ ps.map Dat.tsn) ∧ 0 ≤ z.t ∧ z.t < 4294967296 ∧ cutS ps (ps.length + 1 - z.i) z.t z.d z.ns = cutG ps cum ∧
 128 ≤ z.c ∧ 192 ≤ z.q ∧ z.q ≠ z.c ∧ z.c < 10000 * (z.i + 1) ∧ z.q < 10000 * (z.i + 1)
theorem cut_ok {F : SF} {L nx : Nat} (n : Nm) (hn : n.l ≤ L) (o p : Bool) (out inn num seen asked : PV) (ps : List Dat) (hlen : ps.length ≤ 80) (hall : ∀ x ∈ ps, x.ok = true) (cum : Int) (hc0 : 0 ≤ cum) (hc1 : cum < 4294967296)
  (hF : F n = some (.rows 106 6 o p [[out, inn, .fs 8 (ps.map Dat.row), num, seen, asked]])) :
  Con Try.prog 59 [.ptr n 0 0, .int .i64 cum] F L nx nx (.fs 1 ((cutG ps cum).map eI)) [] [n] := by
 refine bdy Try.f59 (hrd := (by simpa using hn)) ?_
 intro F3 hF1 hF2
 have hF := (hF1 n (by simp)).trans hF
 have q5 := nm_out' hn
 have q6 := nm_out hn
 simp only [Try.f59, cx, go_sem, meths]
 refine loopK.intro _ _ (I := fun z : CutX => ⟨[some (.ptr n 0 0), none, none, none, none, some (.sl ⟨L + 1, z.q⟩ 0 z.ns.length), some (.ptr ⟨L + 1, 64⟩ 0 0), some (.ptr ⟨L + 1, z.c⟩ 0 0), none, none, none, none, none, none, none, none, none, none, none, none, none, none, none, none, none, none, none, none, none, none, none, none, none, none, none, none, none, none, none, none, none, none, none, none, none, none, none, none, none, none, none, none, none, none, none, none, none, none, none, none, none, none, none, none, none, none, none, none, none, none, none, none, none, none, none, none, none, none, none, none],
  [(⟨L + 1, 64⟩, .rows 43 8 true true [z.d.row]), (⟨L + 1, z.c⟩, .rows 3 1 true true [[.int .i64 z.t]]), (⟨L + 1, z.q⟩, .rows 3 1 true true (z.ns.map eI))], 10000 * (z.i + 1)⟩)
  (pre := cutI ps cum) (μ := fun z => ps.length + 1 - z.i) ⟨0, 192, 128, cum, datZ, []⟩ ⟨rfl, by simp, by simp, hc0, hc1, rfl, by simp, by simp, by simp, by simp, by simp⟩ ?_ ?_
 ·refine Sub.trans (Sub.nilName 5 3 (wd := 1) (by omega) rfl) ?_
  refine Sub.of (hfz hF2) (by simp only [go_sem, subT, and_self]) ?_ (by simp [subK, keys, updH, setH]) (by simp)
  simp [subH, Tx.look, updH, setH, datZ, Dat.row]
 ·rintro ⟨i, q, c, t, b, ns⟩ ⟨h1, h2, h3, h4, h5, h6, k1, k2, k3, k4, k5⟩
  simp only at h1 h2 h3 h4 h5 h6 k1 k2 k3 k4 k5 ⊢
  have hil : i ≤ ps.length := by
   have := nodup_sub h2 h3
   simp at this; omega
  have c_64 : (c = 64) = False := by apply eq_false; omega
  have n64_c : (64 = c) = False := by apply eq_false; omega
  have c_n1 : ∀ kk, (10000 * (i + 1) + kk = c) = False := fun kk => by apply eq_false; omega
  have c_n2 : ∀ kk, (c = 10000 * (i + 1) + kk) = False := fun kk => by apply eq_false; omega
  have c_n3 : (10000 * (i + 1) = c) = False := by apply eq_false; omega
  have c_n4 : (c = 10000 * (i + 1)) = False := by apply eq_false; omega
  have c_n5 : ∀ kk, ((⟨L + 1, c⟩ : Nm) == ⟨L + 1, 10000 * (i + 1) + kk⟩) = false := fun kk => by simp; omega
  have q_0 : (q = 0) = False := by apply eq_false; omega
  have n0_q : (0 = q) = False := by apply eq_false; omega
  have q_64 : (q = 64) = False := by apply eq_false; omega
  have n64_q : (64 = q) = False := by apply eq_false; omega
  have q_c : (q = c) = False := by apply eq_false; omega
  have nc_q : (c = q) = False := by apply eq_false; omega
  have q_n1 : ∀ kk, (10000 * (i + 1) + kk = q) = False := fun kk => by apply eq_false; omega
  have q_n2 : ∀ kk, (q = 10000 * (i + 1) + kk) = False := fun kk => by apply eq_false; omega
  have q_n3 : (10000 * (i + 1) = q) = False := by apply eq_false; omega
  have q_n4 : (q = 10000 * (i + 1)) = False := by apply eq_false; omega
  have q_n5 : ∀ kk, ((⟨L + 1, q⟩ : Nm) == ⟨L + 1, 10000 * (i + 1) + kk⟩) = false := fun kk => by simp; omega
  simp only [q6, hF, Dat.row, Nat.add_assoc, Nat.add_zero, go_sem]
  refine CallVC.same (indexFuncD_ok ps 89 [] [.ptr ⟨L + 1, c⟩ 0 0] (fun d => d.tsn == t) [⟨L + 1, c⟩] (by simp) (by omega) (fun x hx L' nx' hL => cut1_ok x ⟨L + 1, c⟩ hL 3 true true t (by simp [c_64]))) ?_
  obtain ⟨k, hk⟩ : ∃ k, ps.length + 1 - i = k + 1 := ⟨ps.length - i, by omega⟩
  rw [hk, cutS] at h6
  rcases idx_getT ps t with ⟨g0, e0⟩ | ⟨j, hj, g0, e0⟩
  ·rw [g0] at h6
   simp only at h6
   rw [e0, ← h6]
   have f1 : decide ((-1 : Int) < 0) = true := rfl
   simp only [f1, Nat.add_assoc, go_sem]
   exact PostF.rs (v0 := .nilS) (.inr rfl)
  ·rw [g0] at h6
   simp only at h6
   rw [e0]
   have f1 : decide ((j : Int) < 0) = false := dF (by omega)
   have r0 := rowD' hj
   obtain ⟨d, hd⟩ : ∃ d, d = ps[j] := ⟨_, rfl⟩
   have hdm : d ∈ ps := by rw [hd]; exact List.getElem_mem hj
   have hdt : d.tsn = t := (getT_mem g0).2 ▸ by rw [hd]
   rw [← hd] at h6 r0
   cases hla : d.la with
   | true =>
    rw [hla] at h6
    simp only [Bool.true_or, if_true] at h6
    rw [← h6]
    simp only [f1, r0, hla, Int.toNat_natCast, q6, hF, Dat.row, Nat.add_assoc, List.length_map, Nat.add_zero, go_sem]
    repeat refine sd1 ?_
    exact PostF.rs (v0 := .nilS) (.inr rfl)
   | false =>
    rw [hla] at h6
    simp only [Bool.false_or] at h6
    simp only [f1, r0, hla, Int.toNat_natCast, q6, hF, Dat.row, nc_q, c_64, Nat.add_assoc, List.length_map, Nat.add_zero, go_sem]
    repeat refine sd1 ?_
    refine CallVC.pure (args2 := [.fs 1 (ns.map eI), _]) ⟨by simp [Wk, q_64, q_c, List.take_of_length_le], rfl, trivial⟩ (contains_ok ns t (by omega)) rfl ?_
    have h7 : ns.contains t = ns.any fun z => t == z := List.contains_eq_any_beq
    cases h8 : ns.any fun z => t == z with
    | true =>
     rw [h7, h8] at h6
     simp only [if_true] at h6
     rw [← h6]
     simp only [Nat.add_assoc, go_sem]
     repeat refine sd1 ?_
     exact PostF.rs (v0 := .nilS) (.inr rfl)
    | false =>
     rw [h7, h8] at h6
     simp only [if_false, Bool.false_eq_true] at h6
     have hnd' : (ns ++ [t]).Nodup := by
      rw [List.nodup_append]
      refine ⟨h2, by simp, fun a ha b hb => ?_⟩
      simp at hb
      intro hab
      have : ns.any (fun z => t == z) = true := List.any_eq_true.2 ⟨a, ha, by simp [hab, hb]⟩
      rw [h8] at this; cases this
     have hns' : ∀ n ∈ ns ++ [t], n ∈ ps.map Dat.tsn := by
      intro n hn'
      rcases List.mem_append.1 hn' with h | h
      ·exact h3 n h
      ·simp at h; subst h; exact List.mem_map.2 ⟨d, hdm, hdt⟩
     have e9 : decide ((0 : Int) < (ns.length : Int)) = decide (0 < ns.length) := by simp
     have e10 : (d.lo != b.lo) = !(d.lo == b.lo) := rfl
     have e11 : Go.Sx.ibits .and .i64 (t - 1) 4294967295 = (t - 1) % 4294967296 := and_mask (t - 1) 32 (by omega)
     rw [e10] at h6
     have key : (decide (0 < ns.length) && (d.st != b.st || d.sq != b.sq || !(d.lo == b.lo))) = false → ns.length + 1 ≤ ps.length + 1 := fun _ => by omega
     cases h9 : decide (0 < ns.length) with
     | false =>
      rw [h9] at h6 e9
      simp only [Bool.false_and, if_false, Bool.false_eq_true] at h6
      cases hfi : d.fi with
      | true =>
       rw [hfi] at h6
       simp only [if_true] at h6
       rw [← h6]
       simp only [r0, hla, e9, hfi, Int.toNat_natCast, q6, hF, Dat.row, q_64, n64_q, q_c, nc_q, q_n1, q_n2, q_n5, c_64, n64_c, c_n1, c_n2, nS2, nS2', Nat.add_assoc, List.length_map, Nat.add_zero, go_sem]
       repeat refine sd2 ?_
       refine ⟨okDyn_num (fun x => if x.i = q then 1 else if x.i = c then 2 else x.i % 10000 + 100) (by simp only [numF, List.map, n64_q, q_c, nc_q, q_n1, n64_c, c_n1, if_true, if_false, Nat.mul_add_mod, Nat.reduceMod]; kernel_rfl), ?_⟩
       exact PostF.rs (v0 := .sl ⟨L + 1, 10000 * (i + 1) + 1344⟩ 0 (ns.length + 1) ) (.inr rfl) (hw := by simp [Wk, Tx.look, List.take_of_length_le, eI, q_n1, c_n1])
      | false =>
       rw [hfi] at h6
       simp only [if_false, Bool.false_eq_true] at h6
       simp only [r0, hla, e9, hfi, Int.toNat_natCast, q6, hF, Dat.row, q_64, n64_q, q_c, nc_q, q_n1, q_n2, q_n5, c_64, n64_c, c_n1, c_n2, nS2, nS2', Nat.add_assoc, List.length_map, Nat.add_zero, go_sem]
       repeat refine sd2 ?_
       refine ⟨okDyn_num (fun x => if x.i = q then 1 else if x.i = c then 2 else x.i % 10000 + 100) (by simp only [numF, List.map, n64_q, q_c, nc_q, q_n1, n64_c, c_n1, if_true, if_false, Nat.mul_add_mod, Nat.reduceMod]; kernel_rfl), ⟨by omega, by omega⟩, ⟨i + 1, 10000 * (i + 1) + 1344, 10000 * (i + 1) + 1568, (t - 1) % 4294967296, d, ns ++ [t]⟩, ⟨by simp; omega, hnd', hns', by simp only []; omega, by simp only []; omega, by rw [← h6]; show cutS ps (ps.length + 1 - (i + 1)) _ _ _ = _; rw [show ps.length + 1 - (i + 1) = k by omega], by simp only []; omega, by simp only []; omega, by simp only []; omega, by simp only []; omega, by simp only []; omega⟩, by simp only []; omega, ?_⟩
       refine Sub.of (hfz hF2) (by simp only [List.length_append, go_sem, subT, and_self]) ?_ (by simp [subK, keys]) (by simp only []; omega)
       simp [subH, Tx.look, eI, e11, hfi, hla, q_n1, c_n1]
     | true =>
      rw [h9] at h6 e9
      simp only [Bool.true_and] at h6
      cases h11 : d.st != b.st with
      | true =>
       rw [h11] at h6
       simp only [Bool.true_or, if_true] at h6
       rw [← h6]
       simp only [r0, hla, e9, h11, Int.toNat_natCast, q6, hF, Dat.row, n64_q, q_n1, n64_c, c_n1, Nat.add_assoc, List.length_map, Nat.add_zero, go_sem]
       repeat refine sd1 ?_
       exact PostF.rs (v0 := .nilS) (.inr rfl)
      | false =>
       rw [h11] at h6
       simp only [Bool.false_or] at h6
       cases h12 : d.sq != b.sq with
       | true =>
        rw [h12] at h6
        simp only [Bool.true_or, if_true] at h6
        rw [← h6]
        simp only [r0, hla, e9, h11, h12, Int.toNat_natCast, q6, hF, Dat.row, n64_q, q_n1, n64_c, c_n1, Nat.add_assoc, List.length_map, Nat.add_zero, go_sem]
        repeat refine sd1 ?_
        exact PostF.rs (v0 := .nilS) (.inr rfl)
       | false =>
        rw [h12] at h6
        simp only [Bool.false_or] at h6
        cases h13 : d.lo == b.lo with
        | false =>
         rw [h13] at h6
         simp only [Bool.not_false, if_true] at h6
         rw [← h6]
         simp only [r0, hla, e9, h11, h12, h13, Int.toNat_natCast, q6, hF, Dat.row, n64_q, q_n1, n64_c, c_n1, Nat.add_assoc, List.length_map, Nat.add_zero, go_sem]
         repeat refine sd1 ?_
         exact PostF.rs (v0 := .nilS) (.inr rfl)
        | true =>
         rw [h13] at h6
         simp only [Bool.not_true, if_false, Bool.false_eq_true] at h6
         cases hfi : d.fi with
         | true =>
          rw [hfi] at h6
          simp only [if_true] at h6
          rw [← h6]
          simp only [r0, hla, e9, h11, h12, h13, hfi, Int.toNat_natCast, q6, hF, Dat.row, q_64, n64_q, q_c, nc_q, q_n1, q_n2, q_n5, c_64, n64_c, c_n1, c_n2, nS2, nS2', Nat.add_assoc, List.length_map, Nat.add_zero, go_sem]
          repeat refine sd2 ?_
          refine ⟨okDyn_num (fun x => if x.i = q then 1 else if x.i = c then 2 else x.i % 10000 + 100) (by simp only [numF, List.map, n64_q, q_c, nc_q, q_n1, n64_c, c_n1, if_true, if_false, Nat.mul_add_mod, Nat.reduceMod]; kernel_rfl), ?_⟩
          exact PostF.rs (v0 := .sl ⟨L + 1, 10000 * (i + 1) + 1952⟩ 0 (ns.length + 1) ) (.inr rfl) (hw := by simp [Wk, Tx.look, List.take_of_length_le, eI, q_n1, c_n1])
         | false =>
          rw [hfi] at h6
          simp only [if_false, Bool.false_eq_true] at h6
          simp only [r0, hla, e9, h11, h12, h13, hfi, Int.toNat_natCast, q6, hF, Dat.row, q_64, n64_q, q_c, nc_q, q_n1, q_n2, q_n5, c_64, n64_c, c_n1, c_n2, nS2, nS2', Nat.add_assoc, List.length_map, Nat.add_zero, go_sem]
          repeat refine sd2 ?_
          refine ⟨okDyn_num (fun x => if x.i = q then 1 else if x.i = c then 2 else x.i % 10000 + 100) (by simp only [numF, List.map, n64_q, q_c, nc_q, q_n1, n64_c, c_n1, if_true, if_false, Nat.mul_add_mod, Nat.reduceMod]; kernel_rfl), ⟨by omega, by omega⟩, ⟨i + 1, 10000 * (i + 1) + 1952, 10000 * (i + 1) + 2176, (t - 1) % 4294967296, d, ns ++ [t]⟩, ⟨by simp; omega, hnd', hns', by simp only []; omega, by simp only []; omega, by rw [← h6]; show cutS ps (ps.length + 1 - (i + 1)) _ _ _ = _; rw [show ps.length + 1 - (i + 1) = k by omega], by simp only []; omega, by simp only []; omega, by simp only []; omega, by simp only []; omega, by simp only []; omega⟩, by simp only []; omega, ?_⟩
          refine Sub.of (hfz hF2) (by simp only [List.length_append, go_sem, subT, and_self]) ?_ (by simp [subK, keys]) (by simp only []; omega)
          simp [subH, Tx.look, eI, e11, hfi, hla, q_n1, c_n1]
theorem PsOk.delP {inn : List Int} {ps : List Dat} (h : PsOk inn ps) (hi : inn.all (serB 16) = true) (hi2 : inn.length ≤ 16) : DelP inn ps where
 len := h.len
 ok := fun d hd => (partOk_ok (h.all d hd)).1
 st := fun d hd => (partOk_ok (h.all d hd)).2.1
 nodup := h.nodup
 i3 := hi
 i2 := hi2
theorem okSk_bounds {sk : List (Int × Int)} {cum : Int} (h : fwdV cum sk = true) : (∀ k ∈ sk, 0 ≤ k.1 ∧ 0 ≤ k.2 ∧ k.2 < 65536) ∧ 0 ≤ cum ∧ cum < 4294967296 ∧ sk.length ≤ 30 := by
 obtain ⟨b1, b2, b3⟩ := fwdV_all h
 have h16 : (2 : Int) ^ (Int.toNat 16) = 65536 := rfl
 have h32 : (2 : Int) ^ (Int.toNat 32) = 4294967296 := rfl
 simp only [serB, Bool.and_eq_true, decide_eq_true_eq, h32] at b2
 refine ⟨fun k hk => ?_, b2.1, b2.2, b3⟩
 have := b1 k hk
 simp only [serB, Bool.and_eq_true, decide_eq_true_eq, h16] at this
 exact ⟨this.1.1, this.2.1, this.2.2⟩
theorem cutS_len (ps : List Dat) : ∀ (k : Nat) (t : Int) (b : Dat) (ns : List Int), (cutS ps k t b ns).length ≤ k + ns.length
 | 0, _, _, _ => by simp [cutS]
 | k + 1, t, b, ns => by
  rw [cutS]
  split
  ·simp
  ·split
   ·simp
   ·split
    ·simp
    ·split
     ·simp; omega
     ·exact Nat.le_trans (cutS_len ps k _ _ _) (by simp; omega)
theorem cutG_len (ps : List Dat) (cum : Int) : (cutG ps cum).length ≤ ps.length + 1 := Nat.le_trans (cutS_len ps (ps.length + 1) cum datZ []) (by simp)
theorem skip_ok {F : SF} {L nx : Nat} (out inn asked : List Int) (num seen : Int) (hS : Str0 out inn num seen asked) (ps : List Dat) (hP : PsOk inn ps) (hD : dueG inn ps = none) (cum : Int) (sk : List (Int × Int)) (hV : fwdV cum sk = true) (hst : sk.any (fun k => decide ((inn.length : Int) ≤ k.1)) = false) :
    Con Try.prog 30 [strV out inn num seen asked ps, fwdP cum sk] F L nx nx (.tup [strV out (skipG inn ps cum sk).1 num seen asked (skipG inn ps cum sk).2.1, .fs 4 ((skipG inn ps cum sk).2.2.map Msg.row), .int .i64 0]) [] [] := by
  have hp80 := hP.len
  have ho2 := hS.o2
  have hi2 := hS.i2
  have ha2 := hS.a2
  obtain ⟨hk1, hc0, hc1, hk3⟩ := okSk_bounds hV
  have hk2 : ∀ k ∈ sk, k.1 < inn.length := by
    intro k hk
    rw [List.any_eq_false] at hst
    have := hst k hk
    simp at this; omega
  have hbg : ∀ F L nx, Con Try.prog 41 [strV out inn num seen asked ps] F L nx (nx + 5) (.tup [.ptr ⟨L, nx⟩ 0 0, .int .i64 0]) (stU L nx out inn asked num seen ps) [] := fun F L nx => begin_ok out inn asked num seen hS ps hP hD
  have hpf := fun F L nx => putForward_ok (F := F) (L := L) (nx := nx) cum sk (by omega)
  simp only [hV, if_true, fwdP] at hpf
  simp only [strV, stU] at hbg
  have f0 : ((0 : Int) != 0) = false := rfl
  refine bdy Try.f30 ?_
  intro F3 hF1 hF2
  simp only [Try.f30, cx, strV, fwdP, go_sem, meths]
  refine CallVC.same (hbg _ _ _) ?_
  simp only [f0, go_sem]
  refine CallVC.same (hpf _ _ _) ?_
  simp only [f0, go_sem]
  refine CallVC.same (containsFunc2_ok sk 57 [] [.ptr ⟨L + 1, 0⟩ 0 0] (fun k => decide ((inn.length : Int) ≤ k.1)) [⟨L + 1, 0⟩] (by simp) (by omega) (fun x hx L' nx' hL => skip1_ok x ⟨L + 1, 0⟩ hL 34 true true (.fs 1 (out.map eI)) (.fs 8 (ps.map Dat.row)) (.int .i64 num) (.int .i64 seen) (.fs 1 (asked.map eI)) inn (by simp))) ?_
  simp only [hst, List.length_map, go_sem]
  refine loopK.intro _ _ (I := fun i : Nat => ⟨[none, none, none, some (.ptr ⟨L + 1, 32⟩ 0 0), some (.ptr ⟨L + 1, 64⟩ 0 0), none, none, some (.ptr ⟨L + 1, 192⟩ 0 0), none, none, none, none, none, none, none, none, none, none, none, none, none, none, none, none, none, none, none, none, none, none, none, none, none, none, none, none, none, none, none, some (.fs 2 (sk.map kE)), some (.int .i64 sk.length), some (.int .i64 i), none, none, none, none, none, none, none, none, none, none, none, none, none, none, none, none, none, none, none, none, none, none, none, none, none, none, none, none, none, none, none, none, none, none, none, none, none, none, none, none, none, none, none, none, none],
    [(⟨L + 1, 32⟩, .rows 75 2 true true [[.int .i64 cum, .fs 2 (sk.map kE)]]), (⟨L + 1, 64⟩, .rows 34 6 true true [[.nilS, .nilS, .nilS, .int .i64 0, .int .i64 0, .nilS]]),
     (⟨L + 1, 192⟩, .rows 106 6 true false [[.sl ⟨L + 1, 193⟩ 0 out.length, .sl ⟨L + 1, 194⟩ 0 inn.length, .fs 8 ((skipL inn ps (sk.take i)).2.map Dat.row), .int .i64 num, .int .i64 seen, .sl ⟨L + 1, 196⟩ 0 asked.length]]),
     (⟨L + 1, 193⟩, .rows 3 1 true true (out.map eI)), (⟨L + 1, 194⟩, .rows 3 1 true true ((skipL inn ps (sk.take i)).1.map eI)), (⟨L + 1, 196⟩, .rows 3 1 true true (asked.map eI))], if i = sk.length then 1000000 else 10000 * (i + 1)⟩) (pre := fun i => i ≤ sk.length) (μ := fun i => sk.length - i) 0 (by omega) ?_ ?_
  · refine Sub.trans (Sub.freeze (n := ⟨L + 1, 192⟩) (e := 106) (wd := 6) (o := true) (rs := [[.sl ⟨L + 1, 193⟩ 0 out.length, .sl ⟨L + 1, 194⟩ 0 inn.length, .sl ⟨L + 1, 195⟩ 0 ps.length, .int .i64 num, .int .i64 seen, .sl ⟨L + 1, 196⟩ 0 asked.length]]) [[.sl ⟨L + 1, 193⟩ 0 out.length, .sl ⟨L + 1, 194⟩ 0 inn.length, .fs 8 (ps.map Dat.row), .int .i64 num, .int .i64 seen, .sl ⟨L + 1, 196⟩ 0 asked.length]] (by simp [Tx.look]) (by simp [WkLL, WkL, Wk, Tx.look, List.take_of_length_le]) (by simp [wkNLL, wkNL, wkN])) ?_
    refine Sub.of (hfz hF2) (by simp only [go_sem, subT, and_self, Int.natCast_zero]) ?_ ?_ (by simp only []; split <;> omega)
    · simp [subH, Tx.look, updH, setH, skipL, unown, wkNLL, wkNL, wkN]
    · simp [subK, keys, updH, setH, unown, wkNLL, wkNL, wkN, Tx.look]
  · intro i hi
    obtain ⟨v1, v2, v3⟩ := skipL_ok (sk.take i) (inn, ps) hP hS.i3 (fun k hk => (hk1 k (List.mem_of_mem_take hk)).1)
    obtain ⟨z, hz⟩ : ∃ z, z = skipL inn ps (sk.take i) := ⟨_, rfl⟩
    rw [show (sk.take i).foldl skipStep (inn, ps) = z from hz.symm] at v1 v2 v3
    simp only at v3
    rw [← hz]
    by_cases hlt : i < sk.length
    · have hiN : (i = sk.length) = False := by apply eq_false; omega
      have f1 : decide ((i : Int) < (sk.length : Int)) = true := dT (by omega)
      have r0 := rowK hlt
      obtain ⟨k, hk⟩ : ∃ k, k = sk.getD i (0, 0) := ⟨_, rfl⟩
      have hkm : k ∈ sk := by rw [hk]; simp [List.getD_eq_getElem?_getD, hlt]
      rw [← hk] at r0
      obtain ⟨a1, a2, a3⟩ := hk1 k hkm
      have a4 := hk2 k hkm
      have r1 := getD_eI z.1 (i := k.1.toNat) (by omega)
      obtain ⟨b1, b2⟩ := serB16_at v2 (k := k.1.toNat) (by omega)
      have hz1 : skipL inn ps (sk.take (i + 1)) = skipStep z k := by
        unfold skipL
        rw [List.take_succ_eq_append_getElem hlt, List.foldl_append, hz]
        simp only [List.foldl_cons, List.foldl_nil]
        rw [show sk[i] = k by rw [hk]; simp [List.getD_eq_getElem?_getD, hlt]]
        rfl
      simp only [f1, r0, r1, kE, eI, hiN, v3, nB, Nat.add_assoc, List.length_map, Nat.add_zero, go_sem]
      repeat refine sd1 ?_
      refine CallVC.same (lead16_ok k.2 (z.1.getD k.1.toNat 0) a2 a3 b1 b2) ?_
      unfold skipStep at hz1
      cases hle : decide (0 ≤ lead k.2 (z.1.getD k.1.toNat 0) 16) with
      | false =>
        rw [if_neg (by simpa using hle)] at hz1
        simp only [hle, Nat.add_assoc, go_sem]
        repeat refine sd1 ?_
        refine ⟨i + 1, by omega, by omega, ?_⟩
        refine Sub.of (hfz hF2) (by simp only [go_sem, subT, and_self, Int.natCast_succ]) ?_ (by simp [subK, keys]) (by simp only []; split <;> omega)
        simp [subH, Tx.look, hz1]
      | true =>
        rw [if_pos (by simpa using hle)] at hz1
        simp only [hle, nB, Nat.add_assoc, Nat.add_zero, go_sem]
        repeat refine sd1 ?_
        refine CallVC.same (next_ok ⟨L + 1, 192⟩ ⟨L + 1, 194⟩ (.inr ⟨rfl, by simp only []; omega⟩) (.inr ⟨rfl, by simp only []; omega⟩) (by simp) ⟨L + 1, 193⟩ ⟨L + 1, 196⟩ out.length asked.length num seen (Nat.le_refl _) (Nat.le_refl _) k.1 k.2 z.1 v2 a1 (by omega) a2 a3 z.2 (by have := v1.len; omega) (fun x hx => (partOk_ok (v1.all x hx)).1) (by simp [v3]) (by simp)) ?_
        simp only [v3, nB, Nat.add_assoc, go_sem]
        repeat refine sd1 ?_
        refine ⟨i + 1, by omega, by omega, ?_⟩
        refine Sub.of (hfz hF2) (by simp only [go_sem, subT, and_self, Int.natCast_succ]) ?_ (by simp [subK, keys]) (by simp only []; split <;> omega)
        simp [subH, Tx.look, hz1]
    · have f1 : decide ((i : Int) < (sk.length : Int)) = false := dF (by omega)
      have e : i = sk.length := by omega
      subst e
      have e3 : sk.take sk.length = sk := List.take_of_length_le (by omega)
      rw [e3] at hz
      simp only [f1, Nat.add_zero, go_sem]
      refine CallVC.same (cut_ok ⟨L + 1, 192⟩ (Nat.le_refl _) true false (.sl ⟨L + 1, 193⟩ 0 out.length) (.sl ⟨L + 1, 194⟩ 0 inn.length) (.int .i64 num) (.int .i64 seen) (.sl ⟨L + 1, 196⟩ 0 asked.length) z.2 v1.len (fun x hx => (partOk_ok (v1.all x hx)).1) cum hc0 hc1 (by simp)) ?_
      obtain ⟨kept, hkept⟩ : ∃ x, x = cutG z.2 cum := ⟨_, rfl⟩
      rw [← hkept]
      simp only [Nat.add_zero, go_sem]
      have hkl : kept.length ≤ 1000 := by rw [hkept]; exact Nat.le_trans (cutG_len _ _) (by have := v1.len; omega)
      refine CallVC.same (without_ok z.2 60 [] [.ptr ⟨L + 1, 32⟩ 0 0, .ptr ⟨L + 1, 1000128⟩ 0 0] (skB cum kept) [⟨L + 1, 32⟩, ⟨L + 1, 1000128⟩] (by simp) (by have := v1.len; omega) (fun x hx L' nx' hL => skip2_ok x (partOk_ok (v1.all x hx)).1 ⟨L + 1, 32⟩ ⟨L + 1, 1000128⟩ hL hL 75 31 true true true true cum hc0 hc1 (.fs 2 (sk.map kE)) kept hkl (by simp) (by simp))) ?_
      obtain ⟨ps2, hps2⟩ : ∃ x, x = withoutG z.2 (skB cum kept) := ⟨_, rfl⟩
      have hQ := v1.without (skB cum kept)
      rw [← hps2] at hQ ⊢
      have hQ2 := hQ.delP v2 (by omega)
      simp only [Nat.add_zero, go_sem]
      refine CallVC.same (deliver_ok ⟨L + 1, 192⟩ ⟨L + 1, 194⟩ (.inr ⟨rfl, by simp⟩) (.inr ⟨rfl, by simp⟩) (by simp) ⟨L + 1, 193⟩ ⟨L + 1, 196⟩ out.length asked.length num seen (Nat.le_refl _) (Nat.le_refl _) z.1 ps2 hQ2 (by simp [v3]) (by simp)) ?_
      have hrl := delG_len ps2.length z.1 ps2 []
      have hsg : skipG inn ps cum sk = delG ps2.length z.1 ps2 [] := by
        unfold skipG skipP
        rw [← hz, ← hkept, ← hps2]
      rw [hsg]
      obtain ⟨r, hr⟩ : ∃ r, r = delG ps2.length z.1 ps2 [] := ⟨_, rfl⟩
      rw [← hr] at hrl ⊢
      simp only [v3, Nat.add_zero, go_sem]
      have hrl2 := hrl.trans v3
      exact PostF.rs (v0 := .tup [.agg [.sl ⟨L + 1, 193⟩ 0 out.length, .sl ⟨L + 1, 194⟩ 0 inn.length, .fs 8 (r.2.1.map Dat.row), .int .i64 num, .int .i64 seen, .sl ⟨L + 1, 196⟩ 0 asked.length], .fs 4 (r.2.2.map Msg.row), .int .i64 0] ) (.inr rfl) (hw := by simp [Wk, WkL, Tx.look, List.take_of_length_le, hrl2])
theorem repeatL_one (c : UInt8) (n : Nat) : Lib.repeatL [c] n = List.replicate n c := by
 induction n with
 | zero => rfl
 | succ n ih => simp [Lib.repeatL, List.replicate_succ] at ih ⊢; exact ih
def txW : List UInt8 := List.replicate 2500 109
theorem txW_len : txW.length = 2500 := List.length_replicate
def mW : Msg := ⟨1, 0, false, txW⟩
def nW : Msg := ⟨1, 0, false, [110]⟩
def nW2 : Msg := ⟨1, 0, true, [110]⟩
def pW (i : Nat) : List UInt8 := pieceS txW i
theorem pW_len0 : (pW 0).length = 1000 := by simp [pW, pieceS, txW_len]
theorem pW_len1 : (pW 1).length = 1000 := by simp [pW, pieceS, txW_len]
theorem pW_len2 : (pW 2).length = 500 := by simp [pW, pieceS, txW_len]
theorem pW_all : pW 0 ++ (pW 1 ++ pW 2) = txW := by
 simp only [pW, pieceS, txW, List.drop_replicate, List.take_replicate, List.replicate_append_replicate]
 rfl
def l0 (p : List UInt8) : Dat := ⟨10, 1, 0, 0, true, false, false, p⟩
def l1 (p : List UInt8) : Dat := ⟨11, 1, 0, 0, false, false, false, p⟩
def l2 (p : List UInt8) : Dat := ⟨12, 1, 0, 0, false, true, false, p⟩
def l3 : Dat := ⟨13, 1, 1, 0, true, true, false, [110]⟩
def l4 : Dat := ⟨13, 1, 0, 0, true, true, true, [110]⟩
theorem numW : numG 10 [0, 0] [mW, nW] [] = ([0, 2], [l0 (pW 0), l1 (pW 1), l2 (pW 2), l3]) := by
 have h1 : cutsM [0, 0] mW = [⟨0, 1, 0, 0, true, false, false, pW 0⟩, ⟨0, 1, 0, 0, false, false, false, pW 1⟩, ⟨0, 1, 0, 0, false, true, false, pW 2⟩] := by
  unfold cutsM
  rw [show (mW.tx.length + 999) / 1000 = 3 by show (txW.length + 999) / 1000 = 3; rw [txW_len]]
  rfl
 have h2 : cutsM [0, 1] nW = [⟨0, 1, 1, 0, true, true, false, [110]⟩] := rfl
 rw [numG, h1, show outS [0, 0] mW.st.toNat mW.lo = [0, 1] from rfl, numG, h2]
 rfl
theorem comes1 (p q : List UInt8) : comesG [0, 0] [] [l3, l2 q, l0 p] [] = ([0, 0], [l3, l2 q, l0 p], []) := by kernel_rfl
theorem comes2 (p q r : List UInt8) : comesG [0, 0] [] [l3, l2 r, l0 p, l1 q] [] = ([0, 2], [], [⟨1, 0, false, (([] ++ p) ++ q) ++ r⟩, nW]) := by kernel_rfl
theorem comes3 : comesG [0, 0] [] [l4] [] = ([0, 0], [], [nW2]) := by kernel_rfl
theorem comes4 (p q r : List UInt8) : comesG [0, 0] [] [l4, l2 r, l0 p, l1 q] [] = ([0, 1], [], [nW2, ⟨1, 0, false, (([] ++ p) ++ q) ++ r⟩]) := by kernel_rfl
theorem comes5 : comesG [0, 0] [] [l3] [] = ([0, 0], [l3], []) := by kernel_rfl
theorem skipW : skipG [0, 0] [l3] 12 [(1, 0)] = ([0, 2], [], [nW]) := by kernel_rfl
def flW (p q r : List UInt8) : List Fl := [⟨l0 p, 0, 1, 0, false, false, false⟩, ⟨l1 q, 0, 1, 0, false, true, false⟩, ⟨l2 r, 0, 1, 0, false, false, false⟩]
theorem dropsW1 (p q r : List UInt8) : dropsR (flW p q r) [-1, 0] = ([10, 11, 12], 0) := by kernel_rfl
theorem dropsW2 (p q r : List UInt8) : dropsR (flW p q r) [-1, 1] = ([], 0) := by kernel_rfl
def zeroAt (out l : List Int) (k : Nat) : List Int := (l.take k).foldl (fun o i => o.set i.toNat 0) out
theorem zeroAt_len (out l : List Int) (k : Nat) : (zeroAt out l k).length = out.length := by
 unfold zeroAt
 generalize l.take k = m
 induction m generalizing out with
 | nil => rfl
 | cons x m ih => simp only [List.foldl_cons]; rw [ih]; simp
theorem zeroAt_succ (out l : List Int) (k : Nat) (h : k < l.length) : zeroAt out l (k + 1) = (zeroAt out l k).set (l.getD k 0).toNat 0 := by
 unfold zeroAt
 rw [List.take_succ_eq_append_getElem h, List.foldl_append, List.getD_eq_getElem?_getD, List.getElem?_eq_getElem h]
 rfl
theorem listedB_at {l : List Int} {n : Int} (h : listedB l n = true) (i : Nat) (hi : i < l.length) : 0 ≤ l.getD i 0 ∧ l.getD i 0 < n := by
 unfold listedB at h
 rw [List.all_eq_true] at h
 have := h i (by simpa using hi)
 unfold okAt at this
 simp only [Bool.and_eq_true, decide_eq_true_eq] at this
 exact this.1
theorem answered1_ok {F : SF} {L nx : Nat} (out inn : List Int) (num seen : Int) (l : List Int) (hl : 1 ≤ l.length) (hS : Str0 out inn num seen l) (hr : resetV 2 num 0 1 [] = true) :
    Con Try.prog 17 [strV0 out inn num seen l, rstP 2 num 0 1 (.fs 1 [])] F L nx nx (.tup [strV0 (zeroAt out l l.length) inn ((num + 1) % 4294967296) seen [], .int .i64 0]) [] [] := by
  refine bdy Try.f17 ?_
  intro F3 hF1 hF2
  have f0 : ((0 : Int) != 0) = false := rfl
  have f1 : ((2 : Int) != 2) = false := rfl
  have f2 : ((l.length : Int) == 0) = false := eqF (by omega)
  have f3 : (num != num) = false := neF rfl
  have f4 : ((1 : Int) == 6) = false := rfl
  have f5 : ((1 : Int) == 1) = true := rfl
  simp only [Try.f17, cx, strV0, rstP, go_sem, meths]
  refine CallVC.same (begin0_ok out inn l num seen hS.s hS.o1 hS.o2 hS.o3 hS.i1 hS.i2 hS.i3 hS.n hS.a hS.a2) ?_
  simp only [f0, go_sem]
  refine CallVC.same (putReset_ok 2 num 0 1 [] (by simp)) ?_
  simp only [hr, f0, f1, f2, f3, f4, f5, List.length_map, Nat.add_zero, go_sem]
  refine loopK.intro _ _ (I := fun i : Nat => ⟨[none, none, some (.ptr ⟨L + 1, 0⟩ 0 0), none, some (.ptr ⟨L + 1, 64⟩ 0 0), none, some (.ptr ⟨L + 1, 160⟩ 0 0), none, none, none, none, none, none, none, none, none, none, none, none, none, none, none, none, none, none, none, none, none, none, none, none, none, none, none, none, none, none, none, none, none, none, none, none, none, none, none, none, none, none, none, none, none, none, none, none, none, none, none, none, none, none, some (.fs 1 (l.map eI)), some (.int .i64 l.length), some (.int .i64 i), none, none, none, none, none, none, none, none, none, none, none, none, none, none, none, none, none, none, none, none, none, none, none, none, none, none],
    [(⟨L + 1, 0⟩, .rows 34 6 true true [[.fs 1 (out.map eI), .fs 1 (inn.map eI), .fs 8 [], .int .i64 num, .int .i64 seen, .fs 1 (l.map eI)]]), (⟨L + 1, 64⟩, .rows 34 6 true true [[.nilS, .nilS, .nilS, .int .i64 0, .int .i64 0, .nilS]]),
     (⟨L + 1, 160⟩, .rows 106 6 true false [[.sl ⟨L + 1, 161⟩ 0 out.length, .sl ⟨L + 1, 162⟩ 0 inn.length, .sl ⟨L + 1, 163⟩ 0 0, .int .i64 num, .int .i64 seen, .sl ⟨L + 1, 164⟩ 0 l.length]]),
     (⟨L + 1, 161⟩, .rows 3 1 true true ((zeroAt out l i).map eI)), (⟨L + 1, 162⟩, .rows 3 1 true true (inn.map eI)), (⟨L + 1, 163⟩, .rows 43 8 true true [])], 10000 * (i + 1)⟩) (pre := fun i => i ≤ l.length) (μ := fun i => l.length - i) 0 (by omega) ?_ ?_
  · refine Sub.of (hfz hF2) (by simp only [go_sem, subT, and_self, Int.natCast_zero]) ?_ (by simp only [go_sem, subK, and_self, true_or, or_true, List.not_mem_nil, List.mem_cons]) (by simp)
    simp [subH, Tx.look, zeroAt]
  · intro i hi
    have lz : ((zeroAt out l i).map eI).length = out.length := by rw [List.length_map, zeroAt_len]
    by_cases hlt : i < l.length
    · have f6 : decide ((i : Int) < (l.length : Int)) = true := dT (by omega)
      obtain ⟨b1, b2⟩ := listedB_at hS.a i hlt
      have ha2 := hS.a2
      have r0 := getD_eI l hlt
      have r1 := getD_eI (zeroAt out l i) (i := (l.getD i 0).toNat) (by rw [zeroAt_len]; omega)
      simp only [f6, lz, r0, r1, eI, set_eI, List.length_map, ← zeroAt_succ _ _ _ hlt, Nat.add_zero, go_sem]
      repeat refine sd1 ?_
      refine ⟨i + 1, by omega, by omega, ?_⟩
      refine Sub.of (hfz hF2) (by simp only [go_sem, subT, and_self, Int.natCast_succ]) ?_ (by simp only [go_sem, subK, and_self, true_or, or_true, List.not_mem_nil, List.mem_cons]) (by simp only []; omega)
      simp [subH, Tx.look]
    · have f6 : decide ((i : Int) < (l.length : Int)) = false := dF (by omega)
      have e : i = l.length := by omega
      subst e
      obtain ⟨en, bn⟩ := serB_nat (b := 32) (x := num) (by simpa using hS.n)
      have bn' : num.toNat < 4294967296 := bn
      have h32x : (2 : Int) ^ 32 = 4294967296 := rfl
      have h32 : (2 : Int) ^ (32 : Int).toNat = 4294967296 := rfl
      have h32' : (2 : Int) ^ (Int.toNat 32) = 4294967296 := rfl
      simp only [f6, go_sem]
      refine CallVC.same (behind_ok num 32 (by omega) (by omega) (by omega) (by omega)) ?_
      simp only [h32x, Nat.add_zero, go_sem]
      exact PostF.rs (v0 := .tup [.agg [.sl ⟨L + 1, 161⟩ 0 out.length, .sl ⟨L + 1, 162⟩ 0 inn.length, .sl ⟨L + 1, 163⟩ 0 0, .int .i64 ((num + 1) % 4294967296), .int .i64 seen, .nilS], .int .i64 0] ) (.inr rfl) (hw := by simp [Wk, WkL, Tx.look, List.take_of_length_le, zeroAt_len])
theorem serB32 {x : Int} (h : [x].all (serB 32) = true) : 0 ≤ x ∧ x < 4294967296 := by
 simp [serB] at h; exact h
end Go.Proofs.Ytfhhbkehlfipgaa
end
section
namespace Go.Proofs.Ytfhhbkehlfipgaa
open Go.Tx
set_option maxRecDepth 100000
set_option maxHeartbeats 2000000
end Go.Proofs.Ytfhhbkehlfipgaa
end
section
namespace Go.Proofs.Ytfhhbkehlfipgaa
open Go.Tx
set_option maxRecDepth 100000
set_option maxHeartbeats 4000000
end Go.Proofs.Ytfhhbkehlfipgaa
end
section
namespace Go.Proofs.Ytfhhbkehlfipgaa
open Go.Tx
set_option maxRecDepth 100000
set_option maxHeartbeats 16000000
def strZ : PV := .agg [.nilS, .nilS, .nilS, .int .i64 0, .int .i64 0, .nilS]
theorem send8_ok {F : SF} {L nx : Nat} (out inn asked : List Int) (num seen : Int) (hS : Str0 out inn num seen asked) (ps : List Dat) (hP : PsOk inn ps) (hD : dueG inn ps = none) (st pr : Int) (lo : Bool) (s : List UInt8)
  (h1 : 0 ≤ st) (h2 : st < out.length) (hpr : [pr].all (serB 32) = true) (hs1 : 1 ≤ s.length) (hs2 : s.length ≤ 8000) (hA : (asked.any fun x => st == x) = true) :
  Con Try.prog 12 [strV out inn num seen asked ps, .agg [.int .i64 st, .int .i64 pr, .bool lo, .str s]] F L nx nx (.tup [strZ, .nilS, .int .i64 8]) [] [] := by
 have f0 : ((0 : Int) != 0) = false := rfl
 have f1 : decide (st < 0) = false := dF (by omega)
 have f2 : decide ((out.length : Int) ≤ st) = false := dF (by omega)
 have f3 : decide ((s.length : Int) < 1) = false := dF (by omega)
 have f4 : decide ((8000 : Int) < (s.length : Int)) = false := dF (by omega)
 have ha2 := hS.a2
 refine bdy Try.f12 ?_
 intro F3 hF1 hF2
 simp only [Try.f12, cx, strV, strZ, go_sem, meths]
 refine CallVC.same (begin_ok out inn asked num seen hS ps hP hD) ?_
 simp only [stU, f0, f1, f2, List.length_map, Nat.add_zero, go_sem]
 refine CallVC.pure (args2 := [_, .fs 1 ([pr].map eI)]) ⟨rfl, ?_, trivial⟩ (serial_ok 32 [pr] (by omega) (by omega) (by simp)) rfl ?_
 ·simp [Wk, eI]
 simp only [hpr, wkNL, wkN, f3, f4, Nat.add_zero, go_sem]
 refine CallVC.same (contains_ok asked st (by omega)) ?_
 simp only [hA, go_sem]
 exact PostF.rs (v0 := .tup [.agg [.nilS, .nilS, .nilS, .int .i64 0, .int .i64 0, .nilS], .nilS, .int .i64 8]) (.inr rfl)
theorem begin_bad {F : SF} {L nx : Nat} (out inn asked : List Int) (num seen : Int) (ps : List Dat) (ho : out.length ≤ 1000000) (hi : inn.length ≤ 1000000) (ha2 : asked.length ≤ 1000000) (hpl : ps.length ≤ 1000000) (hc : chkB out inn num seen asked ps = false) :
  Con Try.prog 41 [strV out inn num seen asked ps] F L nx nx (.tup [.nilP, .int .i64 350]) [] [] := by
 have hch := fun F L nx => check_all (F := F) (L := L) (nx := nx) out inn asked num seen ps ho hi ha2 hpl
 rw [hc] at hch
 simp only [strV, Bool.false_eq_true, if_false] at hch
 refine bdy Try.f41 ?_
 intro F3 hF1 hF2
 have f1 : ((350 : Int) != 0) = true := rfl
 simp only [Try.f41, cx, strV, go_sem, meths]
 refine CallVC.same (hch _ _ _) ?_
 simp only [f1, go_sem]
 exact PostF.rs (v0 := .tup [.nilP, .int .i64 350]) (.inr rfl)
theorem sendG_ok {F : SF} {L nx : Nat} (out inn asked : List Int) (num seen : Int) (hS : Str0 out inn num seen asked) (ps : List Dat) (hP : PsOk inn ps) (hD : dueG inn ps = none)
  (st : Nat) (pr : Int) (lo : Bool) (s : List UInt8) (hst : st < out.length) (hpr : [pr].all (serB 32) = true) (hs1 : 1 ≤ s.length) (hs2 : s.length ≤ 8000) (hA : (asked.any fun x => (st : Int) == x) = false) :
  Con Try.prog 12 [strV out inn num seen asked ps, .agg [.int .i64 st, .int .i64 pr, .bool lo, .str s]] F L nx (nx + 5) (.tup [.agg [.sl ⟨L, nx⟩ 0 out.length, .sl ⟨L, nx + 1⟩ 0 inn.length, .sl ⟨L, nx + 2⟩ 0 ps.length, .int .i64 num, .int .i64 seen, .sl ⟨L, nx + 3⟩ 0 asked.length], .sl ⟨L, nx + 4⟩ 0 ((s.length + 999) / 1000), .int .i64 0])
   [(⟨L, nx⟩, .rows 3 1 true true ((outS out st lo).map eI)), (⟨L, nx + 1⟩, .rows 3 1 true true (inn.map eI)), (⟨L, nx + 2⟩, .rows 43 8 true true (ps.map Dat.row)), (⟨L, nx + 3⟩, .rows 3 1 true true (asked.map eI)), (⟨L, nx + 4⟩, .rows 43 8 true true (piecesS st pr (seqS out st lo) lo s ((s.length + 999) / 1000)))] [] := by
 have ho2 := hS.o2
 have ho3 := hS.o3
 have ha2 := hS.a2
 refine bdyN Try.f12 ?_
 intro F3 hF1 hF2
 simp only [Try.f12, cx, strV, go_sem, meths]
 refine CallVC.same (begin_ok out inn asked num seen hS ps hP hD) ?_
 have f0 : ((0 : Int) != 0) = false := rfl
 have f1 : decide ((st : Int) < 0) = false := dF (by omega)
 have f2 : decide ((st : Int) ≥ (out.length : Int)) = false := dF (by omega)
 have f2' : decide ((out.length : Int) ≤ (st : Int)) = false := dF (by omega)
 have f3 : decide ((s.length : Int) < 1) = false := dF (by omega)
 have f4 : decide ((8000 : Int) < (s.length : Int)) = false := dF (by omega)
 simp only [stU, f0, f1, f2, List.length_map, Nat.add_zero, go_sem]
 refine CallVC.pure (args2 := [_, .fs 1 ([pr].map eI)]) ⟨rfl, ?_, trivial⟩ (serial_ok 32 [pr] (by omega) (by omega) (by simp)) rfl ?_
 ·simp [Wk, eI]
 simp only [hpr, wkNL, wkN, f3, f4, Nat.add_zero, go_sem]
 refine CallVC.same (contains_ok asked st ha2) ?_
 simp only [hA, Nat.add_zero, go_sem]
 cases lo with
 | true =>
  simp only [go_sem]
  refine CallVC.same (pieces_ok s) ?_
  simp only [go_sem]
  obtain ⟨M, hM⟩ : ∃ M, (s.length + 999) / 1000 = M + 1 := ⟨(s.length + 999) / 1000 - 1, by omega⟩
  refine rangeK.intro (v := .tup []) (top := 2055) (rd := [⟨L + 1, 1797⟩, ⟨L + 1, 1957⟩, ⟨L + 1, 2053⟩]) (upd := [(⟨L + 1, 1797⟩, .rows 43 8 true true [dRow st pr 0 true (M == 0) false (pieceS s M)]), (⟨L + 1, 1957⟩, .rows 32 1 true false [[.sl ⟨L + 1, 2054⟩ 0 (M + 1)]]), (⟨L + 1, 2054⟩, .rows 43 8 true true (rowsS st pr 0 true s (M + 1)))]) (f := 83) (fl := []) (cl := [.ptr ⟨L + 1, 2053⟩ 0 0]) (by simp only [evalT, List.getD_cons_zero, List.getD_cons_succ]) rfl ⟨Try.f83, by kernel_rfl, by rfl, by kernel_rfl⟩ [none, none, none, none, none, none, none, none, none, some (.ptr ⟨L + 1, 1797⟩ 0 0), some (.ptr ⟨L + 1, 1957⟩ 0 0), none, none, none, none, none, none, none, none, none, none, none, none, none, none, none, none, none, none, none, none, none, none, none, none, none, none, none, none, none, none, none, none, none, none, none, none, none, none, none, none, none, none, none, none, none, none, none, none, none, none, none, none, none, none, none, none, none, none, none, none, none, none, none, none, none, none, none, none, none, none, none, none, none, none, none, none, none, none, none, none, none, none, none, none, none, none, none, none, none, none, none, none, none, none, none, none, none, none, none, none, none, none, none, none, none, none, none] ?_ ?_ ?_
  ·simp only [go_sem, subT, and_self]
  ·intro y h1 h2 h3 h4
   refine pieces1_ok (L := L + 1) (k := 1) (rd := [⟨L + 1, 1797⟩, ⟨L + 1, 1957⟩, ⟨L + 1, 2053⟩]) s (by omega) ⟨L + 1, 2053⟩ true true ?_ (by simp) (by simp) y (M + 1) hM.symm (uS (L + 2) ⟨L + 1, 1797⟩ ⟨L + 1, 1957⟩ st pr 0 true s) (fun i => if i = 0 then [⟨L + 1, 1797⟩, ⟨L + 1, 1957⟩] else [⟨L + 1, 1797⟩, ⟨L + 1, 1957⟩, blkS (L + 2) (i - 1)]) ?_ ?_ ?_
   ·simp [Tx.look]
   ·intro F4 hF4 i hi
    cases i with
    | zero =>
     refine YCon.body (cxOk' (L + 3) y.l) (by rfl) (by rfl) (k := 1) (by rfl) (by simp) (by rw [h1]; rfl) (by rw [h1, h4]; simp) ?_
     intro F5 hF5 hF6
     have q1 : F5 ⟨L + 1, 1797⟩ = some (.rows 43 8 true true [dRow st pr 0 true false false []]) := by
      rw [hF5 _ (by simp)]; show F4 _ = _; rw [hF4 _ (by simp)]; simp [Tx.look, dRow]
     have q2 : F5 ⟨L + 1, 1957⟩ = some (.rows 32 1 true true [[.nilS]]) := by
      rw [hF5 _ (by simp)]; show F4 _ = _; rw [hF4 _ (by simp)]; simp [Tx.look]
     have n1 : ∀ i, ((⟨L + 2 + 1, i⟩ : Nm) = ⟨L + 1, 1797⟩) = False := fun i => by simp
     have n2 : ∀ i, ((⟨L + 2 + 1, i⟩ : Nm) = ⟨L + 1, 1957⟩) = False := fun i => by simp
     have n3 : ∀ i, ((⟨L + 1, 1797⟩ : Nm) = ⟨L + 2 + 1, i⟩) = False := fun i => by simp
     have n4 : ∀ i, ((⟨L + 1, 1957⟩ : Nm) = ⟨L + 2 + 1, i⟩) = False := fun i => by simp
     rw [h1, h2, h3, h4]
     simp only [setPs, List.zip_cons_cons, List.zip_nil_right, q1, q2, n1, n4, cxr, dRow, go_sem, meths]
     refine ⟨rfl, _, Sub.refl _ _ _, [384], rfl, by simp, ?_, ?_⟩
     ·simp only [uS, if_true, List.nil_append]
      refine ⟨Nat.le_succ _, ?_, Nat.le_succ _, ?_, Nat.le_refl _, ?_, trivial⟩
      ·rw [show kp (L + 1 + 1) 1544 [384] ⟨L + 1, 1797⟩ = ⟨L + 1, 1797⟩ by simp [kp]]
       exact .pure (by simp [Tx.look, dRow])
      ·rw [show kp (L + 1 + 1) 1544 [384] ⟨L + 1, 1957⟩ = ⟨L + 1, 1957⟩ by simp [kp]]
       refine .ren (rs := [[.sl ⟨L + 3, 384⟩ 0 1]]) (by simp [Tx.look]) ?_ ?_
       ·simp [rowsNm, nmA, nmAL, Dn]
       ·simp [Tx.rn, Tx.rnL, sg, blkS]
      ·rw [show blkS (L + 2) 0 = ⟨L + 1 + 1, 1544⟩ from rfl, kp_at0 (by simp)]
       exact .pure (by simp [Tx.look, rowsS, dRow, List.range_succ])
     ·exact ⟨.inr (by simp [uS, keys]), .inl rfl, .inl rfl, .inr (by simp [uS, keys]), trivial⟩
    | succ i =>
     obtain ⟨p1, p2, p3⟩ := uS_at (F := F4) (L := L + 2) (nd := ⟨L + 1, 1797⟩) (no := ⟨L + 1, 1957⟩) (st := st) (pr := pr) (sq := 0) (lo := true) (s := s) (by simp) (by simp) (by simp) i
     refine YCon.body (cxOk' (L + 3) y.l) (by rfl) (by rfl) (k := 1) (by rfl) (by simp [blkS]) (by rw [h1]; rfl) (by rw [h1, h4]; simp) ?_
     intro F5 hF5 hF6
     have q1 := (hF5 ⟨L + 1, 1797⟩ (by simp)).trans p1
     have q2 := (hF5 ⟨L + 1, 1957⟩ (by simp)).trans p2
     have q3 := (hF5 (blkS (L + 2) i) (by simp)).trans p3
     have n1 : ∀ i, ((⟨L + 2 + 1, i⟩ : Nm) = ⟨L + 1, 1797⟩) = False := fun i => by simp
     have n2 : ∀ i, ((⟨L + 2 + 1, i⟩ : Nm) = ⟨L + 1, 1957⟩) = False := fun i => by simp
     have n3 : ∀ i, ((⟨L + 1, 1797⟩ : Nm) = ⟨L + 2 + 1, i⟩) = False := fun i => by simp
     have n4 : ∀ i, ((⟨L + 1, 1957⟩ : Nm) = ⟨L + 2 + 1, i⟩) = False := fun i => by simp
     have n5 : ∀ k, ((⟨L + 2 + 1, k⟩ : Nm) = blkS (L + 2) i) = False := fun k => by simp [blkS]
     have n6 : ∀ k, (blkS (L + 2) i = (⟨L + 2 + 1, k⟩ : Nm)) = False := fun k => by simp [blkS]
     have n7 : ∀ k, (blkS (L + 2) i = (⟨L + 1, k⟩ : Nm)) = False := fun k => by simp [blkS]
     have n8 : ∀ k, ((⟨L + 1, k⟩ : Nm) = blkS (L + 2) i) = False := fun k => by simp [blkS]
     have m1 : ∀ k, (blkS (L + 2) i == (⟨L + 2 + 1, k⟩ : Nm)) = false := fun k => by simp [blkS]
     have m2 : ∀ k, ((⟨L + 2 + 1, k⟩ : Nm) == blkS (L + 2) i) = false := fun k => by simp [blkS]
     have r1 : (rowsS st pr 0 true s (i + 1)).length = i + 1 := by simp [rowsS]
     rw [h1, h2, h3, h4]
     simp only [setPs, List.zip_cons_cons, List.zip_nil_right, q1, q2, q3, n1, n4, n5, n6, n7, n8, m1, r1, cxr, dRow, go_sem, meths]
     have z1 : (((i + 1 : Nat) : Int) == 0) = (i + 1 == 0) := by simp; omega
     refine ⟨⟨by omega, by omega⟩, rfl, _, Sub.refl _ _ _, [384], rfl, by simp, ?_, ?_⟩
     ·simp only [uS, Nat.add_sub_cancel, Nat.succ_ne_zero, if_false, List.cons_append, List.nil_append]
      refine ⟨Nat.le_refl _, BN_dead, Nat.le_succ _, ?_, Nat.le_succ _, ?_, Nat.le_refl _, ?_, trivial⟩
      ·rw [show kp (L + 1 + 1) (1000 * (i + 1 + 1) + 544) [384] ⟨L + 1, 1797⟩ = ⟨L + 1, 1797⟩ by simp [kp]]
       exact .pure (by simp only [Tx.look, if_true, dRow, z1])
      ·rw [show kp (L + 1 + 1) (1000 * (i + 1 + 1) + 544) [384] ⟨L + 1, 1957⟩ = ⟨L + 1, 1957⟩ by simp [kp]]
       refine .ren (rs := [[.sl ⟨L + 3, 384⟩ 0 (i + 1 + 1)]]) (by simp [Tx.look, n8]) ?_ ?_
       ·simp [rowsNm, nmA, nmAL, Dn]
       ·simp [Tx.rn, Tx.rnL, sg, blkS]
      ·rw [show blkS (L + 2) (i + 1) = ⟨L + 1 + 1, 1000 * (i + 1 + 1) + 544⟩ from rfl, kp_at0 (by simp)]
       refine .pure ?_
       rw [show rowsS st pr 0 true s (i + 1 + 1) = rowsS st pr 0 true s (i + 1) ++ [dRow st pr 0 true (i + 1 == 0) false (pieceS s (i + 1))] by simp [rowsS, List.range_succ]]
       simp [Tx.look, n5, dRow]; omega
     ·exact ⟨.inr (by simp [uS, keys]), .inl rfl, .inr (by simp [uS, keys]), .inl rfl, .inr (by simp [uS, keys]), trivial⟩
   ·intro i hi
    by_cases h0 : i = 0 <;> simp [uS, keys, h0, blkS]
   ·intro F4 hF4 hF5
    obtain ⟨p1, p2, p3⟩ := uS_at (F := F4) (L := L + 2) (nd := ⟨L + 1, 1797⟩) (no := ⟨L + 1, 1957⟩) (st := st) (pr := pr) (sq := 0) (lo := true) (s := s) (by simp) (by simp) (by simp) M
    refine ⟨[1000 * (M + 1) + 544], rfl, by simp, ⟨Nat.le_refl _, ?_, Nat.le_refl _, ?_, Nat.le_refl _, ?_, trivial⟩, updAll_HF (fun i x hx => ?_) _⟩
    ·rw [show kp (L + 1) 2054 [1000 * (M + 1) + 544] ⟨L + 1, 1797⟩ = ⟨L + 1, 1797⟩ by simp [kp]]
     exact .pure p1
    ·rw [show kp (L + 1) 2054 [1000 * (M + 1) + 544] ⟨L + 1, 1957⟩ = ⟨L + 1, 1957⟩ by simp [kp]]
     refine .ren p2 ?_ ?_
     ·simp [rowsNm, nmA, nmAL, Dn, blkS]
     ·simp [Tx.rn, Tx.rnL, sg, blkS]
    ·rw [kp_at0 (by simp)]
     exact .pure p3
    ·by_cases h0 : i = 0
     ·simp [uS, h0] at hx
      rcases hx with rfl | rfl | rfl <;> simp [keys, blkS]
     ·simp [uS, h0] at hx
      rcases hx with rfl | rfl | rfl | rfl <;> simp [keys, blkS]
  ·have r1 : (rowsS st pr 0 true s (M + 1)).length = M + 1 := by simp [rowsS]
   have r2 : (((M + 1 : Nat) : Int) - 1).toNat = M := by omega
   simp only [r1, r2, dRow, Nat.add_zero, go_sem]
   refine ⟨⟨by omega, by omega⟩, ⟨by omega, by omega⟩, by omega, by kernel_rfl, okDyn_num (·.i) (by kernel_rfl), ?_⟩
   have eP := piecesS_eq st pr 0 true s M
   rw [eP, hM]
   refine .now (.val [193, 194, 195, 196, 2054] (.inr rfl) (by simp) (p := True) (v0 := .tup [.agg [.sl ⟨L + 1, 193⟩ 0 out.length, .sl ⟨L + 1, 194⟩ 0 inn.length, .sl ⟨L + 1, 195⟩ 0 ps.length, .int .i64 num, .int .i64 seen, .sl ⟨L + 1, 196⟩ 0 asked.length], .sl ⟨L + 1, 2054⟩ 0 (M + 1), .int .i64 0]) ?_ trivial ?_ ?_ ⟨Nat.le_refl _, ?_, Nat.le_refl _, ?_, Nat.le_refl _, ?_, Nat.le_refl _, ?_, Nat.le_refl _, ?_, trivial⟩ ?_)
   ·simp only [resVal, resVals, resVal1, one, go_sem]
   ·simp [nmA, nmAL, Dn]
   ·simp [Tx.rn, Tx.rnL, sg, List.idxOf, List.findIdx, List.findIdx.go]
   ·rw [kp_at0 (by simp)]
    exact .pure (by simp [Tx.look, outS])
   ·rw [kp_at (by simp)]
    exact .pure (by simp [Tx.look])
   ·rw [kp_at (by simp)]
    exact .pure (by simp [Tx.look])
   ·rw [kp_at (by simp)]
    exact .pure (by simp [Tx.look])
   ·rw [kp_at (by simp)]
    exact .pure (by simp [Tx.look, seqS])
   ·exact ⟨.inl rfl, .inl rfl, .inl rfl, .inl rfl, .inl rfl, .inl rfl, .inl rfl, .inl rfl, .inl rfl, .inl rfl, .inl rfl, .inl rfl, .inl rfl, trivial⟩
 | false =>
  have hz := List.all_eq_true.1 ho3 (out.getD st 0) (by rw [List.getD_eq_getElem?_getD, List.getElem?_eq_getElem hst]; simp)
  simp only [serB, Bool.and_eq_true, decide_eq_true_eq] at hz
  have e0 := getD_eI out hst
  simp only [e0, eI, go_sem]
  refine ⟨by kernel_rfl, ⟨by omega, by omega⟩, by simpa using hst, okDyn_num (·.i) (by kernel_rfl), by kernel_rfl, ?_⟩
  have h65 : (2 : Int) ^ (Int.toNat 16) = 65536 := rfl
  refine CallVC.same (behind_ok (out.getD st 0) 16 hz.1 (by have := hz.2; omega) (by omega) (by omega)) ?_
  simp only [e0, eI, Int.toNat_natCast, go_sem]
  refine ⟨⟨by omega, by omega⟩, by simpa using hst, okDyn_num (·.i) (by kernel_rfl), ?_⟩
  refine CallVC.same (pieces_ok s) ?_
  simp only [go_sem]
  obtain ⟨M, hM⟩ : ∃ M, (s.length + 999) / 1000 = M + 1 := ⟨(s.length + 999) / 1000 - 1, by omega⟩
  refine rangeK.intro (v := .tup []) (top := 2759) (rd := [⟨L + 1, 1797⟩, ⟨L + 1, 2661⟩, ⟨L + 1, 2757⟩]) (upd := [(⟨L + 1, 1797⟩, .rows 43 8 true true [dRow st pr (out.getD st 0) false (M == 0) false (pieceS s M)]), (⟨L + 1, 2661⟩, .rows 32 1 true false [[.sl ⟨L + 1, 2758⟩ 0 (M + 1)]]), (⟨L + 1, 2758⟩, .rows 43 8 true true (rowsS st pr (out.getD st 0) false s (M + 1)))]) (f := 83) (fl := []) (cl := [.ptr ⟨L + 1, 2757⟩ 0 0]) (by simp only [evalT, List.getD_cons_zero, List.getD_cons_succ]) rfl ⟨Try.f83, by kernel_rfl, by rfl, by kernel_rfl⟩ [none, none, none, none, none, none, none, none, none, some (.ptr ⟨L + 1, 1797⟩ 0 0), some (.ptr ⟨L + 1, 2661⟩ 0 0), none, none, none, none, none, none, none, none, none, none, none, none, none, none, none, none, none, none, none, none, none, none, none, none, none, none, none, none, none, none, none, none, none, none, none, none, none, none, none, none, none, none, none, none, none, none, none, none, none, none, none, none, none, none, none, none, none, none, none, none, none, none, none, none, none, none, none, none, none, none, none, none, none, none, none, none, none, none, none, none, none, none, none, none, none, none, none, none, none, none, none, none, none, none, none, none, none, none, none, none, none, none, none, none, none, none, none] ?_ ?_ ?_
  ·simp only [go_sem, subT, and_self]
  ·intro y h1 h2 h3 h4
   refine pieces1_ok (L := L + 1) (k := 1) (rd := [⟨L + 1, 1797⟩, ⟨L + 1, 2661⟩, ⟨L + 1, 2757⟩]) s (by omega) ⟨L + 1, 2757⟩ true true ?_ (by simp) (by simp) y (M + 1) hM.symm (uS (L + 2) ⟨L + 1, 1797⟩ ⟨L + 1, 2661⟩ st pr (out.getD st 0) false s) (fun i => if i = 0 then [⟨L + 1, 1797⟩, ⟨L + 1, 2661⟩] else [⟨L + 1, 1797⟩, ⟨L + 1, 2661⟩, blkS (L + 2) (i - 1)]) ?_ ?_ ?_
   ·simp [Tx.look]
   ·intro F4 hF4 i hi
    cases i with
    | zero =>
     refine YCon.body (cxOk' (L + 3) y.l) (by rfl) (by rfl) (k := 1) (by rfl) (by simp) (by rw [h1]; rfl) (by rw [h1, h4]; simp) ?_
     intro F5 hF5 hF6
     have q1 : F5 ⟨L + 1, 1797⟩ = some (.rows 43 8 true true [dRow st pr (out.getD st 0) false false false []]) := by
      rw [hF5 _ (by simp)]; show F4 _ = _; rw [hF4 _ (by simp)]; simp [Tx.look, dRow]
     have q2 : F5 ⟨L + 1, 2661⟩ = some (.rows 32 1 true true [[.nilS]]) := by
      rw [hF5 _ (by simp)]; show F4 _ = _; rw [hF4 _ (by simp)]; simp [Tx.look]
     have n1 : ∀ i, ((⟨L + 2 + 1, i⟩ : Nm) = ⟨L + 1, 1797⟩) = False := fun i => by simp
     have n2 : ∀ i, ((⟨L + 2 + 1, i⟩ : Nm) = ⟨L + 1, 2661⟩) = False := fun i => by simp
     have n3 : ∀ i, ((⟨L + 1, 1797⟩ : Nm) = ⟨L + 2 + 1, i⟩) = False := fun i => by simp
     have n4 : ∀ i, ((⟨L + 1, 2661⟩ : Nm) = ⟨L + 2 + 1, i⟩) = False := fun i => by simp
     rw [h1, h2, h3, h4]
     simp only [setPs, List.zip_cons_cons, List.zip_nil_right, q1, q2, n1, n4, cxr, dRow, go_sem, meths]
     refine ⟨rfl, _, Sub.refl _ _ _, [384], rfl, by simp, ?_, ?_⟩
     ·simp only [uS, if_true, List.nil_append]
      refine ⟨Nat.le_succ _, ?_, Nat.le_succ _, ?_, Nat.le_refl _, ?_, trivial⟩
      ·rw [show kp (L + 1 + 1) 1544 [384] ⟨L + 1, 1797⟩ = ⟨L + 1, 1797⟩ by simp [kp]]
       exact .pure (by simp [Tx.look, dRow])
      ·rw [show kp (L + 1 + 1) 1544 [384] ⟨L + 1, 2661⟩ = ⟨L + 1, 2661⟩ by simp [kp]]
       refine .ren (rs := [[.sl ⟨L + 3, 384⟩ 0 1]]) (by simp [Tx.look]) ?_ ?_
       ·simp [rowsNm, nmA, nmAL, Dn]
       ·simp [Tx.rn, Tx.rnL, sg, blkS]
      ·rw [show blkS (L + 2) 0 = ⟨L + 1 + 1, 1544⟩ from rfl, kp_at0 (by simp)]
       exact .pure (by simp [Tx.look, rowsS, dRow, List.range_succ])
     ·exact ⟨.inr (by simp [uS, keys]), .inl rfl, .inl rfl, .inr (by simp [uS, keys]), trivial⟩
    | succ i =>
     obtain ⟨p1, p2, p3⟩ := uS_at (F := F4) (L := L + 2) (nd := ⟨L + 1, 1797⟩) (no := ⟨L + 1, 2661⟩) (st := st) (pr := pr) (sq := out.getD st 0) (lo := false) (s := s) (by simp) (by simp) (by simp) i
     refine YCon.body (cxOk' (L + 3) y.l) (by rfl) (by rfl) (k := 1) (by rfl) (by simp [blkS]) (by rw [h1]; rfl) (by rw [h1, h4]; simp) ?_
     intro F5 hF5 hF6
     have q1 := (hF5 ⟨L + 1, 1797⟩ (by simp)).trans p1
     have q2 := (hF5 ⟨L + 1, 2661⟩ (by simp)).trans p2
     have q3 := (hF5 (blkS (L + 2) i) (by simp)).trans p3
     have n1 : ∀ i, ((⟨L + 2 + 1, i⟩ : Nm) = ⟨L + 1, 1797⟩) = False := fun i => by simp
     have n2 : ∀ i, ((⟨L + 2 + 1, i⟩ : Nm) = ⟨L + 1, 2661⟩) = False := fun i => by simp
     have n3 : ∀ i, ((⟨L + 1, 1797⟩ : Nm) = ⟨L + 2 + 1, i⟩) = False := fun i => by simp
     have n4 : ∀ i, ((⟨L + 1, 2661⟩ : Nm) = ⟨L + 2 + 1, i⟩) = False := fun i => by simp
     have n5 : ∀ k, ((⟨L + 2 + 1, k⟩ : Nm) = blkS (L + 2) i) = False := fun k => by simp [blkS]
     have n6 : ∀ k, (blkS (L + 2) i = (⟨L + 2 + 1, k⟩ : Nm)) = False := fun k => by simp [blkS]
     have n7 : ∀ k, (blkS (L + 2) i = (⟨L + 1, k⟩ : Nm)) = False := fun k => by simp [blkS]
     have n8 : ∀ k, ((⟨L + 1, k⟩ : Nm) = blkS (L + 2) i) = False := fun k => by simp [blkS]
     have m1 : ∀ k, (blkS (L + 2) i == (⟨L + 2 + 1, k⟩ : Nm)) = false := fun k => by simp [blkS]
     have m2 : ∀ k, ((⟨L + 2 + 1, k⟩ : Nm) == blkS (L + 2) i) = false := fun k => by simp [blkS]
     have r1 : (rowsS st pr (out.getD st 0) false s (i + 1)).length = i + 1 := by simp [rowsS]
     rw [h1, h2, h3, h4]
     simp only [setPs, List.zip_cons_cons, List.zip_nil_right, q1, q2, q3, n1, n4, n5, n6, n7, n8, m1, r1, cxr, dRow, go_sem, meths]
     have z1 : (((i + 1 : Nat) : Int) == 0) = (i + 1 == 0) := by simp; omega
     refine ⟨⟨by omega, by omega⟩, rfl, _, Sub.refl _ _ _, [384], rfl, by simp, ?_, ?_⟩
     ·simp only [uS, Nat.add_sub_cancel, Nat.succ_ne_zero, if_false, List.cons_append, List.nil_append]
      refine ⟨Nat.le_refl _, BN_dead, Nat.le_succ _, ?_, Nat.le_succ _, ?_, Nat.le_refl _, ?_, trivial⟩
      ·rw [show kp (L + 1 + 1) (1000 * (i + 1 + 1) + 544) [384] ⟨L + 1, 1797⟩ = ⟨L + 1, 1797⟩ by simp [kp]]
       exact .pure (by simp only [Tx.look, if_true, dRow, z1])
      ·rw [show kp (L + 1 + 1) (1000 * (i + 1 + 1) + 544) [384] ⟨L + 1, 2661⟩ = ⟨L + 1, 2661⟩ by simp [kp]]
       refine .ren (rs := [[.sl ⟨L + 3, 384⟩ 0 (i + 1 + 1)]]) (by simp [Tx.look, n8]) ?_ ?_
       ·simp [rowsNm, nmA, nmAL, Dn]
       ·simp [Tx.rn, Tx.rnL, sg, blkS]
      ·rw [show blkS (L + 2) (i + 1) = ⟨L + 1 + 1, 1000 * (i + 1 + 1) + 544⟩ from rfl, kp_at0 (by simp)]
       refine .pure ?_
       rw [show rowsS st pr (out.getD st 0) false s (i + 1 + 1) = rowsS st pr (out.getD st 0) false s (i + 1) ++ [dRow st pr (out.getD st 0) false (i + 1 == 0) false (pieceS s (i + 1))] by simp [rowsS, List.range_succ]]
       simp [Tx.look, n5, dRow]; omega
     ·exact ⟨.inr (by simp [uS, keys]), .inl rfl, .inr (by simp [uS, keys]), .inl rfl, .inr (by simp [uS, keys]), trivial⟩
   ·intro i hi
    by_cases h0 : i = 0 <;> simp [uS, keys, h0, blkS]
   ·intro F4 hF4 hF5
    obtain ⟨p1, p2, p3⟩ := uS_at (F := F4) (L := L + 2) (nd := ⟨L + 1, 1797⟩) (no := ⟨L + 1, 2661⟩) (st := st) (pr := pr) (sq := out.getD st 0) (lo := false) (s := s) (by simp) (by simp) (by simp) M
    refine ⟨[1000 * (M + 1) + 544], rfl, by simp, ⟨Nat.le_refl _, ?_, Nat.le_refl _, ?_, Nat.le_refl _, ?_, trivial⟩, updAll_HF (fun i x hx => ?_) _⟩
    ·rw [show kp (L + 1) 2758 [1000 * (M + 1) + 544] ⟨L + 1, 1797⟩ = ⟨L + 1, 1797⟩ by simp [kp]]
     exact .pure p1
    ·rw [show kp (L + 1) 2758 [1000 * (M + 1) + 544] ⟨L + 1, 2661⟩ = ⟨L + 1, 2661⟩ by simp [kp]]
     refine .ren p2 ?_ ?_
     ·simp [rowsNm, nmA, nmAL, Dn, blkS]
     ·simp [Tx.rn, Tx.rnL, sg, blkS]
    ·rw [kp_at0 (by simp)]
     exact .pure p3
    ·by_cases h0 : i = 0
     ·simp [uS, h0] at hx
      rcases hx with rfl | rfl | rfl <;> simp [keys, blkS]
     ·simp [uS, h0] at hx
      rcases hx with rfl | rfl | rfl | rfl <;> simp [keys, blkS]
  ·have r1 : (rowsS st pr (out.getD st 0) false s (M + 1)).length = M + 1 := by simp [rowsS]
   have r2 : (((M + 1 : Nat) : Int) - 1).toNat = M := by omega
   simp only [r1, r2, dRow, Nat.add_zero, go_sem]
   refine ⟨⟨by omega, by omega⟩, ⟨by omega, by omega⟩, by omega, by kernel_rfl, okDyn_num (·.i) (by kernel_rfl), ?_⟩
   have eP := piecesS_eq st pr (out.getD st 0) false s M
   rw [eP, hM]
   refine .now (.val [193, 194, 195, 196, 2758] (.inr rfl) (by simp) (p := True) (v0 := .tup [.agg [.sl ⟨L + 1, 193⟩ 0 out.length, .sl ⟨L + 1, 194⟩ 0 inn.length, .sl ⟨L + 1, 195⟩ 0 ps.length, .int .i64 num, .int .i64 seen, .sl ⟨L + 1, 196⟩ 0 asked.length], .sl ⟨L + 1, 2758⟩ 0 (M + 1), .int .i64 0]) ?_ trivial ?_ ?_ ⟨Nat.le_refl _, ?_, Nat.le_refl _, ?_, Nat.le_refl _, ?_, Nat.le_refl _, ?_, Nat.le_refl _, ?_, trivial⟩ ?_)
   ·simp only [resVal, resVals, resVal1, one, go_sem]
   ·simp [nmA, nmAL, Dn]
   ·simp [Tx.rn, Tx.rnL, sg, List.idxOf, List.findIdx, List.findIdx.go]
   ·rw [kp_at0 (by simp)]
    exact .pure (by simp [Tx.look, outS, eI])
   ·rw [kp_at (by simp)]
    exact .pure (by simp [Tx.look])
   ·rw [kp_at (by simp)]
    exact .pure (by simp [Tx.look])
   ·rw [kp_at (by simp)]
    exact .pure (by simp [Tx.look])
   ·rw [kp_at (by simp)]
    exact .pure (by simp [Tx.look, seqS])
   ·exact ⟨.inl rfl, .inl rfl, .inl rfl, .inl rfl, .inl rfl, .inl rfl, .inl rfl, .inl rfl, .inl rfl, .inl rfl, .inl rfl, .inl rfl, .inl rfl, trivial⟩
theorem sendGF_ok {F : SF} {L nx : Nat} (out inn asked : List Int) (num seen : Int) (hS : Str0 out inn num seen asked) (ps : List Dat) (hP : PsOk inn ps) (hD : dueG inn ps = none)
  (st : Nat) (pr : Int) (lo : Bool) (s : List UInt8) (hst : st < out.length) (hpr : [pr].all (serB 32) = true) (hs1 : 1 ≤ s.length) (hs2 : s.length ≤ 8000) (hA : (asked.any fun x => (st : Int) == x) = false) :
  Con Try.prog 12 [strV out inn num seen asked ps, .agg [.int .i64 st, .int .i64 pr, .bool lo, .str s]] F L nx nx (.tup [strV (outS out st lo) inn num seen asked ps, .fs 8 ((sendD st pr (seqS out st lo) lo s ((s.length + 999) / 1000)).map Dat.row), .int .i64 0]) [] [] := by
 have h := sendG_ok (F := F) (L := L + 1) (nx := 0) out inn asked num seen hS ps hP hD st pr lo s hst hpr hs1 hs2 hA
 have e1 := outS_len out st lo
 have e2 : (piecesS st pr (seqS out st lo) lo s ((s.length + 999) / 1000)).length = (s.length + 999) / 1000 := by simp [piecesS]
 rw [sendD_row]
 refine Con.frozen h (by simp [keys]) (fun F => ?_) ?_ ?_
 ·simp [strV, Wk, WkL, SF.upd, SF.set, e1, e2, List.take_of_length_le]
 ·simp [strV, wkN, wkNL]
 ·simp [strV, Tx.nf, nfl]
def msgB (n : Nat) (m : Msg) : Bool := decide (0 ≤ m.st) && (decide (m.st < n) && (serB 32 m.pr && (decide (1 ≤ m.tx.length) && decide (m.tx.length ≤ 8000))))
def sendE (out inn : List Int) (num seen : Int) (asked : List Int) (ps : List Dat) (m : Msg) : Int :=
 if chkB out inn num seen asked ps = false then 350 else if msgB out.length m = false then 2 else if (asked.any fun x => m.st == x) = true then 8 else 0
def sendV (out inn : List Int) (num seen : Int) (asked : List Int) (ps : List Dat) (m : Msg) : PV :=
 if sendE out inn num seen asked ps m = 0 then .tup [strV (outS out m.st.toNat m.lo) inn num seen asked ps, .fs 8 ((sendD m.st m.pr (seqS out m.st.toNat m.lo) m.lo m.tx ((m.tx.length + 999) / 1000)).map Dat.row), .int .i64 0]
 else .tup [strZ, .nilS, .int .i64 (sendE out inn num seen asked ps m)]
theorem sendAll_ok {F : SF} {L nx : Nat} (out inn asked : List Int) (num seen : Int) (ps : List Dat) (ho : out.length ≤ 1000000) (hi : inn.length ≤ 1000000) (ha2 : asked.length ≤ 1000000) (hpl : ps.length ≤ 1000000) (m : Msg) :
  Con Try.prog 12 [strV out inn num seen asked ps, .agg m.row] F L nx nx (sendV out inn num seen asked ps m) [] [] := by
 obtain ⟨st, pr, lo, s⟩ := m
 cases hc : chkB out inn num seen asked ps with
 | false =>
  have hv : sendV out inn num seen asked ps ⟨st, pr, lo, s⟩ = .tup [strZ, .nilS, .int .i64 350] := by simp [sendV, sendE, hc]
  rw [hv]
  have hb := fun F L nx => begin_bad (F := F) (L := L) (nx := nx) out inn asked num seen ps ho hi ha2 hpl hc
  simp only [strV] at hb
  refine bdy Try.f12 ?_
  intro F3 hF1 hF2
  have f1 : ((350 : Int) != 0) = true := rfl
  simp only [Try.f12, cx, strV, strZ, Msg.row, go_sem, meths]
  refine CallVC.same (hb _ _ _) ?_
  simp only [f1, go_sem]
  exact PostF.rs (v0 := .tup [.agg [.nilS, .nilS, .nilS, .int .i64 0, .int .i64 0, .nilS], .nilS, .int .i64 350]) (.inr rfl)
 | true =>
  obtain ⟨hS, hP, hD⟩ := chkB_ok hc ha2
  cases hm : msgB out.length ⟨st, pr, lo, s⟩ with
  | true =>
   simp only [msgB, Bool.and_eq_true, decide_eq_true_eq] at hm
   obtain ⟨m1, m2, m3, m4, m5⟩ := hm
   have hpr : [pr].all (serB 32) = true := by simp [m3]
   cases hA : asked.any (fun x => st == x) with
   | true =>
    have hv : sendV out inn num seen asked ps ⟨st, pr, lo, s⟩ = .tup [strZ, .nilS, .int .i64 8] := by simp [sendV, sendE, hc, msgB, m1, m2, m3, m4, m5, hA]
    rw [hv]
    exact send8_ok out inn asked num seen hS ps hP hD st pr lo s m1 m2 hpr m4 m5 hA
   | false =>
    obtain ⟨k, rfl⟩ : ∃ k : Nat, st = k := ⟨st.toNat, by omega⟩
    have hv : sendV out inn num seen asked ps ⟨k, pr, lo, s⟩ = .tup [strV (outS out k lo) inn num seen asked ps, .fs 8 ((sendD k pr (seqS out k lo) lo s ((s.length + 999) / 1000)).map Dat.row), .int .i64 0] := by
     have : sendE out inn num seen asked ps ⟨k, pr, lo, s⟩ = 0 := by simp [sendE, hc, msgB, m1, m2, m3, m4, m5, hA]
     simp [sendV, this]
    rw [hv]
    exact sendGF_ok out inn asked num seen hS ps hP hD k pr lo s (by omega) hpr m4 m5 hA
  | false =>
   have hv : sendV out inn num seen asked ps ⟨st, pr, lo, s⟩ = .tup [strZ, .nilS, .int .i64 2] := by simp [sendV, sendE, hc, hm]
   rw [hv]
   have f0 : ((0 : Int) != 0) = false := rfl
   refine bdy Try.f12 ?_
   intro F3 hF1 hF2
   simp only [Try.f12, cx, strV, strZ, Msg.row, go_sem, meths]
   refine CallVC.same (begin_ok out inn asked num seen hS ps hP hD) ?_
   by_cases y1 : st < 0
   ·have f1 : decide (st < 0) = true := dT y1
    simp only [stU, f0, f1, Nat.add_zero, go_sem]
    exact PostF.rs (v0 := .tup [.agg [.nilS, .nilS, .nilS, .int .i64 0, .int .i64 0, .nilS], .nilS, .int .i64 2]) (.inr rfl)
   have f1 : decide (st < 0) = false := dF y1
   by_cases y2 : (out.length : Int) ≤ st
   ·have f2 : decide ((out.length : Int) ≤ st) = true := dT y2
    simp only [stU, f0, f1, f2, List.length_map, Nat.add_zero, go_sem]
    exact PostF.rs (v0 := .tup [.agg [.nilS, .nilS, .nilS, .int .i64 0, .int .i64 0, .nilS], .nilS, .int .i64 2]) (.inr rfl)
   have f2 : decide ((out.length : Int) ≤ st) = false := dF y2
   simp only [stU, f0, f1, f2, List.length_map, Nat.add_zero, go_sem]
   refine CallVC.pure (args2 := [_, .fs 1 ([pr].map eI)]) ⟨rfl, ?_, trivial⟩ (serial_ok 32 [pr] (by omega) (by omega) (by simp)) rfl ?_
   ·simp [Wk, eI]
   rw [show [pr].all (serB 32) = serB 32 pr by simp]
   cases y3 : serB 32 pr with
   | false =>
    simp only [wkNL, wkN, go_sem]
    exact PostF.rs (v0 := .tup [.agg [.nilS, .nilS, .nilS, .int .i64 0, .int .i64 0, .nilS], .nilS, .int .i64 2]) (.inr rfl)
   | true =>
    by_cases y4 : (s.length : Int) < 1
    ·have f3 : decide ((s.length : Int) < 1) = true := dT y4
     simp only [wkNL, wkN, f3, go_sem]
     exact PostF.rs (v0 := .tup [.agg [.nilS, .nilS, .nilS, .int .i64 0, .int .i64 0, .nilS], .nilS, .int .i64 2]) (.inr rfl)
    have f3 : decide ((s.length : Int) < 1) = false := dF y4
    by_cases y5 : (8000 : Int) < (s.length : Int)
    ·have f4 : decide ((8000 : Int) < (s.length : Int)) = true := dT y5
     simp only [wkNL, wkN, f3, f4, go_sem]
     exact PostF.rs (v0 := .tup [.agg [.nilS, .nilS, .nilS, .int .i64 0, .int .i64 0, .nilS], .nilS, .int .i64 2]) (.inr rfl)
    exfalso
    simp [msgB, y3] at hm
    omega
def hasP (x : Int) (y : Int) : Bool := y == x
end Go.Proofs.Ytfhhbkehlfipgaa
end
