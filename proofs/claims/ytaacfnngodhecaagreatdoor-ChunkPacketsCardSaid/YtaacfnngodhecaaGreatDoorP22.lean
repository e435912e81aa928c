/- Lemmas for the walk: WK69, WR38. -/
import Derived.Test.YtaacfnngodhecaaGreatDoorP21
import Derived.Test.YtaacfnngodhecaaGreatDoorP19
import Derived.Test.YtaacfnngodhecaaGreatDoorP20
set_option linter.all false
section
namespace Go.Proofs.YtaacfnngodhecaaGreatDoor
open Go.Tx
set_option maxRecDepth 100000
set_option maxHeartbeats 16000000
structure PkS (q : Pkx) : Prop where
 l : q.cs.length ≤ 1000
 b : ∀ c ∈ q.cs, c.bd.length ≤ 10000
theorem PkS.right {q : Pkx} (h : PkS q) {F : SF} {L nx : Nat} : Con Tryz.prog 12 [.agg q.row] F L nx nx (.bool q.ok) [] [] :=
 rRight_ok q (by have := h.l; unfold maxLen; omega) (fun c hc => by have := h.b c hc; unfold maxLen; omega)
theorem PkS.check {q : Pkx} (h : PkS q) {F : SF} {L nx : Nat} : Con Tryz.prog 15 [.agg q.row] F L nx nx (.int .i64 (if q.ok then 0 else 320)) [] [] :=
 pkCheck_ok q (by have := h.l; omega) (fun c hc => by have := h.b c hc; omega)
theorem PkS.bad {q : Pkx} (h : PkS q) (hq : q.ok = false) {F : SF} {L nx : Nat} : Con Tryz.prog 14 [.agg q.row] F L nx nx (.tup [.str [], .int .i64 320]) [] [] :=
 encBad_ok q (by have := h.l; omega) (fun c hc => by have := h.b c hc; omega) hq
theorem PkS.go {q : Pkx} (h : PkS q) :
  (∃ o : List UInt8, (∀ (F : SF) (L nx : Nat), Con Tryz.prog 12 [.agg q.row] F L nx nx (.bool true) [] []) ∧ (∀ (F : SF) (L nx : Nat), Con Tryz.prog 13 [.agg q.row] F L nx nx (.str o) [] []) ∧ (∀ (F : SF) (L nx : Nat), Con Tryz.prog 14 [.agg q.row] F L nx nx (.tup [.str o, .int .i64 0]) [] []) ∧ (∀ (F : SF) (L nx : Nat), Con Tryz.prog 15 [.agg q.row] F L nx nx (.int .i64 0) [] []))
  ∨ ((∀ (F : SF) (L nx : Nat), Con Tryz.prog 12 [.agg q.row] F L nx nx (.bool false) [] []) ∧ (∀ (F : SF) (L nx : Nat), Con Tryz.prog 14 [.agg q.row] F L nx nx (.tup [.str [], .int .i64 320]) [] []) ∧ (∀ (F : SF) (L nx : Nat), Con Tryz.prog 15 [.agg q.row] F L nx nx (.int .i64 320) [] [])) := by
 have h1 := fun F L nx => h.right (F := F) (L := L) (nx := nx)
 have h2 := fun F L nx => h.check (F := F) (L := L) (nx := nx)
 cases hq : q.ok with
 | true =>
  simp only [hq, if_true] at h1 h2
  exact .inl ⟨encS q, h1, fun F L nx => rEncode_ok q hq, fun F L nx => encode_ok q hq, h2⟩
 | false =>
  simp only [hq, if_false, Bool.false_eq_true] at h1 h2
  exact .inr ⟨h1, fun F L nx => h.bad hq, h2⟩
theorem decF_ok {t : List UInt8} {f : Nat} {p : Pkx} (hd : ((cksF t f 12).bind fun cs => if (pkG t cs).ok && sumS t == t then some (pkG t cs) else none) = some p) : p.ok = true := by
 cases hc : cksF t f 12 with
 | none => rw [hc, Option.bind_none] at hd; cases hd
 | some cs =>
  rw [hc, Option.bind_some] at hd
  by_cases h3 : ((pkG t cs).ok && sumS t == t) = true
  ·rw [if_pos h3] at hd
   have he := Option.some.inj hd
   rw [← he]
   cases hk : (pkG t cs).ok with
   | true => rfl
   | false => rw [hk, Bool.false_and] at h3; cases h3
  ·rw [if_neg h3] at hd; cases hd
theorem decG_ok {t : List UInt8} {p : Pkx} (hd : decG t = some p) : p.ok = true := decF_ok (f := 2000) hd
theorem dec_go (t : List UInt8) (h : t.length ≤ 2000) :
  (∃ p : Pkx, p.cs.length ≤ 1000000 ∧ (∀ (F : SF) (L nx : Nat), Con Tryz.prog 17 [.str t] F L nx nx (.tup [.agg p.row, .int .i64 0]) [] []) ∧ (∀ (F : SF) (L nx : Nat), Con Tryz.prog 18 [.str t] F L nx nx (.tup [.agg p.row, .int .i64 0]) [] []))
  ∨ (∃ e : Int, (∀ (F : SF) (L nx : Nat), Con Tryz.prog 17 [.str t] F L nx nx (.tup [.agg [.int .i64 0, .int .i64 0, .int .i64 0, .nilS], .int .i64 e]) [] []) ∧ (∀ (F : SF) (L nx : Nat), Con Tryz.prog 18 [.str t] F L nx nx (.tup [.agg [.int .i64 0, .int .i64 0, .int .i64 0, .nilS], .int .i64 e]) [] [])) := by
 by_cases h1 : 1200 < t.length
 ·exact .inr ⟨3, fun F L nx => decodeLong_ok t h1, fun F L nx => rDecodeLong_ok t h1 (by omega)⟩
 by_cases h2 : t.length < 16
 ·exact .inr ⟨7, fun F L nx => decodeShort_ok t h2, fun F L nx => rDecodeShort_ok t h2⟩
 have hr := fun F L nx => rDecode_ok (F := F) (L := L) (nx := nx) t (by omega) (by omega)
 rw [rdG_eq (by omega)] at hr
 cases hd : decG t with
 | some p =>
  rw [hd] at hr
  refine .inl ⟨p, ?_, fun F L nx => decode_ok t p (by omega) (by omega) hd, hr⟩
  have hok := decG_ok hd
  unfold Pkx.ok Pkx.hd at hok
  simp only [Bool.and_eq_true, decide_eq_true_eq] at hok
  omega
 | none =>
  rw [hd] at hr
  exact .inr ⟨5, fun F L nx => decodeNo_ok t (by omega) (by omega) hd, hr⟩
def cutC (c : Ckx) : Ckx := ⟨c.kd, c.fl, c.bd.take 1300⟩
def cutR (cs : List Ckx) (i : Nat) : List (List PV) := (cs.take i).map (fun c => (cutC c).row) ++ List.replicate (cs.length - i) [.int .i64 0, .int .i64 0, .str []]
theorem cutR_len (cs : List Ckx) (i : Nat) (h : i ≤ cs.length) : (cutR cs i).length = cs.length := by simp [cutR]; omega
theorem cutR_get (cs : List Ckx) (i : Nat) (h : i < cs.length) : (cutR cs i).getD i [] = [.int .i64 0, .int .i64 0, .str []] := by
 have hl : ((cs.take i).map (fun c => (cutC c).row)).length = i := by simp; omega
 unfold cutR
 rw [List.getD_eq_getElem?_getD, List.getElem?_append_right (by omega), hl, Nat.sub_self, List.getElem?_replicate, if_pos (by omega)]
 rfl
theorem cutR_all (cs : List Ckx) : cutR cs cs.length = (cs.map cutC).map Ckx.row := by
 simp [cutR]
theorem cutR_set (cs : List Ckx) (i : Nat) (h : i < cs.length) : (cutR cs i).set i (cutC cs[i]).row = cutR cs (i + 1) := by
 unfold cutR
 have hl : ((cs.take i).map (fun c => (cutC c).row)).length = i := by simp; omega
 rw [List.set_append_right _ _ (by omega), hl, Nat.sub_self, show cs.length - i = (cs.length - (i + 1)) + 1 by omega, List.replicate_succ, List.set_cons_zero, List.take_add_one, List.getElem?_eq_getElem h, List.map_append, List.append_assoc]
 rfl
theorem packetsLaw_ok {F : SF} {L nx : Nat} (raw : Pkx) (d : Dfx) (s : List UInt8) (n : Nat) (x : Edx) (hd : d.Ok) (hx : x.Ok) (hn : n < 65536) (hs : s.length ≤ maxLen)
  (hr : raw.cs.length ≤ maxLen) (hrb : ∀ c ∈ raw.cs, c.bd.length ≤ maxLen) :
  Con Tryz.prog 3 [.agg raw.row, .agg d.row, .str s, .int .u16 n, .agg x.row] F L nx nx (.bool true) [] [] := by
 unfold maxLen at hr hrb hs
 have pD := fun F L nx => dPacket_ok (F := F) (L := L) (nx := nx) d hd
 obtain ⟨_, hok⟩ := Dfx.all_back hd
 obtain ⟨p, hp⟩ : ∃ p, p = d.pk d.all := ⟨_, rfl⟩
 rw [← hp] at pD hok
 clear hp
 have drl : d.row.length = 4 := rfl
 have drn : nfl d.row = true := rfl
 have xrl : x.row.length = 3 := rfl
 have xrn : nfl x.row = true := rfl
 obtain ⟨fr, tt, tg, rcs⟩ := raw
 simp only at hr hrb
 obtain ⟨cs, hcs⟩ : ∃ cs, cs = rcs.take 42 := ⟨_, rfl⟩
 have hcl : cs.length ≤ 42 := by rw [hcs, List.length_take]; omega
 have hcb : ∀ c ∈ cs, c.bd.length ≤ 2 ^ 63 - 1 := fun c hc => hrb c (by rw [hcs] at hc; exact List.mem_of_mem_take hc)
 have tk1 : List.take cs.length (rcs.map Ckx.row) = cs.map Ckx.row := by
  rw [← List.map_take]; congr 1; rw [hcs, List.take_eq_take_iff, List.length_take]; omega
 have tk2 : (min (rcs.length : Int) 42).toNat - 0 = cs.length := by rw [hcs, List.length_take]; omega
 have tk3 : (cs.map Ckx.row).length = cs.length := by simp
 refine bdy Tryz.f3 ?_
 intro F3 hF1 hF2
 simp only [Tryz.f3, cx, Pkx.row, drl, drn, xrl, xrn, go_sem, meths]
 refine CallVC.same works32_ok ?_
 simp only [tk1, tk2, tk3, List.length_map, go_sem]
 repeat refine sd2 ?_
 refine loopK.intro _ _ (I := fun i : Nat => ⟨[none, none, some (.str s), some (.int .u16 n), none, some (.ptr ⟨L + 1, 0⟩ 0 0), some (.ptr ⟨L + 1, 32⟩ 0 0), none, none, some (.ptr ⟨L + 1, 64⟩ 0 0), none, some (.sl ⟨L + 1, 544⟩ 0 cs.length), none, none, none, none, none, none, none, none, none, none, none, none, none, none, none, none, none, none, none, none, none, none, none, none, none, none, none, none, none, none, none, none, none, none, none, some (.fs 3 (cs.map Ckx.row)), some (.int .i64 cs.length), some (.int .i64 i)] ++ oz 129, [(⟨L + 1, 0⟩, .rows 24 4 true true [[.int .i64 fr, .int .i64 tt, .int .i64 tg, .fs 3 (cs.map Ckx.row)]]), (⟨L + 1, 32⟩, .rows 29 4 true true [d.row]), (⟨L + 1, 64⟩, .rows 31 3 true true [x.row]), (⟨L + 1, 544⟩, .rows 34 3 true true (cutR cs i))], 10000 * (i + 1)⟩)
  (pre := fun i => i ≤ cs.length) (μ := fun i => cs.length - i) 0 (by omega) ?_ ?_
 ·refine Sub.of (hfz hF2) (by simp only [go_sem, subT, and_self, Int.natCast_zero]) ?_ (by simp [subK, keys]) (by simp)
  have hz : cutR cs 0 = List.replicate cs.length [.int .i64 0, .int .i64 0, .str []] := by simp [cutR]
  simp [subH, Tx.look, hz]
 intro i hi
 have hrl := cutR_len cs i hi
 by_cases hlt : i < cs.length
 ·have g1 : decide ((i : Int) < (cs.length : Int)) = true := dT (by omega)
  have r0 := rowCk hlt
  have hst := cutR_set cs i hlt
  have hbd := hcb _ (List.getElem_mem hlt)
  obtain ⟨c, hc⟩ : ∃ c, c = cs[i] := ⟨_, rfl⟩
  rw [← hc] at r0 hst hbd
  have t1 := takeM c.bd 1300 1300 rfl
  obtain ⟨rs, hrs⟩ : ∃ rs, rs = cutR cs i := ⟨_, rfl⟩
  rw [← hrs] at hrl hst ⊢
  simp only [cutC, Ckx.row] at hst
  simp only [g1, r0, hrl, Ckx.row, t1, List.length_map, kS2, kS2', Nat.add_assoc, Nat.add_zero, go_sem]
  repeat refine sd2 ?_
  refine ⟨okDyn_num (fun x => x.i % 10000) (by simp only [numF, List.map, Nat.mul_add_mod, Nat.reduceMod]; kernel_rfl), ?_⟩
  repeat refine sd2 ?_
  refine ⟨i + 1, by omega, by omega, ?_⟩
  have hgz : List.drop 3 (rs.getD i []) = [] := by rw [hrs, cutR_get cs i hlt]; rfl
  refine Sub.o hF2 ?_
  simp only [subH, Tx.look, nm_eq, if_true, if_false, and_true, Nat.reduceEqDiff, hgz, hst]
 have g1 : decide ((i : Int) < (cs.length : Int)) = false := dF (by omega)
 have hin : i = cs.length := by omega
 obtain ⟨ks, hks⟩ : ∃ ks, ks = cs.map cutC := ⟨_, rfl⟩
 have hkl : ks.length = cs.length := by rw [hks]; simp
 have hkr : cutR cs i = ks.map Ckx.row := by rw [hin, hks]; exact cutR_all cs
 have hkb : ∀ c ∈ ks, c.bd.length ≤ 1300 := by
  intro c hc
  rw [hks] at hc
  obtain ⟨c0, _, rfl⟩ := List.mem_map.1 hc
  show (c0.bd.take 1300).length ≤ 1300
  rw [List.length_take]; omega
 rw [hkr, ← hkl]
 rw [← hkl] at g1 hcl
 clear hkr hrl hin hi hcb hks hkl
 clear hcs tk1 tk2 tk3 hr hrb
 obtain ⟨p1, p2, p3, pcs⟩ := p
 have pok := hok
 unfold Pkx.ok Pkx.hd at pok
 simp only [Bool.and_eq_true, decide_eq_true_eq] at pok
 have tm : ((n : Nat) : Int).tmod 1300 = ((n % 1300 : Nat) : Int) := by
  rw [Int.tmod_eq_emod_of_nonneg (by omega)]; rfl
 obtain ⟨m, hm⟩ : ∃ m, m = n % 1300 := ⟨_, rfl⟩
 have hm13 : m < 1300 := by rw [hm]; exact Nat.mod_lt _ (by omega)
 rw [← hm] at tm
 clear hm
 have htk : List.take m (List.replicate m [PV.int .u8 0]) = (List.replicate m (0 : UInt8)).map rowB := by
  rw [List.take_of_length_le (by simp), List.map_replicate]; rfl
 simp only [Pkx.row] at pD
 simp only [g1, Nat.add_assoc, go_sem]
 repeat refine sd2 ?_
 refine CallVC.same (pD _ _ _) ?_
 have nb9 : (10000 * (i + 1) + 416 == 10000 * (i + 1) + 640) = false := by simp
 have hrm : (List.replicate m [PV.int .u8 0]).length = m := by simp
 simp only [tm, htk, hrm, nb9, rowB_bytes, List.length_map, knm_beq, kS2, kS2', kS3, Nat.add_assoc, go_sem]
 repeat refine sd2 ?_
 refine ⟨⟨by omega, fun row hrow => ?_⟩, ?_⟩
 ·obtain ⟨b, _, rfl⟩ := List.mem_map.1 hrow
  first | exact ⟨_, rfl⟩ | exact ⟨_, by have := b.toNat_lt; omega, rfl⟩ | simp [isByteP, rowB]
 repeat refine sd2 ?_
 refine ⟨okDyn_num (fun x => x.i % 10000) (by simp only [numF, List.map, Nat.mul_add_mod, Nat.reduceMod]; kernel_rfl), ?_⟩
 obtain ⟨wcs, hwc⟩ : ∃ wcs, wcs = pcs ++ [(⟨5, 0, List.replicate m 0⟩ : Ckx)] := ⟨_, rfl⟩
 have hwr : pcs.map Ckx.row ++ [[.int .i64 5, .int .i64 0, .str (List.replicate m 0)]] = wcs.map Ckx.row := by rw [hwc, List.map_append]; rfl
 have hwl : wcs.length = pcs.length + 1 := by rw [hwc, List.length_append]; rfl
 have hpb : ∀ c ∈ pcs, c.bd.length ≤ 1300 := by
  intro c hc
  have := List.all_eq_true.1 pok.1.2 c hc
  unfold Ckx.ok at this
  simp only [Bool.and_eq_true, decide_eq_true_eq] at this
  omega
 have g1 : PkS ⟨fr, tt, tg, ks⟩ := ⟨by show ks.length ≤ _; omega, fun c hc => by have := hkb c hc; omega⟩
 have g2 : PkS ⟨p1, p2, p3, pcs⟩ := ⟨by show pcs.length ≤ _; omega, fun c hc => by have := hpb c hc; omega⟩
 have g3 : PkS ⟨p1, p2, p3, wcs⟩ := ⟨by show wcs.length ≤ _; omega, fun c hc => by
  rw [hwc] at hc
  rcases List.mem_append.1 hc with h | h
  ·have := hpb c h; omega
  ·simp only [List.mem_cons, List.not_mem_nil, or_false] at h
   rw [h]; simp; omega⟩
 rw [hwr]
 clear hwr hwc
 have hwle : pcs.length + 1 ≤ wcs.length := by omega
 have h384 : (10000 * (i + 1) = 384) = False := by apply eq_false; omega
 obtain ⟨R, hR⟩ : ∃ R : List PV, R = [.int .i64 fr, .int .i64 tt, .int .i64 tg, .fs 3 (ks.map Ckx.row), .int .i64 p1, .int .i64 p2, .int .i64 p3, .fs 3 (pcs.map Ckx.row), .int .i64 p1, .int .i64 p2, .int .i64 p3, .fs 3 (wcs.map Ckx.row)] := ⟨_, rfl⟩
 have hqs : ∀ r, r < 3 → ∃ q : Pkx, PkS q ∧ List.take 4 (List.drop (r * 4) R) = [.int .i64 q.fr, .int .i64 q.tt, .int .i64 q.tg, .fs 3 (q.cs.map Ckx.row)] := by
  intro r hr
  rw [hR]
  rcases r with _ | _ | _ | r
  ·exact ⟨_, g1, rfl⟩
  ·exact ⟨_, g2, rfl⟩
  ·exact ⟨_, g3, rfl⟩
  ·omega
 obtain ⟨a, ha⟩ : ∃ a, a = 10000 * (i + 1) + 160 := ⟨_, rfl⟩
 have htw : List.take (pcs.length + 1) (wcs.map Ckx.row) = wcs.map Ckx.row := List.take_of_length_le (by simp; omega)
 have htk : List.take ks.length (ks.map Ckx.row) = ks.map Ckx.row := List.take_of_length_le (by simp)
 refine loopK.intro _ _ (I := fun r : Nat => ⟨[none, none, some (.str s), none, none, none, none, none, none, some (.ptr ⟨L + 1, 64⟩ 0 0), none, none, none, none, some (.ptr ⟨L + 1, a⟩ 0 0), none, none, none, none, none, none, none, none, none, none, none, none, none, none, none, none, none, none, none, none, none, none, none, none, none, none, none, none, none, none, none, none, none, none, none, none, none, none, none, none, none, none, none, none, none, none, none, none, none, none, none, none, none, none, none, none, none, none, none, none, none, none, none, none, none, none, none, none, none, none, none, none, none, none, none, none, some (.agg R), some (.int .i64 r)] ++ oz 86, [(⟨L + 1, 64⟩, .rows 31 3 true true [x.row]), (⟨L + 1, a⟩, .rows 24 4 true true [[.int .i64 p1, .int .i64 p2, .int .i64 p3, .fs 3 (pcs.map Ckx.row)]])], 10000 * (i + 1 + r + 1)⟩)
  (pre := fun r => r ≤ 3) (μ := fun r => 3 - r) 0 (by omega) ?_ ?_
 ·refine Sub.trans (Sub.frz 91 (.agg R) rfl (by rw [hR]; simp [Wk, WkL, Tx.look, htw, htk, hwle])) ?_
  rw [ha]
  refine Sub.of (hfz hF2) (by simp only [go_sem, subT, and_self, Int.natCast_zero]; try trivial) ?_ ?_ ?_
  ·simp [hR, subH, Tx.look, updH, setH, unown, wkN, wkNL, h384]
  ·simp [hR, subK, keys, updH, setH, unown, wkN, wkNL, Tx.look, h384]
  ·simp only []; omega
 intro r hr
 clear h384 nb9
 obtain ⟨i, hi2⟩ : ∃ j, j = i + 1 + r := ⟨_, rfl⟩
 rw [← hi2]
 have ha2 : a < 10000 * (i + 1) := by omega
 have ha0 : 1000 < a := by omega
 have a_64 : (a = 64) = False := by apply eq_false; omega
 have n64_a : (64 = a) = False := by apply eq_false; omega
 obtain ⟨a_n1, a_n2, a_n3, a_n4, a_n5⟩ := nqL L (i := i) (p := a) (by omega)
 by_cases hlt : r < 3
 ·have u0 : decide ((r : Int) < 3) = true := dT (by omega)
  obtain ⟨q, hq, hqr⟩ := hqs r hlt
  rcases hq.go with ⟨w, h1, h2, h3, h4⟩ | ⟨h1, h3, h4⟩
  ·simp only [Pkx.row] at h1 h2 h3 h4
   simp only [u0, hqr, Nat.zero_add, a_n1, kS2, Nat.add_assoc, go_sem]
   repeat refine sd2 ?_
   refine CallVC.same (h1 _ _ _) ?_
   simp only [Nat.zero_add, a_n1, kS2, Nat.add_assoc, go_sem]
   refine CallVC.same (h2 _ _ _) ?_
   simp only [Nat.zero_add, a_n1, kS2, Nat.add_assoc, go_sem]
   refine CallVC.same (h3 _ _ _) ?_
   simp only [Nat.zero_add, a_n1, kS2, Nat.add_assoc, go_sem]
   refine CallVC.same (h4 _ _ _) ?_
   simp only [Nat.zero_add, Nat.add_assoc, go_sem]
   refine ⟨by unfold Sx.inI64; omega, r + 1, by omega, by omega, ?_⟩
   refine Sub.o hF2 ?_
   simp [subH, Tx.look, a_64]
  ·simp only [Pkx.row] at h1 h3 h4
   simp only [u0, hqr, Nat.zero_add, a_n1, kS2, Nat.add_assoc, go_sem]
   repeat refine sd2 ?_
   refine CallVC.same (h1 _ _ _) ?_
   simp only [Nat.zero_add, a_n1, kS2, Nat.add_assoc, go_sem]
   refine CallVC.same (h3 _ _ _) ?_
   simp only [Nat.zero_add, a_n1, kS2, Nat.add_assoc, go_sem]
   refine CallVC.same (h4 _ _ _) ?_
   simp only [Nat.zero_add, Nat.add_assoc, go_sem]
   refine ⟨by unfold Sx.inI64; omega, r + 1, by omega, by omega, ?_⟩
   refine Sub.o hF2 ?_
   simp [subH, Tx.look, a_64]
 have u3 : decide ((r : Int) < 3) = false := dF (by omega)
 have hE := fun F L nx => rEncode_ok (F := F) (L := L) (nx := nx) ⟨p1, p2, p3, pcs⟩ hok
 obtain ⟨hle, h16, h12⟩ := enc_len hok
 have hO := fun F L nx => editOf_ok (F := F) (L := L) (nx := nx) x hx (encS ⟨p1, p2, p3, pcs⟩) (by omega)
 have hol := edx_len x (encS ⟨p1, p2, p3, pcs⟩)
 obtain ⟨o, ho⟩ : ∃ o, o = encS ⟨p1, p2, p3, pcs⟩ := ⟨_, rfl⟩
 rw [← ho] at hE hO hol hle h16 h12
 obtain ⟨bt, hbt⟩ : ∃ bt, bt = x.of o := ⟨_, rfl⟩
 rw [← hbt] at hO hol
 simp only [Pkx.row] at hE
 clear hbt ho
 have ts := takeM s 1300 1300 rfl
 obtain ⟨sc, hsc⟩ : ∃ sc, sc = s.take 1300 := ⟨_, rfl⟩
 have hscl : sc.length ≤ 1300 := by rw [hsc, List.length_take]; omega
 rw [← hsc] at ts
 clear hsc
 simp only [u3, Nat.zero_add, a_64, Nat.add_assoc, go_sem]
 refine CallVC.same (hE _ _ _) ?_
 simp only [Nat.zero_add, n64_a, Nat.add_assoc, go_sem]
 refine CallVC.same (hO _ _ _) ?_
 by_cases hb16 : 16 ≤ bt.length
 case' pos =>
  have v1 : decide ((bt.length : Int) ≥ 16) = true := dT (by omega)
  obtain ⟨bb, hbb⟩ : ∃ bb, bb = (bt.drop 12).take ((min (bt.length : Int) 1100).toNat - 12) := ⟨_, rfl⟩
  have hbl : bb.length ≤ 1100 := by rw [hbb, List.length_take]; omega
  have hq4 : Pkx.ok ⟨1, 2, 3, [⟨7, 0, bb⟩]⟩ = true := by
   unfold Pkx.ok Pkx.hd
   simp [serB, szs, Ckx.sz, Ckx.ok]
   omega
  have hS := fun F L nx => rEncode_ok (F := F) (L := L) (nx := nx) ⟨1, 2, 3, [⟨7, 0, bb⟩]⟩ hq4
  obtain ⟨hse, hs16, hs12⟩ := enc_len hq4
  obtain ⟨su, hsu⟩ : ∃ su, su = encS ⟨1, 2, 3, [⟨7, 0, bb⟩]⟩ := ⟨_, rfl⟩
  rw [← hsu] at hS hse hs16 hs12
  clear hsu
  have hsk : ((su.length : Int) - 1).toNat = su.length - 1 := by omega
  simp only [v1, ← hbb, ts, Nat.zero_add, a_n1, kS2, kS3, Nat.add_assoc, go_sem]
  repeat refine sd2 ?_
  refine CallVC.pure (args2 := [.agg (Pkx.row ⟨1, 2, 3, [⟨7, 0, bb⟩]⟩)]) (by simp [Pkx.row, Ckx.row, Wk, WkL, a_n1]) (hS _ _ _) rfl ?_
  have nb9 : (10000 * (i + 1) + 416 == 10000 * (i + 1) + 1088) = false := by simp
  simp only [hsk, nb9, wkN, wkNL, Pkx.row, Ckx.row, Nat.zero_add, a_n1, knm_beq, kS2, kS3, Nat.add_assoc, go_sem]
  repeat refine sd2 ?_
  obtain ⟨ls, hls⟩ : ∃ ls : List (List UInt8), ls = [sc, o, bt, su, su.take (su.length - 1 - 0)] := ⟨_, rfl⟩
  have hll : ls.length = 5 := by rw [hls]; rfl
  have hlb : ∀ t ∈ ls, t.length ≤ 2000 := by
   intro t ht
   rw [hls] at ht
   simp only [List.mem_cons, List.not_mem_nil, or_false] at ht
   rcases ht with rfl | rfl | rfl | rfl | rfl <;> first | omega | (rw [List.length_take]; omega)
  have hlr : ls.map (fun t => [PV.str t]) = [[.str (sc)], [.str (o)], [.str (bt)], [.str (su)], [.str (su.take (su.length - 1 - 0))]] := by rw [hls]; rfl
  clear hls
  obtain ⟨q, hq⟩ : ∃ q, q = 10000 * (i + 1) + 1120 := ⟨_, rfl⟩
  obtain ⟨n, hn⟩ : ∃ n, n = 5 := ⟨_, rfl⟩
  rw [← hn] at hll
  obtain ⟨m, hm⟩ : ∃ m : Int, m = 5 := ⟨_, rfl⟩
  have hmn : m = n := by rw [hm, hn]; rfl
 case' neg =>
  have v1 : decide ((bt.length : Int) ≥ 16) = false := dF (by omega)
  simp only [v1, ts, Nat.zero_add, a_n1, kS2, Nat.add_assoc, go_sem]
  repeat refine sd2 ?_
  obtain ⟨ls, hls⟩ : ∃ ls : List (List UInt8), ls = [sc, o, bt] := ⟨_, rfl⟩
  have hll : ls.length = 3 := by rw [hls]; rfl
  have hlb : ∀ t ∈ ls, t.length ≤ 2000 := by
   intro t ht
   rw [hls] at ht
   simp only [List.mem_cons, List.not_mem_nil, or_false] at ht
   rcases ht with rfl | rfl | rfl <;> omega
  have hlr : ls.map (fun t => [PV.str t]) = [[.str (sc)], [.str (o)], [.str (bt)]] := by rw [hls]; rfl
  clear hls
  obtain ⟨q, hq⟩ : ∃ q, q = 10000 * (i + 1) + 416 := ⟨_, rfl⟩
  obtain ⟨n, hn⟩ : ∃ n, n = 3 := ⟨_, rfl⟩
  rw [← hn] at hll
  obtain ⟨m, hm⟩ : ∃ m : Int, m = 3 := ⟨_, rfl⟩
  have hmn : m = n := by rw [hm, hn]; rfl
 all_goals
  refine loopK.intro _ _ (I := fun r : Nat => ⟨oz 153 ++ [some (.sl ⟨L + 1, q⟩ 0 n), some (.int .i64 m), some (.int .i64 r)] ++ oz 23, [(⟨L + 1, q⟩, .rows 9 1 true true (ls.map (fun t => [PV.str t])))], 10000 * (i + 1 + r + 1)⟩)
   (pre := fun r => r ≤ n) (μ := fun r => n - r) 0 (by omega) ?_ ?_
  ·rw [hq, hm, hn]
   refine Sub.of (hfz hF2) (by simp only [go_sem, subT, and_self, Int.natCast_zero]; try trivial) ?_ (by simp [subK, keys]) (by simp only []; omega)
   simp [subH, Tx.look, hlr, a_n1]
  intro r hr
  clear hlr ha
  obtain ⟨i, hi3⟩ : ∃ j, j = i + 1 + r := ⟨_, rfl⟩
  rw [← hi3]
  have hq2 : q < 10000 * (i + 1) := by omega
  obtain ⟨q_n1, q_n2, q_n3, q_n4, q_n5⟩ := nqL L (i := i) (p := q) (by omega)
  by_cases hlt : r < n
  ·have w1 : decide ((r : Int) < m) = true := dT (by omega)
   have xs0 : (ls.map (fun t => [PV.str t])).getD r [] = [.str (ls[r]'(by omega))] := by simp [List.getD_eq_getElem?_getD, show r < ls.length by omega]
   have ht := hlb _ (List.getElem_mem (show r < ls.length by omega))
   obtain ⟨t, ht9⟩ : ∃ t, t = ls[r]'(by omega) := ⟨_, rfl⟩
   rw [← ht9] at xs0 ht
   have hml : (ls.map (fun t => [PV.str t])).length = n := by rw [List.length_map, hll]
   rcases dec_go t ht with ⟨pk, hpl, h1, h2⟩ | ⟨e, h1, h2⟩
   ·simp only [Pkx.row] at h1 h2
    simp only [w1, xs0, List.length_map, Nat.zero_add, Nat.add_assoc, go_sem]
    repeat refine sd2 ?_
    refine CallVC.same (h1 _ _ _) ?_
    simp only [Nat.zero_add, q_n1, Nat.add_assoc, go_sem]
    refine CallVC.same (h2 _ _ _) ?_
    simp only [Nat.zero_add, q_n1, kS3, Nat.add_assoc, go_sem]
    refine CallVC.same (rSameP_ok pk pk hpl hpl true (by simp)) ?_
    simp only [Nat.zero_add, Nat.add_assoc, go_sem]
    refine ⟨by unfold Sx.inI64; omega, r + 1, by omega, by omega, ?_⟩
    refine Sub.o hF2 ?_
    simp [subH, Tx.look]
   ·simp only [w1, xs0, List.length_map, Nat.zero_add, Nat.add_assoc, go_sem]
    repeat refine sd2 ?_
    refine CallVC.same (h1 _ _ _) ?_
    simp only [Nat.zero_add, q_n1, Nat.add_assoc, go_sem]
    refine CallVC.same (h2 _ _ _) ?_
    simp only [Nat.zero_add, q_n1, kS3, Nat.add_assoc, go_sem]
    refine CallVC.gen (args2 := [.agg pkZ.row, .agg pkZ.row]) (by simp [Pkx.row, pkZ, WkL, Wk]) (rSameP_ok pkZ pkZ (by simp [pkZ]) (by simp [pkZ]) true (by simp)) ?_
    simp only [Pkx.row, pkZ, List.map_nil, wkNL, wkN, unown, Nat.add_assoc, go_sem]
    refine ⟨by unfold Sx.inI64; omega, r + 1, by omega, by omega, ?_⟩
    refine Sub.o hF2 ?_
    simp [subH, Tx.look]
  ·have w1 : decide ((r : Int) < m) = false := dF (by omega)
   simp only [w1, Nat.zero_add, Nat.add_assoc, go_sem]
   exact .bool (.inr rfl) rfl rfl (by simp [UpdAll])
end Go.Proofs.YtaacfnngodhecaaGreatDoor
end
section
namespace Go.Proofs.YtaacfnngodhecaaGreatDoor
open Go.ChangeShapes Go.WideShapes Go.ChangeAt Go.RowKit Go.Tx
set_option maxRecDepth 100000
theorem undSctp32 : ∃ fs, Tryz.prog.underlying 24 = some (.struct fs) := undS (by kernel_rfl)
theorem undStr_32 : Tryz.prog.underlying 9 = some .string := by kernel_rfl
theorem shpSctp32 {n : Nat} {xs : List PV} (h : Shp tys (n + 6) 24 xs) : ∃ p : Pkx, xs = p.row ∧ p.cs.length ≤ maxLen ∧ ∀ c ∈ p.cs, c.bd.length ≤ maxLen := by
 have h := Shp.struct g24 h
 simp only [List.foldr] at h
 obtain ⟨_, _, rfl, h1, _, _, rfl, h2, _, _, rfl, h3, _, _, rfl, h4, rfl⟩ := h
 obtain ⟨a1, rfl, _⟩ := Shp.int g3 h1
 obtain ⟨a2, rfl, _⟩ := Shp.int g3 h2
 obtain ⟨a3, rfl, _⟩ := Shp.int g3 h3
 obtain ⟨wd, rs, rfl, l4, e4, s4⟩ := Shp.slice g22 h4
 rw [g34] at e4
 simp only [Option.map_some, Option.some.injEq] at e4
 subst e4
 obtain ⟨l, rfl, hl⟩ := rowsOf (f := Ckx.row) (ok := fun c => c.bd.length ≤ maxLen) (fun xs hx => by obtain ⟨c, e, m, _⟩ := shpChunk32 hx; exact ⟨c, e, m⟩) rs s4
 exact ⟨⟨a1, a2, a3, l⟩, rfl, by simpa using l4, hl⟩
end Go.Proofs.YtaacfnngodhecaaGreatDoor
end
