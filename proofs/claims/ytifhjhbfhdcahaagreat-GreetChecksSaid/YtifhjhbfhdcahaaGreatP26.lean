/- Lemmas for the walk: GK154. -/
import Derived.Test.YtifhjhbfhdcahaaGreatP25
import Derived.Test.YtifhjhbfhdcahaaGreatP24
set_option linter.all false
section
namespace Go.Proofs.YtifhjhbfhdcahaaGreat
open Go.Tx
set_option maxRecDepth 100000
set_option maxHeartbeats 16000000
theorem zKP{g:Gx}(h:g.ok=true):(g.due= -1∨(0≤g.due∧g.due≤1099511634176∧1≤g.tr∧g.tr≤8))∧(0≤g.due→g.st=2∨g.st=3∨g.st=5∨g.st=6):=by
 have hm:=(zUZ h).2;have hs:=zLH hm;have hm0:(if g.st=1∨g.st=4∨g.st=7 then g.rest else g.tries)=true:=by
  unfold Gx.mid at hm;rcases (show g.st=1∨g.st=2∨g.st=3∨g.st=4∨g.st=5∨g.st=6∨g.st=7 by omega) with h|h|h|h|h|h|h;all_goals
   simp[h]at hm ⊢;exact hm.2
 by_cases hr:g.st=1∨g.st=4∨g.st=7
 ·rw[if_pos hr]at hm0;unfold Gx.rest at hm0;simp only[zC,beq_iff_eq]at hm0;exact ⟨.inl hm0.1,fun h=>by omega⟩
 ·rw[if_neg hr]at hm0;unfold Gx.tries at hm0;simp only[zC,decide_eq_true_eq]at hm0;exact ⟨.inr (by omega),fun h=>by omega⟩
theorem zS5{g:Gx}(h:g.ok=true){now:Int}(ht:zEg now=true):({g with ta:=now}:Gx).ok=true:=by
 rw[zHJ]at h ⊢;refine ⟨?_,h.2.1,h.2.2⟩;have h3:=h.1;rw[zKK]at h3 ⊢;exact ⟨h3.1,h3.2.1,h3.2.2.1,h3.2.2.2.1,h3.2.2.2.2.1,h3.2.2.2.2.2.1,ht⟩
theorem zQ4{g:Gx}{now kind:Int}{p:Pkx}(hok:g.ok=true)(htm:zEg now=true)(c0:¬now<g.ta)(k1:1≤kind)(k5:kind≤5)(hp:kind=5→p.ok=true):
  (∀h o,gEv {g with ta:=now} now kind p=some (h,o)→zAU g now kind p=(h,o,0))∧(gEv {g with ta:=now} now kind p=none→zAU g now kind p=(zGx,[],8)):=by
 have hn:¬(zEg now=false∨now<g.ta∨kind<1∨5<kind):=by
  rintro (h|h|h|h)
  ·rw[htm]at h;cases h
  all_goals omega
 have hn2:¬(kind=5∧p.ok=false):=by
  rintro ⟨h,h2⟩
  rw[hp h]at h2;cases h2
 refine ⟨fun h o he=>?_,fun he=>?_⟩;all_goals
  unfold zAU;rw[if_neg (by simp[hok]),if_neg hn,if_neg hn2,he]
theorem zH1{F:SF}{L nx:Nat}(g:Gx)(now kind:Int)(p:Pkx)(hlen:p.cs.length≤1000000)(hb:∀c∈p.cs,c.bd.length≤1000000):Con Tryz.prog 41 [.agg (zBB hT kT),.agg g.row,.int .i64 now,.agg (.int .i64 kind::p.row)] F L nx nx (.tup [.agg (zAU g now kind p).1.row,zAV (zAU g now kind p).2.1,.int .i64 (zAU g now kind p).2.2]) [] []:=by
 have tl:(zBB hT kT).length=2:=rfl;have tn:=zCg hT kT;have hRt:=fun F L nx=>zEu (F:=F) (L:=L) (nx:=nx) g
 have hTi:=fun F L nx=>zGW (F:=F) (L:=L) (nx:=nx) now
 have hPk:=fun F L nx=>zNu (F:=F) (L:=L) (nx:=nx) p (by unfold maxLen;omega) (fun c hc=>by have:=hb c hc;unfold maxLen;omega)
 simp only[Gx.row,Pkx.row]at hRt hPk;simp only[Pkx.row];refine zUU (zAg (L+1)) rfl rfl (fn:=Tryz.f41) (c:=Tryz.f41.body.getD .skip) (by kernel_rfl) (by rfl) (by kernel_rfl) rfl (by simp) ?_;intro F3 hF1 hF2;refine vcu ⟨[none,none,some (.int .i64 now),none,some (.ptr ⟨L+1,0⟩ 0 0),some (.ptr ⟨L+1,32⟩ 0 0),none,some (.ptr ⟨L+1,64⟩ 0 0),some (.ptr ⟨L+1,96⟩ 0 0),some (.nilS),some (.int .i64 0)]++oz 97,[(⟨L+1,0⟩,.rows 53 2 true true [zBB hT kT]),(⟨L+1,32⟩,.rows 28 20 true true [(gR g [])]),(⟨L+1,64⟩,.rows 40 5 true true [[.int .i64 kind,.int .i64 p.fr,.int .i64 p.tt,.int .i64 p.tg,.fs 3 (p.cs.map Ckx.row)]]),(⟨L+1,96⟩,.rows 28 20 true true [(zz20 [])])],10000⟩ ?_ ?_
 ·simp only[Tryz.f41,tl,tn,Gx.row,go_sem];repeat refine sd2 ?_
  exact ⟨(),(so0 hF2)⟩
 refine vcu ⟨[none,none,some (.int .i64 now),none,some (.ptr ⟨L+1,0⟩ 0 0),some (.ptr ⟨L+1,32⟩ 0 0),none,some (.ptr ⟨L+1,64⟩ 0 0),some (.ptr ⟨L+1,96⟩ 0 0),some (.nilS),some (.int .i64 0),some (.ptr ⟨L+1,10000⟩ 0 0)]++oz 96,[(⟨L+1,0⟩,.rows 53 2 true true [zBB hT kT]),(⟨L+1,32⟩,.rows 28 20 true true [(gR g [])]),(⟨L+1,64⟩,.rows 40 5 true true [[.int .i64 kind,.int .i64 p.fr,.int .i64 p.tt,.int .i64 p.tg,.fs 3 (p.cs.map Ckx.row)]]),(⟨L+1,96⟩,.rows 28 20 true true [(zz20 [])]),(⟨L+1,10000⟩,.rows 28 20 true true [(zz20 [])])],20000⟩ ?_ ?_
 ·simp only[Tryz.f41,go_sem];repeat refine sd2 ?_
  exact ⟨(),(so0 hF2)⟩
 cases hok:g.ok
 ·rw[hok]at hRt;have hE:zAU g now kind p=(zGx,[],330):=by unfold zAU;rw[if_pos hok]
  rw[hE];simp only[zAV,Gx.row,zGx,zIni];refine VT.of (zAg (L+1)) ?_;simp only[Tryz.f41,go_sem];repeat refine sd2 ?_
  refine CallVC.same (hRt _ _ _) ?_;simp only[go_sem];repeat refine sd2 ?_
  exact ps0
 rw[hok]at hRt;refine vcu ⟨[none,none,some (.int .i64 now),none,some (.ptr ⟨L+1,0⟩ 0 0),some (.ptr ⟨L+1,32⟩ 0 0),none,some (.ptr ⟨L+1,64⟩ 0 0),some (.ptr ⟨L+1,96⟩ 0 0),some (.nilS),some (.int .i64 0),some (.ptr ⟨L+1,10000⟩ 0 0)]++oz 96,[(⟨L+1,0⟩,.rows 53 2 true true [zBB hT kT]),(⟨L+1,32⟩,.rows 28 20 true true [(gR g [])]),(⟨L+1,64⟩,.rows 40 5 true true [[.int .i64 kind,.int .i64 p.fr,.int .i64 p.tt,.int .i64 p.tg,.fs 3 (p.cs.map Ckx.row)]]),(⟨L+1,96⟩,.rows 28 20 true true [(zz20 [])]),(⟨L+1,10000⟩,.rows 28 20 true true [(zz20 [])])],30000⟩ ?_ ?_
 ·simp only[Tryz.f41,go_sem];repeat refine sd2 ?_
  refine CallVC.same (hRt _ _ _) ?_;simp only[go_sem];repeat refine sd2 ?_
  exact ⟨(),(so0 hF2)⟩
 clear hRt;cases htm:zEg now
 ·rw[htm]at hTi;have hE:zAU g now kind p=(zGx,[],2):=by unfold zAU;rw[if_neg (by simp[hok]),if_pos (.inl htm)]
  rw[hE];simp only[zAV,Gx.row,zGx,zIni];refine VT.of (zAg (L+1)) ?_;simp only[Tryz.f41,go_sem];repeat refine sd2 ?_
  refine CallVC.same (hTi _ _ _) ?_;simp only[go_sem];repeat refine sd2 ?_
  exact ps0
 rw[htm]at hTi;have hn:=(zBk now).1 htm;by_cases c0:now<g.ta
 ·have m0:decide (now<g.ta)=true:=dT c0;have hE:zAU g now kind p=(zGx,[],2):=by unfold zAU;rw[if_neg (by simp[hok]),if_pos (.inr (.inl c0))]
  rw[hE];simp only[zAV,Gx.row,zGx,zIni];refine VT.of (zAg (L+1)) ?_;simp only[Tryz.f41,go_sem];repeat refine sd2 ?_
  refine CallVC.same (hTi _ _ _) ?_;simp only[m0,go_sem];repeat refine sd2 ?_
  exact ps0
 have m0:decide (now<g.ta)=false:=dF c0;by_cases c1:kind<1
 ·have m1:decide (kind<1)=true:=dT c1;have hE:zAU g now kind p=(zGx,[],2):=by unfold zAU;rw[if_neg (by simp[hok]),if_pos (.inr (.inr (.inl c1)))]
  rw[hE];simp only[zAV,Gx.row,zGx,zIni];refine VT.of (zAg (L+1)) ?_;simp only[Tryz.f41,go_sem];repeat refine sd2 ?_
  refine CallVC.same (hTi _ _ _) ?_;simp only[m0,m1,go_sem];repeat refine sd2 ?_
  exact ps0
 have m1:decide (kind<1)=false:=dF c1;by_cases c2:5<kind
 ·have m2:decide (5<kind)=true:=dT c2;have hE:zAU g now kind p=(zGx,[],2):=by unfold zAU;rw[if_neg (by simp[hok]),if_pos (.inr (.inr (.inr c2)))]
  rw[hE];simp only[zAV,Gx.row,zGx,zIni];refine VT.of (zAg (L+1)) ?_;simp only[Tryz.f41,go_sem];repeat refine sd2 ?_
  refine CallVC.same (hTi _ _ _) ?_;simp only[m0,m1,m2,go_sem];repeat refine sd2 ?_
  exact ps0
 have m2:decide (5<kind)=false:=dF c2;refine vcu ⟨[none,none,some (.int .i64 now),none,some (.ptr ⟨L+1,0⟩ 0 0),some (.ptr ⟨L+1,32⟩ 0 0),none,some (.ptr ⟨L+1,64⟩ 0 0),some (.ptr ⟨L+1,96⟩ 0 0),some (.nilS),some (.int .i64 0),some (.ptr ⟨L+1,10000⟩ 0 0)]++oz 96,[(⟨L+1,0⟩,.rows 53 2 true true [zBB hT kT]),(⟨L+1,32⟩,.rows 28 20 true true [(gR g [])]),(⟨L+1,64⟩,.rows 40 5 true true [[.int .i64 kind,.int .i64 p.fr,.int .i64 p.tt,.int .i64 p.tg,.fs 3 (p.cs.map Ckx.row)]]),(⟨L+1,96⟩,.rows 28 20 true true [(zz20 [])]),(⟨L+1,10000⟩,.rows 28 20 true true [(zz20 [])])],40000⟩ ?_ ?_
 ·simp only[Tryz.f41,go_sem];repeat refine sd2 ?_
  refine CallVC.same (hTi _ _ _) ?_;simp only[m0,m1,m2,go_sem];repeat refine sd2 ?_
  exact ⟨(),(so0 hF2)⟩
 clear hTi;by_cases h5:kind=5∧p.ok=false
 ·have k5:(kind==5)=true:=by simp[h5.1]
  rw[h5.2]at hPk;have hE:zAU g now kind p=(zGx,[],320):=by unfold zAU;rw[if_neg (by simp[hok]),if_neg (by rintro (h|h|h|h)<;>first|omega|simp[htm]at h),if_pos h5]
  rw[hE];simp only[zAV,Gx.row,zGx,zIni];refine VT.of (zAg (L+1)) ?_;simp only[Tryz.f41,k5,go_sem];repeat refine sd2 ?_
  refine CallVC.same (hPk _ _ _) ?_;simp only[go_sem];repeat refine sd2 ?_
  exact ps0
 obtain ⟨ev1,ev2⟩:=zQ4 (p:=p) hok htm c0 (show 1≤kind by omega) (show kind≤5 by omega) (fun h=>by cases hp:p.ok with|true=>rfl|false=>exact absurd ⟨h,hp⟩ h5);refine vcu ⟨[none,none,some (.int .i64 now),none,some (.ptr ⟨L+1,0⟩ 0 0),some (.ptr ⟨L+1,32⟩ 0 0),none,some (.ptr ⟨L+1,64⟩ 0 0),some (.ptr ⟨L+1,96⟩ 0 0),some (.nilS),some (.int .i64 0),some (.ptr ⟨L+1,10000⟩ 0 0)]++oz 96,[(⟨L+1,0⟩,.rows 53 2 true true [zBB hT kT]),(⟨L+1,32⟩,.rows 28 20 true true [(gR g [])]),(⟨L+1,64⟩,.rows 40 5 true true [[.int .i64 kind,.int .i64 p.fr,.int .i64 p.tt,.int .i64 p.tg,.fs 3 (p.cs.map Ckx.row)]]),(⟨L+1,96⟩,.rows 28 20 true true [(zz20 [])]),(⟨L+1,10000⟩,.rows 28 20 true true [(zz20 [])])],50000⟩ ?_ ?_
 ·by_cases k:kind=5
  ·have k5:(kind==5)=true:=by simp[k]
   have hpo:p.ok=true:=by cases h:p.ok with|true=>rfl|false=>exact absurd ⟨k,h⟩ h5
   rw[hpo]at hPk;simp only[Tryz.f41,k5,go_sem];repeat refine sd2 ?_
   refine CallVC.same (hPk _ _ _) ?_;simp only[go_sem];repeat refine sd2 ?_
   exact ⟨(),(so0 hF2)⟩
  ·have k5:(kind==5)=false:=by simp[k]
   simp only[Tryz.f41,k5,go_sem];repeat refine sd2 ?_
   exact ⟨(),(so0 hF2)⟩
 clear hPk;refine vcu ⟨[none,none,some (.int .i64 now),none,some (.ptr ⟨L+1,0⟩ 0 0),some (.ptr ⟨L+1,32⟩ 0 0),none,some (.ptr ⟨L+1,64⟩ 0 0),some (.ptr ⟨L+1,96⟩ 0 0),some (.nilS),some (.int .i64 0),some (.ptr ⟨L+1,10000⟩ 0 0)]++oz 96,[(⟨L+1,0⟩,.rows 53 2 true true [zBB hT kT]),(⟨L+1,32⟩,.rows 28 20 true true [[.int .i64 g.st,.int .i64 g.fr,.int .i64 g.tt,.str g.sec,.int .i64 g.own.tag,.int .i64 g.own.win,.int .i64 g.own.out,.int .i64 g.own.inn,.int .i64 g.own.tsn,.str g.own.ck,.int .i64 g.peer.tag,.int .i64 g.peer.win,.int .i64 g.peer.out,.int .i64 g.peer.inn,.int .i64 g.peer.tsn,.str g.peer.ck,.str g.ck,.int .i64 now,.int .i64 g.due,.int .i64 g.tr]]),(⟨L+1,64⟩,.rows 40 5 true true [[.int .i64 kind,.int .i64 p.fr,.int .i64 p.tt,.int .i64 p.tg,.fs 3 (p.cs.map Ckx.row)]]),(⟨L+1,96⟩,.rows 28 20 true true [(zz20 [])]),(⟨L+1,10000⟩,.rows 28 20 true true [(zz20 [])])],60000⟩ ?_ ?_
 ·simp only[Tryz.f41,go_sem];repeat refine sd2 ?_
  exact ⟨(),(so0 hF2)⟩
 refine vcu ⟨[none,none,some (.int .i64 now),none,some (.ptr ⟨L+1,0⟩ 0 0),some (.ptr ⟨L+1,32⟩ 0 0),none,some (.ptr ⟨L+1,64⟩ 0 0),some (.ptr ⟨L+1,96⟩ 0 0),some (.nilS),some (.int .i64 0),some (.ptr ⟨L+1,10000⟩ 0 0),some (.nilS)]++oz 95,[(⟨L+1,0⟩,.rows 53 2 true true [zBB hT kT]),(⟨L+1,32⟩,.rows 28 20 true true [[.int .i64 g.st,.int .i64 g.fr,.int .i64 g.tt,.str g.sec,.int .i64 g.own.tag,.int .i64 g.own.win,.int .i64 g.own.out,.int .i64 g.own.inn,.int .i64 g.own.tsn,.str g.own.ck,.int .i64 g.peer.tag,.int .i64 g.peer.win,.int .i64 g.peer.out,.int .i64 g.peer.inn,.int .i64 g.peer.tsn,.str g.peer.ck,.str g.ck,.int .i64 now,.int .i64 g.due,.int .i64 g.tr]]),(⟨L+1,64⟩,.rows 40 5 true true [[.int .i64 kind,.int .i64 p.fr,.int .i64 p.tt,.int .i64 p.tg,.fs 3 (p.cs.map Ckx.row)]]),(⟨L+1,96⟩,.rows 28 20 true true [(zz20 [])]),(⟨L+1,10000⟩,.rows 28 20 true true [(zz20 [])])],70000⟩ ?_ ?_
 ·simp only[Tryz.f41,go_sem];repeat refine sd2 ?_
  exact ⟨(),(so0 hF2)⟩
 refine vcu ⟨[none,none,some (.int .i64 now),none,some (.ptr ⟨L+1,0⟩ 0 0),some (.ptr ⟨L+1,32⟩ 0 0),none,some (.ptr ⟨L+1,64⟩ 0 0),some (.ptr ⟨L+1,96⟩ 0 0),some (.nilS),some (.int .i64 0),some (.ptr ⟨L+1,10000⟩ 0 0),some (.nilS),some (.int .i64 g.st)]++oz 94,[(⟨L+1,0⟩,.rows 53 2 true true [zBB hT kT]),(⟨L+1,32⟩,.rows 28 20 true true [[.int .i64 g.st,.int .i64 g.fr,.int .i64 g.tt,.str g.sec,.int .i64 g.own.tag,.int .i64 g.own.win,.int .i64 g.own.out,.int .i64 g.own.inn,.int .i64 g.own.tsn,.str g.own.ck,.int .i64 g.peer.tag,.int .i64 g.peer.win,.int .i64 g.peer.out,.int .i64 g.peer.inn,.int .i64 g.peer.tsn,.str g.peer.ck,.str g.ck,.int .i64 now,.int .i64 g.due,.int .i64 g.tr]]),(⟨L+1,64⟩,.rows 40 5 true true [[.int .i64 kind,.int .i64 p.fr,.int .i64 p.tt,.int .i64 p.tg,.fs 3 (p.cs.map Ckx.row)]]),(⟨L+1,96⟩,.rows 28 20 true true [(zz20 [])]),(⟨L+1,10000⟩,.rows 28 20 true true [(zz20 [])])],80000⟩ ?_ ?_
 ·simp only[Tryz.f41,go_sem];repeat refine sd2 ?_
  exact ⟨(),(so0 hF2)⟩
 have hok':=zS5 hok htm;have hd':=(zUR _).1 (zUy hok');have hpo:=hd'.2.2.2.2.2.1;have hmid:=(zUZ hok').2;have hkk:kind=1∨kind=2∨kind=3∨kind=4∨kind=5:=by omega
 refine VT.of (zAg (L+1)) ?_;rcases hkk with rfl|rfl|rfl|rfl|rfl
 ·by_cases hs:g.st=1;rotate_left
  ·have he:gEv {g with ta:=now} now 1 p=none:=by unfold gEv;rw[if_pos rfl];unfold zM5;exact if_neg hs
   have s1:(g.st==1)=false:=by simp[hs]
   rw[ev2 he];simp only[zAV,Gx.row,zGx,zIni];simp only[Tryz.f41,bne,zN,s1,go_sem];repeat refine sd2 ?_
   exact ps0
  have s1:(g.st==1)=true:=by simp[hs]
  have he:gEv {g with ta:=now} now 1 p=some (zAG {g with ta:=now} 2 now,zAj (zAG {g with ta:=now} 2 now)):=by unfold gEv;rw[if_pos rfl];unfold zM5;exact if_pos hs
  rw[ev1 _ _ he];have hTr:=fun F L nx=>zDD (F:=F) (L:=L) (nx:=nx) {g with ta:=now} 2 now hn
  have hA:=fun F L nx=>zFN (F:=F) (L:=L) (nx:=nx) (zAG {g with ta:=now} 2 now) hpo (by simp[zAG])
  have on:=zAx (zAj (zAG {g with ta:=now} 2 now));obtain ⟨v,hv⟩:∃v,v=zAV (zAj (zAG {g with ta:=now} 2 now)):=⟨_,rfl⟩;rw[←hv]at hA on;simp only[zAG,Gx.row]at hTr hA;simp only[←hv];simp only[zAG,Gx.row];simp only[Tryz.f41,bne,zT,zN,s1,go_sem];repeat refine sd2 ?_
  refine CallVC.same (hTr _ _ _) ?_;simp only[go_sem];repeat refine sd2 ?_
  refine CallVC.same (hA _ _ _) ?_;simp only[go_sem];repeat refine sd2 ?_
  exact ps0 (hf:=by simp[Tx.nf,nfl,on])
 ·by_cases hs:g.st=4;rotate_left
  ·have he:gEv {g with ta:=now} now 2 p=none:=by unfold gEv;rw[if_neg (by omega),if_pos rfl];unfold zJF;exact if_neg hs
   have s1:(g.st==4)=false:=by simp[hs]
   rw[ev2 he];simp only[zAV,Gx.row,zGx,zIni];simp only[Tryz.f41,Int.reduceBEq,bne,zN,s1,go_sem];repeat refine sd2 ?_
   exact ps0
  have s1:(g.st==4)=true:=by simp[hs]
  have he:gEv {g with ta:=now} now 2 p=some (zAG {g with ta:=now} 5 now,zAj (zAG {g with ta:=now} 5 now)):=by unfold gEv;rw[if_neg (by omega),if_pos rfl];unfold zJF;exact if_pos hs
  rw[ev1 _ _ he];have hTr:=fun F L nx=>zDD (F:=F) (L:=L) (nx:=nx) {g with ta:=now} 5 now hn
  have hA:=fun F L nx=>zFN (F:=F) (L:=L) (nx:=nx) (zAG {g with ta:=now} 5 now) hpo (by simp[zAG])
  have on:=zAx (zAj (zAG {g with ta:=now} 5 now));obtain ⟨v,hv⟩:∃v,v=zAV (zAj (zAG {g with ta:=now} 5 now)):=⟨_,rfl⟩;rw[←hv]at hA on;simp only[zAG,Gx.row]at hTr hA;simp only[←hv];simp only[zAG,Gx.row];simp only[Tryz.f41,Int.reduceBEq,bne,zT,zN,s1,go_sem];repeat refine sd2 ?_
  refine CallVC.same (hTr _ _ _) ?_;simp only[go_sem];repeat refine sd2 ?_
  refine CallVC.same (hA _ _ _) ?_;simp only[go_sem];repeat refine sd2 ?_
  exact ps0 (hf:=by simp[Tx.nf,nfl,on])
 ·have hR:=fun F L nx=>zD6 (F:=F) (L:=L) (nx:=nx) {g with ta:=now} 7
  simp only[zAT,Gx.row]at hR;by_cases hs1:g.st=1
  ·have he:gEv {g with ta:=now} now 3 p=none:=by unfold gEv;rw[if_neg (by omega),if_neg (by omega),if_pos rfl];unfold zHF;exact if_pos (.inl hs1)
   have s1:(g.st==1)=true:=by simp[hs1]
   rw[ev2 he];simp only[zAV,Gx.row,zGx,zIni];simp only[Tryz.f41,Int.reduceBEq,bne,zN,s1,go_sem];repeat refine sd2 ?_
   exact ps0
  have s1:(g.st==1)=false:=by simp[hs1]
  by_cases hs7:g.st=7
  ·have he:gEv {g with ta:=now} now 3 p=none:=by unfold gEv;rw[if_neg (by omega),if_neg (by omega),if_pos rfl];unfold zHF;exact if_pos (.inr hs7)
   have s7:(g.st==7)=true:=by simp[hs7]
   rw[ev2 he];simp only[zAV,Gx.row,zGx,zIni];simp only[Tryz.f41,Int.reduceBEq,bne,zN,s1,s7,go_sem];repeat refine sd2 ?_
   exact ps0
  have s7:(g.st==7)=false:=by simp[hs7]
  by_cases hs2:g.st=2
  ·have s2:(g.st==2)=true:=by simp[hs2]
   have he:gEv {g with ta:=now} now 3 p=some (zAT {g with ta:=now} 7,[]):=by unfold gEv;rw[if_neg (by omega),if_neg (by omega),if_pos rfl];unfold zHF;rw[if_neg (by rintro (h|h);exact hs1 h;exact hs7 h),if_pos hs2]
   rw[ev1 _ _ he];simp only[zAV,zAT,Gx.row];simp only[Tryz.f41,Int.reduceBEq,bne,zT,zN,s1,s7,s2,go_sem];repeat refine sd2 ?_
   refine CallVC.same (hR _ _ _) ?_;simp only[go_sem];repeat refine sd2 ?_
   exact ps0
  have s2:(g.st==2)=false:=by simp[hs2]
  have he:gEv {g with ta:=now} now 3 p=some (zAT {g with ta:=now} 7,zAh {g with ta:=now} 6):=by unfold gEv;rw[if_neg (by omega),if_neg (by omega),if_pos rfl];unfold zHF;rw[if_neg (by rintro (h|h);exact hs1 h;exact hs7 h),if_neg hs2]
  rw[ev1 _ _ he];have hTl:=fun F L nx=>zB0 (F:=F) (L:=L) (nx:=nx) {g with ta:=now} 6
  have on:=zAx (zAh {g with ta:=now} 6);obtain ⟨v,hv⟩:∃v,v=zAV (zAh {g with ta:=now} 6):=⟨_,rfl⟩;rw[←hv]at hTl on;simp only[Gx.row]at hTl;simp only[←hv];simp only[zAT,Gx.row];simp only[Tryz.f41,Int.reduceBEq,bne,zN,s1,s7,s2,go_sem];repeat refine sd2 ?_
  refine CallVC.same (hTl _ _ _) ?_;simp only[go_sem];repeat refine sd2 ?_
  refine CallVC.same (hR _ _ _) ?_;simp only[go_sem];repeat refine sd2 ?_
  exact ps0 (hf:=by simp[Tx.nf,nfl,on])
 ·have he:gEv {g with ta:=now} now 4 p=some ((zBy {g with ta:=now} now).1,(zBy {g with ta:=now} now).2):=by unfold gEv;rw[if_neg (by omega),if_neg (by omega),if_neg (by omega),if_pos rfl]
  rw[ev1 _ _ he];have hX:=fun F L nx=>zPH (F:=F) (L:=L) (nx:=nx) {g with ta:=now} now hpo hn (zKP hok').1 (zKP hok').2
  have on:=zAx (zBy {g with ta:=now} now).2;obtain ⟨v,hv⟩:∃v,v=zAV (zBy {g with ta:=now} now).2:=⟨_,rfl⟩;obtain ⟨h,hh9⟩:∃h,h=(zBy {g with ta:=now} now).1:=⟨_,rfl⟩;rw[←hv]at on;rw[←hv,←hh9]at hX ⊢;simp only[Gx.row]at hX ⊢;simp only[Tryz.f41,Int.reduceBEq,bne,zN,go_sem];repeat refine sd2 ?_
  refine CallVC.same (hX _ _ _) ?_;simp only[go_sem];repeat refine sd2 ?_
  exact ps0 (hf:=by simp[Tx.nf,nfl,on])
 ·obtain ⟨fr,tt,tag,cs⟩:=p;have hpk:Pkx.ok ⟨fr,tt,tag,cs⟩=true:=by cases hp:Pkx.ok ⟨fr,tt,tag,cs⟩ with|true=>rfl|false=>exact absurd ⟨rfl,hp⟩ h5
  cases cs with
  |nil=>exact absurd hpk (by unfold Pkx.ok Pkx.hd;simp)
  |cons c cs=>
   have he:gEv {g with ta:=now} now 5 ⟨fr,tt,tag,c::cs⟩=some ((zDB {g with ta:=now} now ⟨fr,tt,tag,c::cs⟩).1,(zDB {g with ta:=now} now ⟨fr,tt,tag,c::cs⟩).2):=by unfold gEv;rw[if_neg (by omega),if_neg (by omega),if_neg (by omega),if_neg (by omega)]
   rw[ev1 _ _ he];have hX:=fun F L nx=>zPI (F:=F) (L:=L) (nx:=nx) {g with ta:=now} now fr tt tag c cs hok' hn (hb c (by simp))
   have on:=zAx (zDB {g with ta:=now} now ⟨fr,tt,tag,c::cs⟩).2;obtain ⟨v,hv⟩:∃v,v=zAV (zDB {g with ta:=now} now ⟨fr,tt,tag,c::cs⟩).2:=⟨_,rfl⟩;obtain ⟨h,hh9⟩:∃h,h=(zDB {g with ta:=now} now ⟨fr,tt,tag,c::cs⟩).1:=⟨_,rfl⟩;rw[←hv]at on;rw[←hv,←hh9]at hX ⊢;simp only[Gx.row,Pkx.row]at hX ⊢;simp only[Tryz.f41,Int.reduceBEq,bne,zN,go_sem];repeat refine sd2 ?_
   refine CallVC.same (hX _ _ _) ?_;simp only[go_sem];repeat refine sd2 ?_
   exact ps0 (hf:=by simp[Tx.nf,nfl,on])
end Go.Proofs.YtifhjhbfhdcahaaGreat
end
