/- Lemmas for the walk: GK90, GD33, GK72, GK73, GK74, GD34, GK75. -/
import Derived.Test.YtifhjhbfhdcahaaGreatP13
import Derived.Test.YtifhjhbfhdcahaaGreatP12
import Derived.Test.YtifhjhbfhdcahaaGreatP11
set_option linter.all false
section
namespace Go.Proofs.YtifhjhbfhdcahaaGreat
open Go.Tx
set_option maxRecDepth 100000
set_option maxHeartbeats 16000000
theorem zGS{F:SF}{L nx:Nat}(t:Int):Con Tryz.prog 51 [.int .i64 t] F L nx nx (.bool (zEg t)) [] []:=by
 unfold zEg;refine bdy Tryz.f51 ?_;intro F3 hF1 hF2;cases h1:decide (0≤t)
 ·have f1:decide (t≥0)=false:=h1;simp only[Tryz.f51,h1,zX,go_sem];exact .bool (.inr rfl) rfl rfl (by simp[UpdAll])
 ·have f1:decide (t≥0)=true:=h1;simp only[Tryz.f51,h1,zR,go_sem];exact .bool (.inr rfl) rfl rfl (by simp[UpdAll])
theorem zHG{F:SF}{L nx:Nat}(d:Ini):Con Tryz.prog 50 [.agg d.row] F L nx nx (.bool (zAZ d)) [] []:=by
 have hp:=fun F L nx=>zC8 (F:=F) (L:=L) (nx:=nx) d
 unfold zAZ;refine bdy Tryz.f50 ?_;intro F3 hF1 hF2;simp only[Ini.row]at hp ⊢;cases hd:d.ok
 ·rw[hd,if_neg (by simp)]at hp;simp only[Tryz.f50,zX,go_sem];refine CallVC.same (hp _ _ _) ?_;have e1:((320:Int)==0)=false:=rfl;simp only[e1,go_sem];exact .bool (.inr rfl) rfl rfl (by simp[UpdAll])
 ·rw[hd,if_pos rfl]at hp;simp only[Tryz.f50,zR,go_sem];refine CallVC.same (hp _ _ _) ?_;have e1:((0:Int)==0)=true:=rfl;simp only[e1,go_sem];exact .bool (.inr rfl) rfl rfl (by simp[UpdAll])
theorem zUR(g:Gx):g.hd=true↔0≤g.fr∧g.fr≤65535∧0≤g.tt∧g.tt≤65535∧g.sec.length=32∧zAZ g.own=true∧zEg g.ta=true:=by
 unfold Gx.hd;simp only[zC,decide_eq_true_eq,and_assoc]
theorem Gx.bad{g:Gx}(h:g.hd=true→False):g.ok=false:=by
 unfold Gx.ok;cases h1:g.hd;·rfl
 ·exact (h h1).elim
theorem zM6(d:Ini):(decide (d.tag=0)&&(decide (d.win=0)&&(decide (d.out=0)&&(decide (d.inn=0)&&(decide (d.tsn=0)&&d.ck== [])))))=(d==zIni):=by
 obtain ⟨a,b,c,e,f,k⟩:=d;rw[qB];simp[zIni]
theorem zCO{F:SF}{L nx:Nat}(g:Gx):Con Tryz.prog 28 [.agg g.row] F L nx nx (.int .i64 (if g.ok then 0 else 330)) [] []:=by
 have hO:=fun F L nx=>zHG (F:=F) (L:=L) (nx:=nx) g.own
 have hP:=fun F L nx=>zHG (F:=F) (L:=L) (nx:=nx) g.peer
 have hTa:=fun F L nx=>zGS (F:=F) (L:=L) (nx:=nx) g.ta
 simp only[Ini.row]at hO hP;refine zUU (zAg (L+1)) rfl rfl (fn:=Tryz.f28) (c:=Tryz.f28.body.getD .skip) (by kernel_rfl) (by rfl) (by kernel_rfl) rfl (by simp) ?_;intro F3 hF1 hF2;refine vcu ⟨[none,some (.ptr ⟨L+1,0⟩ 0 0),some (.int .i64 0)]++oz 134,[(⟨L+1,0⟩,.rows 28 20 true true [g.row])],10000⟩ ?_ ?_
 ·simp only[Tryz.f28,Gx.row,go_sem];repeat refine sd2 ?_
  refine ⟨(),(so0 hF2)⟩
 refine VT.cut (zAg (L+1)) (by kernel_rfl) (fun _:Unit=>⟨[none,some (.ptr ⟨L+1,0⟩ 0 0),some (.int .i64 0)]++oz 134,[(⟨L+1,0⟩,.rows 28 20 true true [g.row])],20000⟩) (fun _=>g.hd=true) ?_ ?_
 ·rw[zUR];by_cases a0:g.fr<0
  ·have hb:g.ok=false:=Gx.bad fun h=>by rw[zUR]at h;have:=h.1;omega
   have a0t0:decide (g.fr<0)=true:=dT (by omega);simp only[Tryz.f28,Gx.row,a0t0,go_sem];repeat refine sd2 ?_
   exact ps0 (by simp only[hb,go_sem])
  have a0f0:decide (g.fr<0)=false:=dF (by omega);by_cases a1:g.fr>65535
  ·have hb:g.ok=false:=Gx.bad fun h=>by rw[zUR]at h;have:=h.2.1;omega
   have a1t0:decide (g.fr>65535)=true:=dT (by omega);have a1t1:decide (65535<g.fr)=true:=dT (by omega);simp only[Tryz.f28,Gx.row,a0f0,a1t0,go_sem];repeat refine sd2 ?_
   exact ps0 (by simp only[hb,go_sem])
  have a1f0:decide (g.fr>65535)=false:=dF (by omega);have a1f1:decide (65535<g.fr)=false:=dF (by omega);by_cases a2:g.tt<0
  ·have hb:g.ok=false:=Gx.bad fun h=>by rw[zUR]at h;have:=h.2.2.1;omega
   have a2t0:decide (g.tt<0)=true:=dT (by omega);simp only[Tryz.f28,Gx.row,a0f0,a1f0,a2t0,go_sem];repeat refine sd2 ?_
   exact ps0 (by simp only[hb,go_sem])
  have a2f0:decide (g.tt<0)=false:=dF (by omega);by_cases a3:g.tt>65535
  ·have hb:g.ok=false:=Gx.bad fun h=>by rw[zUR]at h;have:=h.2.2.2.1;omega
   have a3t0:decide (g.tt>65535)=true:=dT (by omega);have a3t1:decide (65535<g.tt)=true:=dT (by omega);simp only[Tryz.f28,Gx.row,a0f0,a1f0,a2f0,a3t0,go_sem];repeat refine sd2 ?_
   exact ps0 (by simp only[hb,go_sem])
  have a3f0:decide (g.tt>65535)=false:=dF (by omega);have a3f1:decide (65535<g.tt)=false:=dF (by omega);by_cases a4:g.sec.length=32;rotate_left
  ·have hb:g.ok=false:=Gx.bad fun h=>by rw[zUR]at h;exact a4 h.2.2.2.2.1
   have a4t:(((g.sec.length:Nat):Int) !=32)=true:=by simp;omega
   simp only[Tryz.f28,Gx.row,a0f0,a1f0,a2f0,a3f0,a4t,go_sem];repeat refine sd2 ?_
   exact ps0 (by simp only[hb,go_sem])
  have a4f:(((g.sec.length:Nat):Int) !=32)=false:=by simp;omega
  cases a5:zAZ g.own
  ·have hb:g.ok=false:=Gx.bad fun h=>by rw[zUR,a5]at h;simp at h
   rw[a5]at hO;simp only[Tryz.f28,Gx.row,a0f0,a1f0,a2f0,a3f0,a4f,go_sem];repeat refine sd2 ?_
   refine CallVC.same (hO _ _ _) ?_;simp only[go_sem];repeat refine sd2 ?_
   exact ps0 (by simp only[hb,go_sem])
  rw[a5]at hO;cases a6:zEg g.ta
  ·have hb:g.ok=false:=Gx.bad fun h=>by rw[zUR,a6]at h;simp at h
   rw[a6]at hTa;simp only[Tryz.f28,Gx.row,a0f0,a1f0,a2f0,a3f0,a4f,go_sem];repeat refine sd2 ?_
   refine CallVC.same (hO _ _ _) ?_;simp only[go_sem];repeat refine sd2 ?_
   refine CallVC.same (hTa _ _ _) ?_;simp only[go_sem];repeat refine sd2 ?_
   exact ps0 (by simp only[hb,go_sem])
  rw[a6]at hTa;simp only[Tryz.f28,Gx.row,a0f0,a1f0,a2f0,a3f0,a4f,go_sem];repeat refine sd2 ?_
  refine CallVC.same (hO _ _ _) ?_;simp only[go_sem];repeat refine sd2 ?_
  refine CallVC.same (hTa _ _ _) ?_;simp only[go_sem];repeat refine sd2 ?_
  refine ⟨(),⟨by omega,by omega,by omega,by omega,a4⟩,(so0 hF2)⟩
 intro _ hhd;clear hO hTa;have hc:∀(a b:Int),(a==b)=decide (a=b):=fun a b=>rfl
 refine vcu ⟨[none,some (.ptr ⟨L+1,0⟩ 0 0),some (.int .i64 0),some (.bool (g.peer==zIni)),some (.bool (zAZ g.peer))]++oz 132,[(⟨L+1,0⟩,.rows 28 20 true true [g.row])],30000⟩ ?_ ?_
 ·simp only[Tryz.f28,Gx.row,go_sem];repeat refine sd2 ?_
  refine CallVC.same (hP _ _ _) ?_;have hz:=zM6 g.peer;simp only[hc,hz,go_sem];repeat refine sd1 ?_
  refine ⟨(),(so0 hF2)⟩
 clear hP;refine vcu ⟨[none,some (.ptr ⟨L+1,0⟩ 0 0),some (.int .i64 0),some (.bool (g.peer==zIni)),some (.bool (zAZ g.peer)),some (.bool g.rest)]++oz 131,[(⟨L+1,0⟩,.rows 28 20 true true [g.row])],40000⟩ ?_ ?_
 ·cases e1:(g.due== -1)
  ·have hr:g.rest=false:=by unfold Gx.rest;rw[e1];rfl
   rw[hr];simp only[Tryz.f28,Gx.row,e1,go_sem];repeat refine sd2 ?_
   refine ⟨(),(so0 hF2)⟩
  ·have hr:g.rest=(g.tr==0):=by unfold Gx.rest;rw[e1];rfl
   rw[hr];simp only[Tryz.f28,Gx.row,e1,go_sem];repeat refine sd2 ?_
   refine ⟨(),(so0 hF2)⟩
 refine vcu ⟨[none,some (.ptr ⟨L+1,0⟩ 0 0),some (.int .i64 0),some (.bool (g.peer==zIni)),some (.bool (zAZ g.peer)),some (.bool g.rest),some (.bool g.tries)]++oz 130,[(⟨L+1,0⟩,.rows 28 20 true true [g.row])],50000⟩ ?_ ?_
 ·by_cases b0:0≤g.due;rotate_left
  ·have hr:g.tries=false:=by
    cases h:g.tries;·rfl
    ·unfold Gx.tries at h;simp only[zC,decide_eq_true_eq]at h;omega
   rw[hr];have b0f0:decide (0≤g.due)=false:=dF (by omega);have b0f1:decide (g.due≥0)=false:=dF (by omega);simp only[Tryz.f28,Gx.row,b0f0,go_sem];repeat refine sd2 ?_
   refine ⟨(),(so0 hF2)⟩
  have b0t0:decide (0≤g.due)=true:=dT (by omega);have b0t1:decide (g.due≥0)=true:=dT (by omega);by_cases b1:g.due≤1099511634176;rotate_left
  ·have hr:g.tries=false:=by
    cases h:g.tries;·rfl
    ·unfold Gx.tries at h;simp only[zC,decide_eq_true_eq]at h;omega
   rw[hr];have b1f0:decide (g.due≤1099511634176)=false:=dF (by omega);simp only[Tryz.f28,Gx.row,b0t0,b1f0,go_sem];repeat refine sd2 ?_
   refine ⟨(),(so0 hF2)⟩
  have b1t0:decide (g.due≤1099511634176)=true:=dT (by omega);by_cases b2:1≤g.tr;rotate_left
  ·have hr:g.tries=false:=by
    cases h:g.tries;·rfl
    ·unfold Gx.tries at h;simp only[zC,decide_eq_true_eq]at h;omega
   rw[hr];have b2f0:decide (1≤g.tr)=false:=dF (by omega);have b2f1:decide (g.tr≥1)=false:=dF (by omega);simp only[Tryz.f28,Gx.row,b0t0,b1t0,b2f0,go_sem];repeat refine sd2 ?_
   refine ⟨(),(so0 hF2)⟩
  have b2t0:decide (1≤g.tr)=true:=dT (by omega);have b2t1:decide (g.tr≥1)=true:=dT (by omega);have hr:g.tries=decide (g.tr≤8):=by unfold Gx.tries;rw[b0t0,b1t0,b2t0];rfl
  rw[hr];simp only[Tryz.f28,Gx.row,b0t0,b1t0,b2t0,go_sem];repeat refine sd2 ?_
  refine ⟨(),(so0 hF2)⟩
 refine vcu ⟨[none,some (.ptr ⟨L+1,0⟩ 0 0),some (.int .i64 0),some (.bool (g.peer==zIni)),some (.bool (zAZ g.peer)),some (.bool g.rest),some (.bool g.tries),some (.bool false)]++oz 129,[(⟨L+1,0⟩,.rows 28 20 true true [g.row])],60000⟩ ?_ ?_
 ·simp only[Tryz.f28,Gx.row,go_sem];repeat refine sd2 ?_
  refine ⟨(),(so0 hF2)⟩
 obtain ⟨al,hal⟩:∃x,x=(g.peer==zIni):=⟨_,rfl⟩;obtain ⟨kn,hkn⟩:∃x,x=zAZ g.peer:=⟨_,rfl⟩;obtain ⟨re,hre⟩:∃x,x=g.rest:=⟨_,rfl⟩;obtain ⟨tr,htr⟩:∃x,x=g.tries:=⟨_,rfl⟩;rw[←hal,←hkn,←hre,←htr];refine vcu ⟨[none,some (.ptr ⟨L+1,0⟩ 0 0),some (.int .i64 0),none,none,none,none,some (.bool g.mid)]++oz 129,[(⟨L+1,0⟩,.rows 28 20 true true [g.row])],70000⟩ ?_ ?_
 ·have hm0:g.mid=if g.st=1 then al&&re else if g.st=2 then al&&tr else if g.st=3∨g.st=5∨g.st=6 then kn&&tr else if g.st=4 then kn&&re else if g.st=7 then (al||kn)&&re else false:=by unfold Gx.mid;rw[←hal,←hkn,←hre,←htr]
  rcases (show g.st=1∨g.st=2∨g.st=3∨g.st=5∨g.st=6∨g.st=4∨g.st=7∨(g.st≠1∧g.st≠2∧g.st≠3∧g.st≠5∧g.st≠6∧g.st≠4∧g.st≠7) by omega) with hs|hs|hs|hs|hs|hs|hs|hs
  rotate_right
  ·have hm:g.mid=false:=by rw[hm0];simp[hs]
   rw[hm];have s1:(g.st==1)=false:=by simp;omega
   have s2:(g.st==2)=false:=by simp;omega
   have s3:(g.st==3)=false:=by simp;omega
   have s5:(g.st==5)=false:=by simp;omega
   have s6:(g.st==6)=false:=by simp;omega
   have s4:(g.st==4)=false:=by simp;omega
   have s7:(g.st==7)=false:=by simp;omega
   simp only[Tryz.f28,Gx.row,s1,s2,s3,s5,s6,s4,s7,go_sem];repeat refine sd2 ?_
   refine ⟨(),(so0 hF2)⟩
  all_goals
   simp only[hs,Int.reduceEq,if_true,if_false,or_true,or_self,or_false]at hm0;rw[hm0];cases al<;>cases kn
   all_goals
    simp only[Tryz.f28,Gx.row,hs,Int.reduceBEq,go_sem];repeat refine sd2 ?_
    refine ⟨(),(so0 hF2)⟩
 clear hal hkn hre htr;refine vcu ⟨[none,some (.ptr ⟨L+1,0⟩ 0 0),some (.int .i64 0),none,none,none,none,some (.bool (g.mid&&g.cko))]++oz 129,[(⟨L+1,0⟩,.rows 28 20 true true [g.row])],80000⟩ ?_ ?_
 ·by_cases hs:g.st=3
  ·have s3:(g.st==3)=true:=by simp;omega
   have hk:g.cko=(!(g.ck== [])&&decide (g.ck.length≤200)):=by unfold Gx.cko;rw[if_pos hs];rfl
   rw[hk];cases hm:g.mid
   ·simp only[Tryz.f28,Gx.row,s3,go_sem];repeat refine sd2 ?_
    refine ⟨(),(so0 hF2)⟩
   cases hn:(g.ck== []);rotate_left
   ·simp only[Tryz.f28,Gx.row,s3,hn,go_sem];repeat refine sd2 ?_
    refine ⟨(),(so0 hF2)⟩
   have hl:decide (((g.ck.length:Nat):Int)≤200)=decide (g.ck.length≤200):=decide_eq_decide.2 (by omega);simp only[Tryz.f28,Gx.row,s3,hn,hl,go_sem];repeat refine sd2 ?_
   refine ⟨(),(so0 hF2)⟩
  ·have s3:(g.st==3)=false:=by simp;omega
   have hk:g.cko=(g.ck== []):=by unfold Gx.cko;rw[if_neg hs]
   rw[hk];cases hm:g.mid
   ·simp only[Tryz.f28,Gx.row,s3,go_sem];repeat refine sd2 ?_
    refine ⟨(),(so0 hF2)⟩
   simp only[Tryz.f28,Gx.row,s3,go_sem];repeat refine sd2 ?_
   refine ⟨(),(so0 hF2)⟩
 refine VT.of (zAg (L+1)) ?_;have hok:g.ok=(g.mid&&g.cko):=by unfold Gx.ok;rw[hhd];rfl
 rw[hok];cases (g.mid&&g.cko)
 ·simp only[Tryz.f28,Gx.row,go_sem];repeat refine sd2 ?_
  exact ps0
 ·simp only[Tryz.f28,Gx.row,go_sem];repeat refine sd2 ?_
  exact ps0
def vN(f:Nat→Bool):Nat→Nat
 |0=>0
 |i+1=>2*vN f i+(f i).toNat
theorem zPY(f:Nat→Bool):∀i j,(vN f i).testBit j=(decide (j<i)&&f (i-1-j))
 |0,j=>by simp[vN]
 |i+1,0=>by
  rw[vN,Nat.testBit_zero];cases h:f i<;>simp[h]<;>omega
 |i+1,j+1=>by
  rw[vN,Nat.testBit_succ];have e:(2*vN f i+(f i).toNat)/2=vN f i:=by cases f i<;>simp<;>omega
  rw[e,zPY f i j];congr 1;·apply decide_eq_decide.2;omega
  ·congr 1;omega
theorem zRq(f:Nat→Bool):∀i,vN f i<2^i
 |0=>by simp[vN]
 |i+1=>by
  have:=zRq f i;rw[vN,Nat.pow_succ];cases f i<;>simp<;>omega
theorem zSm{f:Nat→Bool}{m:Nat}(hm:m<M32)(h:∀i,i<32→m.testBit (31-i)=f i):vN f 32=m:=by
 apply Nat.eq_of_testBit_eq;intro j;rw[zPY];by_cases hj:j<32
 ·rw[decide_eq_true hj,zR,←h _ (by omega)];congr 1;omega
 ·rw[decide_eq_false hj,zX];exact (Nat.testBit_lt_two_pow (vD hm (uI (n:=2) (by omega) (show 32≤j by omega)))).symm
def wB(x:Nat):Nat→Bool:=fun i=>x.testBit (31-i)
def tnB(f:Nat→Bool)(k:Nat):Nat→Bool:=fun i=>f ((i+32-k)%32)
def mvB(f:Nat→Bool)(k:Nat):Nat→Bool:=fun i=>decide (k≤i)&&f (i-k)
def xoB(f g:Nat→Bool):Nat→Bool:=fun i=>f i !=g i
def anB(f g:Nat→Bool):Nat→Bool:=fun i=>f i&&g i
def noB(f:Nat→Bool):Nat→Bool:=fun i=>!f i
def IsW(f:Nat→Bool)(m:Nat):Prop:=m<M32∧∀i,i<32→m.testBit (31-i)=f i
theorem IsW.val{f:Nat→Bool}{m:Nat}(h:IsW f m):vN f 32=m:=zSm h.1 h.2
theorem zHa{x:Nat}(hx:x<M32):IsW (wB x) x:=⟨hx,fun _ _=>rfl⟩
theorem zEh{f:Nat→Bool}{x k:Nat}(h:IsW f x)(h0:0<k)(hk:k<32):IsW (tnB f k) (rtr x k):=by
 refine ⟨zD0 h.1,fun i hi=>?_⟩;rw[zQU x k _ h.1 hk h0 (by omega)];unfold tnB;rw[←h.2 _ (vE _ (by omega))];congr 1;by_cases hik:k≤i;·rw[show (i+32-k)%32=i-k by omega,wD (by omega)];omega
 ·rw[show (i+32-k)%32=i+32-k by omega];omega
theorem zPZ{f:Nat→Bool}{x k:Nat}(h:IsW f x):IsW (mvB f k) (x/2^k):=by
 refine ⟨qA (qC _ _) h.1,fun i hi=>?_⟩;rw[Nat.testBit_div_two_pow];unfold mvB;by_cases hk:k≤i
 ·rw[decide_eq_true hk,zR,←h.2 _ (by omega)];congr 1;omega
 ·rw[decide_eq_false hk,zX];exact Nat.testBit_lt_two_pow (vD h.1 (uI (n:=2) (by omega) (show 32≤31-i+k by omega)))
theorem zD1{f g:Nat→Bool}{x y:Nat}(h:IsW f x)(h':IsW g y):IsW (xoB f g) (x ^^^ y):=by
 refine ⟨Nat.xor_lt_two_pow (n:=32) h.1 h'.1,fun i hi=>?_⟩;rw[Nat.testBit_xor,h.2 i hi,h'.2 i hi];rfl
theorem zJH{f g:Nat→Bool}{x y:Nat}(h:IsW f x)(h':IsW g y):IsW (anB f g) (x &&& y):=by
 refine ⟨Nat.and_lt_two_pow (n:=32) _ h'.1,fun i hi=>?_⟩;rw[Nat.testBit_and,h.2 i hi,h'.2 i hi];rfl
theorem zRr{f:Nat→Bool}{x:Nat}(h:IsW f x):IsW (noB f) (M32-1-x):=by
 have hx:=h.1;refine ⟨by unfold M32 at hx ⊢;omega,fun i hi=>?_⟩;have e:M32-1-x=2^32-(x+1):=by unfold M32;omega
 rw[e,Nat.testBit_two_pow_sub_succ hx,h.2 i hi];simp[noB,show 31-i<32 by omega]
theorem zQV{f:Nat→Bool}{x:Nat}(h:IsW f x):IsW (xoB (xoB (tnB f 7) (tnB f 18)) (mvB f 3)) (sg0 x):=zD1 (zD1 (zEh h (by omega) (by omega)) (zEh h (by omega) (by omega))) (zPZ h)
theorem zQW{f:Nat→Bool}{x:Nat}(h:IsW f x):IsW (xoB (xoB (tnB f 17) (tnB f 19)) (mvB f 10)) (sg1 x):=zD1 (zD1 (zEh h (by omega) (by omega)) (zEh h (by omega) (by omega))) (zPZ h)
theorem zQX{f:Nat→Bool}{x:Nat}(h:IsW f x):IsW (xoB (xoB (tnB f 2) (tnB f 13)) (tnB f 22)) (bg0 x):=zD1 (zD1 (zEh h (by omega) (by omega)) (zEh h (by omega) (by omega))) (zEh h (by omega) (by omega))
theorem zQY{f:Nat→Bool}{x:Nat}(h:IsW f x):IsW (xoB (xoB (tnB f 6) (tnB f 11)) (tnB f 25)) (bg1 x):=zD1 (zD1 (zEh h (by omega) (by omega)) (zEh h (by omega) (by omega))) (zEh h (by omega) (by omega))
theorem zRs{e f g:Nat→Bool}{x y z:Nat}(h:IsW e x)(h1:IsW f y)(h2:IsW g z):IsW (xoB (anB e f) (anB (noB e) g)) (chS x y z):=zD1 (zJH h h1) (zJH (zRr h) h2)
theorem zRt{e f g:Nat→Bool}{x y z:Nat}(h:IsW e x)(h1:IsW f y)(h2:IsW g z):IsW (xoB (xoB (anB e f) (anB e g)) (anB f g)) (mjS x y z):=zD1 (zD1 (zJH h h1) (zJH h h2)) (zJH h1 h2)
theorem zM7{a b:Nat}(ha:a<2^32)(hb:b<2^32):Sx.zFU .and .u32 (a:Int) (b:Int)=((a &&& b:Nat):Int):=by
 show IntKind.u32.wrap ((BitVec.ofInt 32 (a:Int) &&& BitVec.ofInt 32 (b:Int)).toNat:Int)=_;rw[vY,vY,BitVec.toNat_and,vU,vU,wD (by omega),wD (by omega)];have:=Nat.and_lt_two_pow a hb;rw[IntKind.wrap_u32];omega
theorem zSQ{a b:Nat}(ha:a<2^32)(hb:b<2^32):Sx.zFU .or .u32 (a:Int) (b:Int)=((a ||| b:Nat):Int):=by
 show IntKind.u32.wrap ((BitVec.ofInt 32 (a:Int) ||| BitVec.ofInt 32 (b:Int)).toNat:Int)=_;rw[vY,vY,BitVec.toNat_or,vU,vU,wD (by omega),wD (by omega)];have:=Nat.or_lt_two_pow ha hb;rw[IntKind.wrap_u32];omega
theorem zKu{a b:Nat}(ha:a<2^32)(hb:b<2^32):Sx.zFU .xor .u32 (a:Int) (b:Int)=((a ^^^ b:Nat):Int):=by
 show IntKind.u32.wrap ((BitVec.ofInt 32 (a:Int) ^^^ BitVec.ofInt 32 (b:Int)).toNat:Int)=_;rw[vY,vY,BitVec.toNat_xor,vU,vU,wD (by omega),wD (by omega)];have:=Nat.xor_lt_two_pow ha hb;rw[IntKind.wrap_u32];omega
theorem wu64{a:Nat}:IntKind.u64.wrap (a:Int)=((a%2^64:Nat):Int):=by
 simp[IntKind.wrap,IntKind.signed,IntKind.bits]
theorem zKH{a:Nat}:IntKind.u32.wrap (a:Int)=((a%2^32:Nat):Int):=by
 simp[IntKind.wrap,IntKind.signed,IntKind.bits]
theorem zRu{a b:Nat}(ha:a<2^64)(hb:b<2^64):Sx.zFU .and .u64 (a:Int) (b:Int)=((a &&& b:Nat):Int):=by
 show IntKind.u64.wrap ((BitVec.ofInt 64 (a:Int) &&& BitVec.ofInt 64 (b:Int)).toNat:Int)=_;rw[vY,vY,BitVec.toNat_and,vU,vU,wD (by omega),wD (by omega)];have:=Nat.and_lt_two_pow a hb;rw[wu64,wD (by omega)]
theorem zUJ{a b:Nat}(ha:a<2^64)(hb:b<2^64):Sx.zFU .or .u64 (a:Int) (b:Int)=((a ||| b:Nat):Int):=by
 show IntKind.u64.wrap ((BitVec.ofInt 64 (a:Int) ||| BitVec.ofInt 64 (b:Int)).toNat:Int)=_;rw[vY,vY,BitVec.toNat_or,vU,vU,wD (by omega),wD (by omega)];have:=Nat.or_lt_two_pow ha hb;rw[wu64,wD (by omega)]
theorem zRv(a k:Nat):((a:Int)).fdiv (2^min k 64)=((a/2^min k 64:Nat):Int):=by
 rw[Int.fdiv_eq_ediv_of_nonneg _ (Int.le_of_lt (Int.pow_pos (by decide)))];simp
theorem zHw(a k:Nat)(hk:k≤32):((a:Int)).fdiv (2^min k 32)=((a/2^k:Nat):Int):=by
 rw[uN hk,Int.fdiv_eq_ediv_of_nonneg _ (Int.le_of_lt (Int.pow_pos (by decide)))];simp
theorem zSR{a:Nat}(ha:a<2^64):Sx.zFU .and .u64 (a:Int) 4294967295=((a%2^32:Nat):Int):=by
 have:=zRu ha (show 4294967295<2^64 by omega);rw[show ((4294967295:Nat):Int)=4294967295 from rfl]at this;rw[this,show (4294967295:Nat)=2^32-1 from rfl,Nat.and_two_pow_sub_one_eq_mod]
theorem zSn{a:Nat}:Sx.zFU .and .u64 ((a%2^64:Nat):Int) 4294967295=((a%2^64%2^32:Nat):Int):=zSR (vE _ (by omega))
theorem zUK{a:Nat}:((a:Int)).fdiv (2^min 32 64)=((a/2^32:Nat):Int):=zRv a 32
theorem zCG{F:SF}{L nx:Nat}(x k:Nat)(hx:x<M32)(h0:0<k)(hk:k<32):Con Tryz.prog 164 [.int .u32 x,.int .i64 (-(k:Int))] F L nx nx (.int .u32 (rtr x k)) [] []:=by
 have w1:IntKind.u64.wrap (-(k:Int))=((2^64-k:Nat):Int):=by
  simp[IntKind.wrap,IntKind.signed,IntKind.bits];omega
 have e1:Sx.zFU .and .u64 (IntKind.u64.wrap (-(k:Int))) 31=((32-k:Nat):Int):=by
  have:=zRu (a:=2^64-k) (b:=31) (by omega) (by omega);rw[show ((31:Nat):Int)=31 from rfl]at this;rw[w1,this,show (31:Nat)=2^5-1 from rfl,Nat.and_two_pow_sub_one_eq_mod];congr 1;omega
 have e2:IntKind.u64.wrap (32-((32-k:Nat):Int))=(k:Int):=by
  simp[IntKind.wrap,IntKind.signed,IntKind.bits];omega
 have e3:IntKind.u32.wrap ((x:Int)*2^min (32-k) 32)=((x*2^(32-k)%M32:Nat):Int):=by
  rw[uN (by omega)];have:(x:Int)*2^(32-k)=((x*2^(32-k):Nat):Int):=by simp
  rw[this,zKH];rfl
 have e4:=zHw x k (by omega);have e5:Sx.zFU .or .u32 ((x*2^(32-k)%M32:Nat):Int) ((x/2^k:Nat):Int)=((rtr x k:Nat):Int):=zSQ (vE _ (by decide)) (qA (qC _ _) hx);refine bdy Tryz.f164 ?_;intro F3 hF1 hF2;simp only[Tryz.f164,e1,e2,e3,e4,e5,go_sem];repeat refine sd2 ?_
 exact PostF.rs (v0:=.int .u32 (rtr x k)) (.inr rfl)
theorem zEK{F:SF}{L nx:Nat}(x y:Nat)(hx:x<2^64)(hy:y<2^64):Con Tryz.prog 110 [.int .u64 x,.int .u64 y] F L nx nx (.tup [.int .u64 ((x*y/2^64:Nat):Int),.int .u64 ((x*y%2^64:Nat):Int)]) [] []:=by
 have ax:=zSR hx;have ay:=zSR hy;have hi:(((x/2^32)*(y/2^32)%2^64+((x/2^32)*(y%2^32)%2^64+(x%2^32)*(y%2^32)%2^64/2^32)%2^64/2^32)%2^64+(((x/2^32)*(y%2^32)%2^64+(x%2^32)*(y%2^32)%2^64/2^32)%2^64%2^32+(x%2^32)*(y/2^32)%2^64)%2^64/2^32)%2^64=x*y/2^64:=by
  obtain ⟨x1,h1⟩:∃a,a=x/2^32:=⟨_,rfl⟩;obtain ⟨x0,h2⟩:∃a,a=x%2^32:=⟨_,rfl⟩;obtain ⟨y1,h3⟩:∃a,a=y/2^32:=⟨_,rfl⟩;obtain ⟨y0,h4⟩:∃a,a=y%2^32:=⟨_,rfl⟩;have ex:x=x1*2^32+x0:=by omega
  have ey:y=y1*2^32+y0:=by omega
  have hxy:x*y=x1*y1*2^64+(x1*y0+x0*y1)*2^32+x0*y0:=by
   rw[ex,ey,wF,Nat.mul_add,Nat.mul_add];have a1:x1*2^32*(y1*2^32)=x1*y1*2^64:=by
    rw[Nat.mul_mul_mul_comm]
   have a2:x1*2^32*y0=x1*y0*2^32:=by rw[Nat.mul_right_comm]
   have a3:x0*(y1*2^32)=x0*y1*2^32:=by rw[Nat.mul_assoc]
   rw[a1,a2,a3,wF];omega
  have b1:x1≤4294967295:=by omega
  have b2:x0≤4294967295:=by omega
  have b3:y1≤4294967295:=by omega
  have b4:y0≤4294967295:=by omega
  have c1:=uV b1 b3;have c2:=uV b1 b4;have c3:=uV b2 b3;have c4:=uV b2 b4;rw[←h1,←h2,←h3,←h4,hxy];generalize x1*y1=p at *;generalize x1*y0=q at *;generalize x0*y1=r at *;generalize x0*y0=t at *;clear hxy ex ey h1 h2 h3 h4 b1 b2 b3 b4 ax ay hx hy;omega
 refine bdy Tryz.f110 ?_;intro F3 hF1 hF2;simp only[Tryz.f110,ax,ay,zUK,zSn,←qK,←vB,wu64,go_sem];repeat refine sd2 ?_
 simp only[hi];exact PostF.rs (v0:=.tup [.int .u64 ((x*y/2^64:Nat):Int),.int .u64 ((x*y%2^64:Nat):Int)]) (.inr rfl)
theorem or_bit(x n:Nat)(h:2^(n+1) ∣ x):x ||| 2^n=x+2^n:=by
 obtain ⟨c,rfl⟩:=h;rw[Nat.two_pow_add_eq_or_of_lt (Nat.pow_lt_pow_right (by omega) (by omega))]
theorem zM8(e:Nat→Bool)(x i:Nat)(h:i<37):zEJ e x (37-i)=zEJ e (if e (x+2^(36-i)) then x+2^(36-i) else x) (37-(i+1)):=by
 rw[show 37-i=(36-i)+1 by omega,zEJ,show 37-(i+1)=36-i by omega]
theorem zOu{x i:Nat}(hi:i<37)(h:2^(37-i) ∣ x)(hx:x<2^37):2^(36-i) ∣ x∧2^(36-i) ∣ x+2^(36-i)∧x+2^(36-i)<2^37:=by
 obtain ⟨c,rfl⟩:=h;have e:2^(37-i)=2*2^(36-i):=by rw[show 37-i=(36-i)+1 by omega,Nat.pow_succ];omega
 have e2:(2:Nat)^37=2^i*2^(37-i):=by rw[←Nat.pow_add];congr 1;omega
 have hc:c<2^i:=by
  rw[e2,vL]at hx;exact Nat.lt_of_mul_lt_mul_right hx
 have h1:2^(37-i)*(c+1)≤2^37:=by rw[e2,vL];exact wN _ hc
 have hp:0<2^(36-i):=Nat.two_pow_pos _;rw[Nat.mul_add,wG]at h1;refine ⟨⟨2*c,by rw[e,Nat.mul_assoc,Nat.mul_left_comm]⟩,⟨2*c+1,by rw[e,Nat.mul_add,wG,Nat.mul_assoc,Nat.mul_left_comm]⟩,by omega⟩
theorem zM9{F:SF}{L nx:Nat}(g:FuncId)(cl:List PV)(e:Nat→Bool)(rd:List Nm)(hrd:∀n∈rd,n.l≤L)(hcl:∀x:Nat,x<2^37→∀L' nx',L≤L'→Con Tryz.prog g ([.int .u64 x]++cl) F L' nx' nx' (.bool (e x)) [] rd):
  Con Tryz.prog 147 [.fn (.func g) [] cl] F L nx nx (.int .u32 ((zEJ e 0 37%M32:Nat):Int)) [] rd:=by
 refine bdy Tryz.f147 (hrd:=hrd) ?_;intro F3 hF1 hF2;simp only[Tryz.f147,go_sem];refine loopK.intro _ _ (I:=fun z:Nat×Nat=>⟨[some (.fn (.func g) [] cl),none,none,some (.int .u64 z.2),some (.int .u64 ((2^36/2^z.1:Nat):Int))]++oz 15,[],10000*(z.1+1)⟩)
  (pre:=fun z=>z.1≤37∧zEJ e 0 37=zEJ e z.2 (37-z.1)∧2^(37-z.1) ∣ z.2∧z.2<2^37) (μ:=fun z=>37-z.1) (0,0) ⟨by simp,by simp,by simp,by simp⟩ ?_ ?_
 ·refine Sub.of (hfz hF2) (by simp only[go_sem,zAf];try trivial) ?_ (by simp[zAs]) (by simp);simp[zAi]
 rintro ⟨i,x⟩ ⟨hi,hg,hd,hx⟩
 simp only at hi hg hd hx ⊢;by_cases hlt:i<37
 ·have hb:2^36/2^i=2^(36-i):=Nat.pow_div (by omega) (by omega);have hp:0<2^(36-i):=Nat.two_pow_pos _;have hbl:2^(36-i)≤2^36:=uI (by omega) (by omega);have hs:2^(36-i)/2^1=2^36/2^(i+1):=by rw[←hb,Nat.div_div_eq_div_mul,←Nat.pow_add]
  have hor:=or_bit x (36-i) (by rw[show 36-i+1=37-i by omega];exact hd);have hst:=zM8 e x i hlt;obtain ⟨d1,d2,d3⟩:=zOu hlt hd hx;rw[hb];obtain ⟨b,hbb⟩:∃b,b=2^(36-i):=⟨_,rfl⟩;rw[←hbb]at hp hbl hs hor hst d1 d2 d3 ⊢;have g1:decide ((0:Int)<(b:Int))=true:=dT (by omega);have e1:Sx.zFU .or .u64 (x:Int) (b:Int)=((x+b:Nat):Int):=by rw[zUJ (by omega) (by omega),hor]
  have e2:((b:Nat):Int).fdiv (2^min 1 64)=((2^36/2^(i+1):Nat):Int):=by
   rw[zRv b 1,←hs];rfl
  simp only[g1,e1,zA,go_sem];repeat refine sd2 ?_
  refine CallVC.same ((hcl (x+b) d3 _ _ (by omega)).agree hF1) ?_;cases he:e (x+b) with
  |true=>
   rw[he,if_pos rfl]at hst;simp only[e1,e2,zA,go_sem];repeat refine sd2 ?_
   refine ⟨(i+1,x+b),⟨by simp only[];omega,by simp only[];rw[hg,hst],by simp only[];rw[show 37-(i+1)=36-i by omega,←hbb];exact d2,d3⟩,by simp only[];omega,?_⟩;refine Sub.of (hfz hF2) (by simp only[go_sem,zAf,and_self];try trivial) ?_ (by simp[zAs]) (by simp only[];omega);simp[zAi]
  |false=>
   rw[he,if_neg (by simp)]at hst;simp only[e2,zA,go_sem];repeat refine sd2 ?_
   refine ⟨(i+1,x),⟨by simp only[];omega,by simp only[];rw[hg,hst],by simp only[];rw[show 37-(i+1)=36-i by omega,←hbb];exact d1,hx⟩,by simp only[];omega,?_⟩;refine Sub.of (hfz hF2) (by simp only[go_sem,zAf,and_self];try trivial) ?_ (by simp[zAs]) (by simp only[];omega);simp[zAi]
 ·obtain rfl:i=37:=by omega
  have g1:decide ((0:Int)<((2^36/2^37:Nat):Int))=false:=by decide
  have hgx:zEJ e 0 37=x:=by rw[hg];rfl
  have e3:=zSR (a:=x) (by omega);have e4:IntKind.u32.wrap ((x%2^32:Nat):Int)=((x%M32:Nat):Int):=by
   rw[zKH,Nat.mod_mod];rfl
  rw[hgx];simp only[g1,e3,e4,go_sem];repeat refine sd2 ?_
  exact PostF.rs (v0:=.int .u32 ((x%M32:Nat):Int)) (.inr rfl)
theorem zNA(v:Nat):v=v/2^64*2^64+v%2^64:=by omega
theorem zRw{x p:Nat}:decide (x*x*x≤p*2^96)=(decide (x*x/2^64*x+x*x%2^64*x/2^64<p*2^32)||(decide (x*x/2^64*x+x*x%2^64*x/2^64=p*2^32)&&decide (x*x%2^64*x%2^64=0))):=by
 obtain ⟨v,hv⟩:∃v,v=x*x:=⟨_,rfl⟩;rw[←hv];have h1:v*x=v/2^64*x*2^64+v%2^64*x:=by
  have h:=zNA v;have:v*x=(v/2^64*2^64+v%2^64)*x:=by rw[←h]
  rw[this,wF,Nat.mul_right_comm]
 have h2:=zNA (v%2^64*x);rw[h1];generalize v/2^64*x=a at *;generalize v%2^64*x=b at *;rw[←Bool.decide_and,←Bool.decide_or];apply decide_eq_decide.2;omega
theorem zSo{x p:Nat}:decide (x*x≤p*2^64)=(decide (x*x/2^64<p)||(decide (x*x/2^64=p)&&decide (x*x%2^64=0))):=by
 rw[←Bool.decide_and,←Bool.decide_or];apply decide_eq_decide.2;omega
theorem zRx(a b:Nat):((a:Int)==(b:Int))=decide (a=b):=by
 by_cases h:a=b;·rw[decide_eq_true h,h];simp
 ·rw[decide_eq_false h];simp;omega
theorem zRy(a:Nat):((a:Int)==0)=decide (a=0):=zRx a 0
theorem ltN(a b:Nat):decide ((a:Int)<(b:Int))=decide (a<b):=decide_eq_decide.2 (by omega)
theorem zNB{F:SF}{L nx:Nat}(q:Nm)(hq:q.l≤L)(o pu:Bool)(x p:Nat)(hx:x<2^37)(hp:p<2^20)(hF:F q=some (.rows 143 1 o pu [[.int .u64 p]])):Con Tryz.prog 148 [.int .u64 x,.ptr q 0 0] F L nx nx (.bool (enK p x)) [] [q]:=by
 have m1:=fun F L nx=>zEK (F:=F) (L:=L) (nx:=nx) x x (by omega) (by omega)
 have m2:=fun F L nx=>zEK (F:=F) (L:=L) (nx:=nx) (x*x%2^64) x (vE _ (by omega)) (by omega)
 have hxx:x*x<2^74:=by
  have:=Nat.mul_lt_mul'' hx hx;omega
 have hh:x*x/2^64<2^10:=by omega
 have hhx:x*x/2^64*x<2^47:=by
  have:=Nat.mul_lt_mul'' hh hx;omega
 have ht:x*x%2^64*x/2^64≤x:=by
  apply Nat.div_le_of_le_mul;exact wN _ (Nat.le_of_lt (vE _ (by omega)))
 have e0:enK p x=(decide (x*x/2^64*x+x*x%2^64*x/2^64<p*2^32)||(decide (x*x/2^64*x+x*x%2^64*x/2^64=p*2^32)&&decide (x*x%2^64*x%2^64=0))):=zRw;rw[e0];obtain ⟨hi,h1⟩:∃v,v=x*x/2^64:=⟨_,rfl⟩;obtain ⟨lo,h2⟩:∃v,v=x*x%2^64:=⟨_,rfl⟩;obtain ⟨tp,h3⟩:∃v,v=lo*x/2^64:=⟨_,rfl⟩;obtain ⟨a,h4⟩:∃v,v=lo*x%2^64:=⟨_,rfl⟩;rw[←h2]at m2 ht;rw[←h1,←h2]at m1;rw[←h3,←h4]at m2;rw[←h1]at hh hhx;rw[←h3]at ht;rw[←h1,←h2,←h3,←h4];have e1:IntKind.u64.wrap ((hi:Int)*(x:Int))=((hi*x:Nat):Int):=by
  rw[←qK,wu64,wD (by omega)]
 have e2:IntKind.u64.wrap (((hi*x:Nat):Int)+(tp:Int))=((hi*x+tp:Nat):Int):=by
  rw[←vB,wu64,wD (by omega)]
 have e3:IntKind.u64.wrap ((p:Int)*2^min 32 64)=((p*2^32:Nat):Int):=by
  have:(p:Int)*2^min 32 64=((p*2^32:Nat):Int):=by simp
  rw[this,wu64,wD (by omega)]
 clear e0 h1 h2 h3 h4 hxx;refine bdy Tryz.f148 (hrd:=(by simpa using hq)) ?_;intro F3 hF1 hF2;have hFq:=(hF1 q (by simp)).trans hF;simp only[Tryz.f148,go_sem];refine CallVC.same (m1 _ _ _) ?_;simp only[go_sem];refine CallVC.same (m2 _ _ _) ?_;cases d1:decide (hi*x+tp<p*2^32) with
 |true=>
  simp only[hFq,e1,e2,e3,ltN,d1,go_sem];repeat refine sd2 ?_
  exact .bool (.inr rfl) rfl rfl (by simp[UpdAll])
 | false=>
  cases d2:decide (hi*x+tp=p*2^32) with
  |true=>
   simp only[hFq,e1,e2,e3,ltN,zRx,zRy,d1,d2,go_sem];repeat refine sd2 ?_
   exact .bool (.inr rfl) rfl rfl (by simp[UpdAll])
  |false=>
   simp only[hFq,e1,e2,e3,ltN,zRx,d1,d2,go_sem];repeat refine sd2 ?_
   exact .bool (.inr rfl) rfl rfl (by simp[UpdAll])
theorem zNC{F:SF}{L nx:Nat}(q:Nm)(hq:q.l≤L)(o pu:Bool)(x p:Nat)(hx:x<2^37)(hp:p<2^20)(hF:F q=some (.rows 143 1 o pu [[.int .u64 p]])):Con Tryz.prog 149 [.int .u64 x,.ptr q 0 0] F L nx nx (.bool (enH p x)) [] [q]:=by
 have m1:=fun F L nx=>zEK (F:=F) (L:=L) (nx:=nx) x x (by omega) (by omega)
 have e0:enH p x=(decide (x*x/2^64<p)||(decide (x*x/2^64=p)&&decide (x*x%2^64=0))):=zSo;rw[e0];obtain ⟨hi,h1⟩:∃v,v=x*x/2^64:=⟨_,rfl⟩;obtain ⟨lo,h2⟩:∃v,v=x*x%2^64:=⟨_,rfl⟩;rw[←h1,←h2]at m1;rw[←h1,←h2];clear e0 h1 h2;refine bdy Tryz.f149 (hrd:=(by simpa using hq)) ?_;intro F3 hF1 hF2;have hFq:=(hF1 q (by simp)).trans hF;simp only[Tryz.f149,go_sem];refine CallVC.same (m1 _ _ _) ?_;cases d1:decide (hi<p) with
 |true=>
  simp only[hFq,ltN,d1,go_sem];repeat refine sd2 ?_
  exact .bool (.inr rfl) rfl rfl (by simp[UpdAll])
 | false=>
  cases d2:decide (hi=p) with
  |true=>
   simp only[hFq,ltN,zRx,zRy,d1,d2,go_sem];repeat refine sd2 ?_
   exact .bool (.inr rfl) rfl rfl (by simp[UpdAll])
  |false=>
   simp only[hFq,ltN,zRx,d1,d2,go_sem];repeat refine sd2 ?_
   exact .bool (.inr rfl) rfl rfl (by simp[UpdAll])
def pz:List Nat:=[2,3,5,7,11,13,17,19,23,29,31,37,41,43,47,53,59,61,67,71,73,79,83,89,97,101,103,107,109,113,127,131,137,139,149,151,157,163,167,173,179,181,191,193,197,199,211,223,227,229,233,239,241,251,257,263,269,271,277,281,283,293,307,311]
theorem zRz:prms=pz:=by kernel_rfl
def cnt(p:Nat):Nat:=(pz.filter fun q=>decide (q<p)).length
def flg(p d:Nat):Bool:=(List.range d).all fun x=>decide (x<2)||p%x !=0
theorem zOv(p d:Nat)(h:2≤d):flg p (d+1)=(flg p d&&p%d !=0):=by
 unfold flg;rw[List.range_succ,List.all_append];simp[show ¬d<2 by omega]
def kC:List Nat:=pz.map fun p=>zEJ (enK p) 0 37%M32
def hC:List Nat:=(pz.take 8).map fun p=>zEJ (enH p) 0 37%M32
theorem zSp:kT=kC:=by unfold kT kC;rw[zRz]
theorem zSq:hT=hC:=by unfold hT hC;rw[zRz]
theorem zPa:kC.length=64:=by simp[kC,pz]
theorem zPb:hC.length=8:=by simp[hC,pz]
def zSS(p:Nat):Bool:=
 (List.range 20).all (fun d=>!(decide (2≤d)&&(decide ((d-1)*(d-1)≤p)||d==2)&&decide (p<d*d))||flg p d==pz.contains p)&&
 (cnt (p+1)==(if pz.contains p then cnt p+1 else cnt p))&&decide (cnt p<64)&&(!pz.contains p||pz.getD (cnt p) 0==p)
theorem zQZ:((List.range 312).all fun p=>decide (p<2)||zSS p)=true:=by kernel_rfl
theorem zPc{p:Nat}(h2:2≤p)(h:p<312):zSS p=true:=by
 have:=List.all_eq_true.1 zQZ p (by simpa using h);simpa[show ¬p<2 by omega] using this
theorem zQa{p d:Nat}(h2:2≤p)(h:p<312)(hd:2≤d)(hd2:(d-1)*(d-1)≤p∨d=2)(hd3:p<d*d):flg p d=pz.contains p:=by
 have hc:=zPc h2 h;unfold zSS at hc;simp only[zC]at hc;have hd20:d<20:=by
  rcases hd2 with h5|h5
  ·apply Classical.byContradiction;intro h6;have:19*19≤(d-1)*(d-1):=uV (by omega) (by omega);omega
  ·omega
 have:=List.all_eq_true.1 hc.1.1.1 d (by simpa using hd20);rcases hd2 with h5|h5;·simpa[hd,h5,hd3] using this
 ·subst h5;simpa[hd3] using this
theorem zGT{p:Nat}(h2:2≤p)(h:p<312):cnt (p+1)=(if pz.contains p then cnt p+1 else cnt p)∧cnt p<64∧(pz.contains p=true→pz.getD (cnt p) 0=p):=by
 have hc:=zPc h2 h;unfold zSS at hc;simp only[zC,beq_iff_eq,decide_eq_true_eq,vV,qM]at hc;refine ⟨hc.1.1.2,hc.1.2,fun hp=>?_⟩;rcases hc.2 with h5|h5;·rw[h5]at hp;cases hp
 ·exact h5
theorem zIb:cnt 2=0:=by kernel_rfl
theorem zIc:cnt 312=64:=by kernel_rfl
theorem zSr{p:Nat}(h2:2≤p)(h:p<312)(hp:pz.contains p=true):kC.getD (cnt p) 0=zEJ (enK p) 0 37%M32:=by
 obtain ⟨_,h5,h6⟩:=zGT h2 h;have hl:cnt p<pz.length:=by simpa[pz] using h5
 have h7:=h6 hp;simp only[zE,zS hl,vT]at h7;unfold kC;rw[zE,wE,zS hl,h7,wJ,vT]
theorem zSs{p:Nat}(h2:2≤p)(h:p<312)(hp:pz.contains p=true)(h8:cnt p<8):hC.getD (cnt p) 0=zEJ (enH p) 0 37%M32:=by
 obtain ⟨_,h5,h6⟩:=zGT h2 h;have hl:cnt p<pz.length:=by simpa[pz] using h5
 have h7:=h6 hp;simp only[zE,zS hl,vT]at h7;unfold hC;rw[zE,wE,uB,if_pos h8,zS hl,h7,wJ,vT]
def wA(l:List Nat)(N n:Nat):List PV:=(List.range N).map fun i=>.int .u32 ((if i<n then l.getD i 0 else 0:Nat):Int)
theorem zF4(l:List Nat)(N n:Nat):(wA l N n).length=N:=by simp[wA]
theorem zKv(l:List Nat)(N n v:Nat)(hn:n<N)(hv:v=l.getD n 0):(wA l N n).take n++[.int .u32 v]++(wA l N n).drop (n+1)=wA l N (n+1):=by
 have h:(wA l N n).set n (.int .u32 v)=wA l N (n+1):=by
  apply uQ (by simp only[List.length_set,zF4]);intro k h1 h2;rw[List.getElem_set];simp only[wA,qE,List.getElem_range];split
  ·subst_vars;simp
  ·have e:(k<n)=(k<n+1):=by apply propext;omega
   simp only[e]
 rw[←h,List.set_eq_take_append_cons_drop,if_pos (by rw[zF4];exact hn)];simp
theorem zND(l:List Nat)(N:Nat):wA l N 0=List.replicate N (.int .u32 0):=by
 apply uQ (by simp[wA]);intro k h1 h2;simp[wA]
theorem zKI(l:List Nat)(N n:Nat)(h:N≤n):wA l N n=wA l N N:=by
 apply uQ (by simp only[zF4]);intro k h1 h2;have:k<N:=by rw[zF4]at h1;exact h1
 simp[wA,this,show k<n by omega]
def eW(w:Nat):PV:=.int .u32 w
theorem zPd(l:List Nat)(N:Nat)(h:l.length=N):wA l N N=l.map eW:=by
 apply uQ (by simp[wA,h]);intro k h1 h2;have hk:k<N:=by rw[zF4]at h1;exact h1
 simp[wA,hk,eW,zE,show k<l.length by omega]
theorem zR0(l:List Nat)(N n:Nat):nfl (wA l N n)=true:=by
 unfold wA;generalize List.range N=r;induction r with
 |nil=>rfl
 |cons a r ih=>
  rw[zL];simp only[nfl,Tx.nf,zR];exact ih
theorem zJI{F:SF}{L nx:Nat}:Con Tryz.prog 143 [] F L nx nx (.tup [.agg (hT.map eW),.agg (kT.map eW)]) [] []:=by
 rw[zSp,zSq];refine bdy Tryz.f143 ?_;intro F3 hF1 hF2;simp only[Tryz.f143,go_sem];repeat refine sd2 ?_
 refine loopK.intro _ _ (I:=fun z:Nat×Nat=>⟨[some (.ptr ⟨L+1,0⟩ 0 0),some (.ptr ⟨L+1,32⟩ 0 0),some (.int .i64 (cnt z.1)),some (.ptr ⟨L+1,z.2⟩ 0 0)]++oz 37,
  [(⟨L+1,0⟩,.rows 219 8 true true [wA hC 8 (cnt z.1)]),(⟨L+1,32⟩,.rows 220 64 true true [wA kC 64 (cnt z.1)]),(⟨L+1,z.2⟩,.rows 143 1 true true [[.int .u64 z.1]])],10000*(100*z.1+1)⟩)
  (pre:=fun z=>2≤z.1∧z.1≤312∧96≤z.2∧z.2<10000*(100*z.1+1)) (μ:=fun z=>312-z.1) (2,96) ⟨by simp,by simp,by simp,by simp⟩ ?_ ?_
 ·refine Sub.of (hfz hF2) (by simp only[zIb,go_sem,zAf,and_self];try trivial) ?_ (by simp[zAs,keys]) (by simp);simp only[zAi,Tx.look,zIb,zND,zCU,and_true,List.replicate,go_sem];try simp
 rintro ⟨p,q⟩ ⟨hp2,hp3,hq1,hq2⟩
 simp only at hp2 hp3 hq1 hq2 ⊢;obtain ⟨i,hi⟩:∃i,i=100*p:=⟨_,rfl⟩;rw[←hi]at hq2 ⊢;have hl1:=zF4 hC 8 (cnt p);have hl2:=zF4 kC 64 (cnt p);have q_0:(q=0)=False:=by apply eq_false;omega
 have n0_q:(0=q)=False:=by apply eq_false;omega
 have q_32:(q=32)=False:=by apply eq_false;omega
 have n32_q:(32=q)=False:=by apply eq_false;omega
 obtain ⟨q_n1,q_n2,q_n3,q_n4,q_n5⟩:=nqL L (i:=i) (p:=q) (by omega);by_cases hlt:p<312
 ·obtain ⟨hc1,hc2,hc3⟩:=zGT hp2 hlt;have g1:decide (((cnt p:Nat):Int)<64)=true:=dT (by omega);simp only[g1,zA,go_sem];repeat refine sd2 ?_
  refine loopK.intro _ _ (I:=fun d:Nat=>⟨[some (.ptr ⟨L+1,0⟩ 0 0),some (.ptr ⟨L+1,32⟩ 0 0),some (.int .i64 (cnt p)),some (.ptr ⟨L+1,q⟩ 0 0),some (.bool (flg p d)),some (.int .u64 d)]++oz 35,
   [(⟨L+1,0⟩,.rows 219 8 true true [wA hC 8 (cnt p)]),(⟨L+1,32⟩,.rows 220 64 true true [wA kC 64 (cnt p)]),(⟨L+1,q⟩,.rows 143 1 true true [[.int .u64 p]])],10000*(i+d)⟩)
   (pre:=fun d=>2≤d∧((d-1)*(d-1)≤p∨d=2)∧d≤30) (μ:=fun d=>400-d) 2 ⟨by omega,by omega,by omega⟩ ?_ ?_
  ·have hf2:flg p 2=true:=by simp[flg,List.range,List.range.loop]
   refine Sub.of (hfz hF2) (by simp only[hf2,go_sem,zAf];try trivial) ?_ (by simp[zAs,keys]) (by simp only[];omega);simp[zAi,Tx.look,q_0,q_32]
  rintro d ⟨hd1,hd2,hd3⟩
  have e1:IntKind.u64.wrap ((d:Int)*(d:Int))=((d*d:Nat):Int):=by
   have:d*d≤30*30:=uV hd3 hd3;rw[←qK,wu64,wD (by omega)]
  by_cases hdd:d*d≤p
  ·have hd20:d≤18:=by
    apply Classical.byContradiction;intro h6;have:19*19≤d*d:=uV (by omega) (by omega);omega
   have g2:decide (((d*d:Nat):Int)≤(p:Int))=true:=dT (by omega);have e2:((p:Int)).tmod (d:Int)=((p%d:Nat):Int):=by
    rw[wY (by omega)];rfl
   have e3:(((p%d:Nat):Int) !=0)=(p%d !=0):=by
    generalize p%d=m;cases m with
    |zero=>rfl
    |succ m=>simp;omega
   have e4:IntKind.u64.wrap ((d:Int)+1)=((d+1:Nat):Int):=by
    have:(d:Int)+1=((d+1:Nat):Int):=by omega
    rw[this,wu64,wD (by omega)]
   have hs:=zOv p d hd1;cases hf:flg p d with
   |true=>
    rw[hf,zR]at hs;simp only[e1,g2,e2,e3,e4,q_0,q_32,zA,go_sem];repeat refine sd2 ?_
    refine ⟨d+1,⟨by omega,.inl (by rw[Nat.add_sub_cancel];exact hdd),by omega⟩,by omega,?_⟩;rw[hs];refine Sub.of (hfz hF2) (by simp only[go_sem,zAf,and_self];try trivial) ?_ (by simp[zAs,keys]) (by simp only[];omega);simp[zAi,Tx.look,q_0,q_32]
   |false=>
    rw[hf,zX]at hs;simp only[e1,g2,e4,q_0,q_32,zA,go_sem];repeat refine sd2 ?_
    refine ⟨d+1,⟨by omega,.inl (by rw[Nat.add_sub_cancel];exact hdd),by omega⟩,by omega,?_⟩;rw[hs];refine Sub.of (hfz hF2) (by simp only[go_sem,zAf,and_self];try trivial) ?_ (by simp[zAs,keys]) (by simp only[];omega);simp[zAi,Tx.look,q_0,q_32]
  ·have g2:decide (((d*d:Nat):Int)≤(p:Int))=false:=dF (by omega);have hfe:=zQa hp2 hlt hd1 hd2 (by omega);rw[hfe];obtain ⟨i,hi9⟩:∃j,j+1=i+d:=⟨i+d-1,by omega⟩;rw[←hi9];have hq3:q<10000*(i+1):=by omega
   have q_0:(q=0)=False:=by apply eq_false;omega
   have n0_q:(0=q)=False:=by apply eq_false;omega
   have q_32:(q=32)=False:=by apply eq_false;omega
   have n32_q:(32=q)=False:=by apply eq_false;omega
   obtain ⟨q_n1,q_n2,q_n3,q_n4,q_n5⟩:=nqL L (i:=i) (p:=q) (by omega);have e5:IntKind.u64.wrap ((p:Int)+1)=((p+1:Nat):Int):=by
    have:(p:Int)+1=((p+1:Nat):Int):=by omega
    rw[this,wu64,wD (by omega)]
   cases hcp:pz.contains p with
   |false=>
    rw[hcp,if_neg (by simp)]at hc1;simp only[e1,g2,e5,q_0,n0_q,q_32,n32_q,q_n1,kS2,zA,go_sem];repeat refine sd2 ?_
    refine ⟨(p+1,10000*(i+1)+256),⟨by simp only[];omega,by simp only[];omega,by simp only[];omega,by simp only[];omega⟩,by simp only[];omega,?_⟩;simp only[hc1];refine Sub.of (hfz hF2) (by simp only[go_sem,zAf,and_self];try trivial) ?_ (by simp[zAs,keys]) (by simp only[];omega);simp[zAi,Tx.look,q_n1]
   | true=>
    rw[hcp,if_pos rfl]at hc1;have hk:=zSr hp2 hlt hcp;have hw:=zKv kC 64 (cnt p) _ (by omega) hk.symm;have f1:∀(F:SF) (L2 nx2:Nat),L+1≤L2→F ⟨L+1,q⟩=some (.rows 143 1 true true [[.int .u64 p]])→Con Tryz.prog 147 [.fn (.func 148) [] [.ptr ⟨L+1,q⟩ 0 0]] F L2 nx2 nx2 (.int .u32 ((zEJ (enK p) 0 37%M32:Nat):Int)) [] [⟨L+1,q⟩]:=fun F L2 nx2 hL hF=>
     zM9 148 [.ptr ⟨L+1,q⟩ 0 0] (enK p) [⟨L+1,q⟩] (by simpa using hL) fun x hx L' nx' hL'=>zNB ⟨L+1,q⟩ (by show L+1≤L';omega) true true x p hx (by omega) hF
    have f2:∀(F:SF) (L2 nx2:Nat),L+1≤L2→F ⟨L+1,q⟩=some (.rows 143 1 true true [[.int .u64 p]])→Con Tryz.prog 147 [.fn (.func 149) [] [.ptr ⟨L+1,q⟩ 0 0]] F L2 nx2 nx2 (.int .u32 ((zEJ (enH p) 0 37%M32:Nat):Int)) [] [⟨L+1,q⟩]:=fun F L2 nx2 hL hF=>
     zM9 149 [.ptr ⟨L+1,q⟩ 0 0] (enH p) [⟨L+1,q⟩] (by simpa using hL) fun x hx L' nx' hL'=>zNC ⟨L+1,q⟩ (by show L+1≤L';omega) true true x p hx (by omega) hF
    obtain ⟨u,hu⟩:∃u,u=zEJ (enK p) 0 37%M32:=⟨_,rfl⟩;rw[←hu]at hw f1;simp only[e1,g2,e5,q_0,n0_q,q_32,n32_q,q_n1,kS2,zA,go_sem];repeat refine sd2 ?_
    refine CallVC.same (f1 _ _ _ (by omega) (by simp[q_0,q_32])) ?_;by_cases h8:cnt p<8
    ·have g8:decide (((cnt p:Nat):Int)<8)=true:=dT (by omega);have hk8:=zSs hp2 hlt hcp h8;have hw8:=zKv hC 8 (cnt p) _ h8 hk8.symm;obtain ⟨v,hv⟩:∃v,v=zEJ (enH p) 0 37%M32:=⟨_,rfl⟩;rw[←hv]at hw8 f2;simp only[hw,g8,wG,n32_q,zA,go_sem];repeat refine sd2 ?_
     refine CallVC.same (f2 _ _ _ (by omega) (by simp[q_0,q_32])) ?_;simp only[hw8,e5,wG,q_0,n0_q,q_32,q_n1,kS2,zA,go_sem];repeat refine sd2 ?_
     refine ⟨(p+1,10000*(i+1)+672),⟨by simp only[];omega,by simp only[];omega,by simp only[];omega,by simp only[];omega⟩,by simp only[];omega,?_⟩;simp only[hc1];refine Sub.of (hfz hF2) (by simp only[go_sem,zAf,and_self,zY];try trivial) ?_ (by simp[zAs,keys]) (by simp only[];omega);simp[zAi,Tx.look,q_n1]
    ·have g8:decide (((cnt p:Nat):Int)<8)=false:=dF (by omega);simp only[hw,g8,e5,wG,q_0,q_32,n32_q,q_n1,kS2,zA,go_sem];repeat refine sd2 ?_
     have ho:wA hC 8 (cnt p+1)=wA hC 8 (cnt p):=by rw[zKI _ _ _ (show 8≤cnt p+1 by omega),zKI _ _ (cnt p) (by omega)]
     refine ⟨(p+1,10000*(i+1)+544),⟨by simp only[];omega,by simp only[];omega,by simp only[];omega,by simp only[];omega⟩,by simp only[];omega,?_⟩;simp only[hc1,ho];refine Sub.of (hfz hF2) (by simp only[go_sem,zAf,and_self,zY];try trivial) ?_ (by simp[zAs,keys]) (by simp only[];omega);simp[zAi,Tx.look,q_n1]
 ·obtain rfl:p=312:=by omega
  have g1:decide (((cnt 312:Nat):Int)<64)=false:=by rw[zIc];rfl
  have n8:=zR0 hC 8 (cnt 312);have n64:=zR0 kC 64 (cnt 312);have v8:wA hC 8 (cnt 312)=hC.map eW:=by rw[zIc,zKI _ _ _ (by omega),zPd _ _ zPb]
  have v64:wA kC 64 (cnt 312)=kC.map eW:=by rw[zIc,zPd _ _ zPa]
  simp only[g1,hl1,hl2,n8,n64,n0_q,n32_q,zA,go_sem];repeat refine sd2 ?_
  refine ⟨zAA (fun x=>x.i) (by kernel_rfl),?_⟩;rw[←v8,←v64];have r8:List.drop 8 (wA hC 8 (cnt 312))=[]:=uD (by omega);have r64:List.drop 64 (wA kC 64 (cnt 312))=[]:=uD (by omega);exact ps0 (by simp only[r8,r64,go_sem]) (hf:=by simp[Tx.nf,nfl,n8,n64,Bool.and_self])
end Go.Proofs.YtifhjhbfhdcahaaGreat
end
