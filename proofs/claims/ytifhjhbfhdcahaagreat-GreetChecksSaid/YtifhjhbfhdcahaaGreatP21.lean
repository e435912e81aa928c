/- Lemmas for the walk: GK150, GK140, GK141. -/
import Derived.Test.YtifhjhbfhdcahaaGreatP14
import Derived.Test.YtifhjhbfhdcahaaGreatP20
import Derived.Test.YtifhjhbfhdcahaaGreatP17
import Derived.Test.YtifhjhbfhdcahaaGreatP15
set_option linter.all false
section
namespace Go.Proofs.YtifhjhbfhdcahaaGreat
open Go.Tx
set_option maxRecDepth 100000
set_option maxHeartbeats 16000000
theorem zJV{F:SF}{L nx:Nat}(d:Ini):Con Tryz.prog 64 [.agg d.row] F L nx nx (.bool (zAZ d)) [] []:=by
 have hp:=fun F L nx=>zDY (F:=F) (L:=L) (nx:=nx) d
 unfold zAZ;simp only[Ini.row]at hp ⊢;refine bdy Tryz.f64 ?_;intro F3 hF1 hF2;cases hd:d.ok;all_goals
  rw[hd]at hp;simp only[Tryz.f64,zX,zR,go_sem];refine CallVC.same (hp _ _ _) ?_;simp only[go_sem];exact .bool (.inr rfl) rfl rfl (by simp[UpdAll])
theorem zGW{F:SF}{L nx:Nat}(t:Int):Con Tryz.prog 34 [.int .i64 t] F L nx nx (.bool (zEg t)) [] []:=by
 unfold zEg;refine bdy Tryz.f34 ?_;intro F3 hF1 hF2;cases h1:decide (0≤t);all_goals
  simp only[Tryz.f34,h1,zX,zR,go_sem];exact .bool (.inr rfl) rfl rfl (by simp[UpdAll])
theorem zLG(d:Ini):(d.tag==0&&(d.win==0&&(d.out==0&&(d.inn==0&&(d.tsn==0&&d.ck== [])))))=(d==zIni):=by
 obtain ⟨a,b,c,e,f,k⟩:=d;rw[qB];simp[zIni]
theorem zUZ{g:Gx}(h:g.ok=true):g.hd=true∧g.mid=true:=by
 unfold Gx.ok at h;simp only[zC]at h;exact h.1
theorem zLH{g:Gx}(h:g.mid=true):1≤g.st∧g.st≤7:=by
 unfold Gx.mid at h;by_cases h1:1≤g.st∧g.st≤7;·exact h1
 ·rw[if_neg (by omega),if_neg (by omega),if_neg (by omega),if_neg (by omega),if_neg (by omega)]at h;cases h
theorem zEu{F:SF}{L nx:Nat}(g:Gx):Con Tryz.prog 32 [.agg g.row] F L nx nx (.bool g.ok) [] []:=by
 have hP:=fun F L nx=>zJV (F:=F) (L:=L) (nx:=nx) g.own
 have hQ:=fun F L nx=>zJV (F:=F) (L:=L) (nx:=nx) g.peer
 have hT:=fun F L nx=>zGW (F:=F) (L:=L) (nx:=nx) g.ta
 simp only[Ini.row]at hP hQ;have gl:g.row.length=20:=rfl;have gn:nfl g.row=true:=rfl;refine zUU (zAg (L+1)) rfl rfl (fn:=Tryz.f32) (c:=Tryz.f32.body.getD .skip) (by kernel_rfl) (by rfl) (by kernel_rfl) rfl (by simp) ?_;intro F3 hF1 hF2;refine vcu ⟨[none,some (.ptr ⟨L+1,0⟩ 0 0),some (.bool false)]++oz 129,[(⟨L+1,0⟩,.rows 28 20 true true [g.row])],10000⟩ ?_ ?_
 ·simp only[Tryz.f32,gl,gn,go_sem];repeat refine sd2 ?_
  refine ⟨(),(so0 hF2 (h2:=by simp[zAi,Tx.look,Gx.row]))⟩
 by_cases n0:1≤g.st;rotate_left
 ·have m0:decide (g.st<1)=true:=dT (by omega);have hk:g.ok=false:=by
   cases h:g.ok;·rfl
   ·have:=zUZ h;have h2:=zLH this.2;omega
  rw[hk];refine VT.of (zAg (L+1)) ?_;simp only[Tryz.f32,m0,Gx.row,go_sem];exact .bool (.inr rfl) rfl rfl (by simp[UpdAll])
 have f0:decide (g.st<1)=false:=dF (by omega);by_cases n1:g.st≤7;rotate_left
 ·have m1:decide (7<g.st)=true:=dT (by omega);have hk:g.ok=false:=by
   cases h:g.ok;·rfl
   ·have:=zUZ h;have h2:=zLH this.2;omega
  rw[hk];refine VT.of (zAg (L+1)) ?_;simp only[Tryz.f32,f0,m1,Gx.row,go_sem];exact .bool (.inr rfl) rfl rfl (by simp[UpdAll])
 have f1:decide (7<g.st)=false:=dF (by omega);by_cases n2:0≤g.fr;rotate_left
 ·have m2:decide (g.fr<0)=true:=dT (by omega);have hk:g.ok=false:=by
   cases h:g.ok;·rfl
   ·have:=zUZ h;have h2:=(zUR g).1 this.1;omega
  rw[hk];refine VT.of (zAg (L+1)) ?_;simp only[Tryz.f32,f0,f1,m2,Gx.row,go_sem];exact .bool (.inr rfl) rfl rfl (by simp[UpdAll])
 have f2:decide (g.fr<0)=false:=dF (by omega);by_cases n3:g.fr≤65535;rotate_left
 ·have m3:decide (65535<g.fr)=true:=dT (by omega);have hk:g.ok=false:=by
   cases h:g.ok;·rfl
   ·have:=zUZ h;have h2:=(zUR g).1 this.1;omega
  rw[hk];refine VT.of (zAg (L+1)) ?_;simp only[Tryz.f32,f0,f1,f2,m3,Gx.row,go_sem];exact .bool (.inr rfl) rfl rfl (by simp[UpdAll])
 have f3:decide (65535<g.fr)=false:=dF (by omega);by_cases n4:0≤g.tt;rotate_left
 ·have m4:decide (g.tt<0)=true:=dT (by omega);have hk:g.ok=false:=by
   cases h:g.ok;·rfl
   ·have:=zUZ h;have h2:=(zUR g).1 this.1;omega
  rw[hk];refine VT.of (zAg (L+1)) ?_;simp only[Tryz.f32,f0,f1,f2,f3,m4,Gx.row,go_sem];exact .bool (.inr rfl) rfl rfl (by simp[UpdAll])
 have f4:decide (g.tt<0)=false:=dF (by omega);by_cases n5:g.tt≤65535;rotate_left
 ·have m5:decide (65535<g.tt)=true:=dT (by omega);have hk:g.ok=false:=by
   cases h:g.ok;·rfl
   ·have:=zUZ h;have h2:=(zUR g).1 this.1;omega
  rw[hk];refine VT.of (zAg (L+1)) ?_;simp only[Tryz.f32,f0,f1,f2,f3,f4,m5,Gx.row,go_sem];exact .bool (.inr rfl) rfl rfl (by simp[UpdAll])
 have f5:decide (65535<g.tt)=false:=dF (by omega);by_cases n6:g.sec.length=32;rotate_left
 ·have m6:(((g.sec.length:Nat):Int) !=32)=true:=by simp;omega
  have hk:g.ok=false:=by
   cases h:g.ok;·rfl
   ·have:=zUZ h;have h2:=(zUR g).1 this.1;omega
  rw[hk];refine VT.of (zAg (L+1)) ?_;simp only[Tryz.f32,f0,f1,f2,f3,f4,f5,m6,Gx.row,go_sem];exact .bool (.inr rfl) rfl rfl (by simp[UpdAll])
 have f6:(((g.sec.length:Nat):Int) !=32)=false:=by rw[n6];rfl
 cases n7:zAZ g.own
 ·rw[n7]at hP;have hk:g.ok=false:=by
   cases h:g.ok;·rfl
   ·have:=zUZ h;have h2:=(zUR g).1 this.1;rw[n7]at h2;simp at h2
  rw[hk];refine VT.of (zAg (L+1)) ?_;simp only[Tryz.f32,f0,f1,f2,f3,f4,f5,f6,Gx.row,go_sem];refine CallVC.same (hP _ _ _) ?_;simp only[go_sem];exact .bool (.inr rfl) rfl rfl (by simp[UpdAll])
 cases n8:zEg g.ta
 ·rw[n7]at hP;rw[n8]at hT;have hk:g.ok=false:=by
   cases h:g.ok;·rfl
   ·have:=zUZ h;have h2:=(zUR g).1 this.1;rw[n8]at h2;simp at h2
  rw[hk];refine VT.of (zAg (L+1)) ?_;simp only[Tryz.f32,f0,f1,f2,f3,f4,f5,f6,Gx.row,go_sem];refine CallVC.same (hP _ _ _) ?_;simp only[go_sem];refine CallVC.same (hT _ _ _) ?_;simp only[go_sem];exact .bool (.inr rfl) rfl rfl (by simp[UpdAll])
 rw[n7]at hP;rw[n8]at hT;have hhd:g.hd=true:=(zUR g).2 ⟨n2,n3,n4,n5,n6,n7,n8⟩;have hok:g.ok=(g.mid&&g.cko):=by unfold Gx.ok;rw[hhd];rfl
 rw[hok];refine vcu ⟨[none,some (.ptr ⟨L+1,0⟩ 0 0),some (.bool false)]++oz 129,[(⟨L+1,0⟩,.rows 28 20 true true [g.row])],20000⟩ ?_ ?_
 ·simp only[Tryz.f32,f0,f1,f2,f3,f4,f5,f6,Gx.row,go_sem];refine CallVC.same (hP _ _ _) ?_;simp only[go_sem];refine CallVC.same (hT _ _ _) ?_;simp only[go_sem];repeat refine sd2 ?_
  refine ⟨(),(so0 hF2)⟩
 clear hP hT;cases hc:g.cko
 ·rw [vJ];refine VT.of (zAg (L+1)) ?_;by_cases hs:g.st=3
  ·have s3:(g.st==3)=true:=by simp[hs]
   have hk:g.cko=(g.ck !=[]&&decide (g.ck.length≤200)):=by unfold Gx.cko;rw[if_pos hs]
   rw[hk]at hc;by_cases h1:g.ck.length<1
   ·have c1:decide (((g.ck.length:Nat):Int)<1)=true:=dT (by omega);simp only[Tryz.f32,s3,c1,Gx.row,go_sem];exact .bool (.inr rfl) rfl rfl (by simp[UpdAll])
   ·have c1:decide (((g.ck.length:Nat):Int)<1)=false:=dF (by omega);have h2:200<g.ck.length:=by
     have:(g.ck !=[])=true:=by cases h:g.ck<;>simp[h]at h1 ⊢
     rw[this,zR]at hc;have:=of_decide_eq_false hc;omega
    have c2:decide ((200:Int)<((g.ck.length:Nat):Int))=true:=dT (by omega);simp only[Tryz.f32,s3,c1,c2,Gx.row,go_sem];exact .bool (.inr rfl) rfl rfl (by simp[UpdAll])
  ·have s3:(g.st==3)=false:=by simp[hs]
   have hk:g.cko=(g.ck== []):=by unfold Gx.cko;rw[if_neg hs]
   rw[hk]at hc;simp only[Tryz.f32,s3,hc,zN,Gx.row,go_sem];exact .bool (.inr rfl) rfl rfl (by simp[UpdAll])
 rw[uP];refine vcu ⟨[none,some (.ptr ⟨L+1,0⟩ 0 0),some (.bool false)]++oz 129,[(⟨L+1,0⟩,.rows 28 20 true true [g.row])],30000⟩ ?_ ?_
 ·by_cases hs:g.st=3
  ·have s3:(g.st==3)=true:=by simp[hs]
   have hk:g.cko=(g.ck !=[]&&decide (g.ck.length≤200)):=by unfold Gx.cko;rw[if_pos hs]
   rw[hk,zC,decide_eq_true_eq]at hc;have h1:1≤g.ck.length:=by
    have:=hc.1;cases h:g.ck<;>simp[h]at this ⊢
   have c1:decide (((g.ck.length:Nat):Int)<1)=false:=dF (by omega);have c2:decide ((200:Int)<((g.ck.length:Nat):Int))=false:=dF (by omega);simp only[Tryz.f32,s3,c1,c2,Gx.row,go_sem];repeat refine sd2 ?_
   refine ⟨(),(so0 hF2)⟩
  ·have s3:(g.st==3)=false:=by simp[hs]
   have hk:g.cko=(g.ck== []):=by unfold Gx.cko;rw[if_neg hs]
   rw[hk]at hc;simp only[Tryz.f32,s3,hc,zT,Gx.row,go_sem];repeat refine sd2 ?_
   refine ⟨(),(so0 hF2)⟩
 have hz:=zLG g.peer;obtain ⟨al,hal⟩:∃x,x=(g.peer==zIni):=⟨_,rfl⟩;obtain ⟨kn,hkn⟩:∃x,x=zAZ g.peer:=⟨_,rfl⟩;rw[←hkn]at hQ;rw[←hal]at hz;have hm0:g.mid=((if g.st=1∨g.st=2 then al else if g.st=7 then al||kn else kn)&&(if g.st=1∨g.st=4∨g.st=7 then g.rest else g.tries)):=by
  unfold Gx.mid;rw[←hal,←hkn];rcases (show g.st=1∨g.st=2∨g.st=3∨g.st=4∨g.st=5∨g.st=6∨g.st=7 by omega) with h|h|h|h|h|h|h<;>simp[h]
 have hne:∀a b:Bool,(!(a&&b))=(!a|| !b):=by decide
 obtain ⟨pc,hpc⟩:∃x,x=(if g.st=1∨g.st=2 then al else if g.st=7 then al||kn else kn):=⟨_,rfl⟩;rw[←hpc]at hm0;have hst:(g.st=1∨g.st=2)∨g.st=7∨(g.st≠1∧g.st≠2∧g.st≠7):=by omega
 cases pc
 ·rw[hm0,zX];refine VT.of (zAg (L+1)) ?_;rcases hst with hs|hs|hs
  ·rw[if_pos hs]at hpc;rw[←hpc]at hz;rcases hs with hs|hs;all_goals
    simp only[Tryz.f32,hs,hz,bne,Gx.row,Int.reduceBEq,zN,go_sem];exact .bool (.inr rfl) rfl rfl (by simp[UpdAll])
  ·rw[if_neg (by omega),if_pos hs]at hpc;obtain ⟨rfl,rfl⟩:al=false∧kn=false:=by revert hpc;cases al<;>cases kn<;>simp
   simp only[Tryz.f32,hs,Gx.row,Int.reduceBEq,go_sem];refine CallVC.same (hQ _ _ _) ?_;simp only[hz,go_sem];exact .bool (.inr rfl) rfl rfl (by simp[UpdAll])
  ·rw[if_neg (by omega),if_neg (by omega)]at hpc;subst hpc;have s1:(g.st==1)=false:=by simp;omega
   have s2:(g.st==2)=false:=by simp;omega
   have s7:(g.st==7)=false:=by simp;omega
   simp only[Tryz.f32,s1,s2,Gx.row,go_sem];refine CallVC.same (hQ _ _ _) ?_;simp only[s7,go_sem];exact .bool (.inr rfl) rfl rfl (by simp[UpdAll])
 rw[hm0,zR];refine vcu ⟨[none,some (.ptr ⟨L+1,0⟩ 0 0),some (.bool false)]++oz 129,[(⟨L+1,0⟩,.rows 28 20 true true [g.row])],40000⟩ ?_ ?_
 ·rcases hst with hs|hs|hs
  ·rw[if_pos hs]at hpc;rw[←hpc]at hz;rcases hs with hs|hs;all_goals
    simp only[Tryz.f32,hs,hz,bne,Gx.row,Int.reduceBEq,zT,go_sem];repeat refine sd2 ?_
    refine ⟨(),(so0 hF2)⟩
  ·rw[if_neg (by omega),if_pos hs]at hpc;cases kn
   ·obtain rfl:al=true:=by revert hpc;cases al<;>simp
    simp only[Tryz.f32,hs,Gx.row,Int.reduceBEq,go_sem];refine CallVC.same (hQ _ _ _) ?_;simp only[hz,go_sem];repeat refine sd2 ?_
    refine ⟨(),(so0 hF2)⟩
   ·simp only[Tryz.f32,hs,Gx.row,Int.reduceBEq,go_sem];refine CallVC.same (hQ _ _ _) ?_;simp only[go_sem];repeat refine sd2 ?_
    refine ⟨(),(so0 hF2)⟩
  ·rw[if_neg (by omega),if_neg (by omega)]at hpc;subst hpc;have s1:(g.st==1)=false:=by simp;omega
   have s2:(g.st==2)=false:=by simp;omega
   have s7:(g.st==7)=false:=by simp;omega
   simp only[Tryz.f32,s1,s2,Gx.row,go_sem];refine CallVC.same (hQ _ _ _) ?_;simp only[go_sem];repeat refine sd2 ?_
   refine ⟨(),(so0 hF2)⟩
 clear hQ hz hm0 hpc;refine VT.of (zAg (L+1)) ?_;by_cases hr:g.st=1∨g.st=4∨g.st=7
 ·rw[if_pos hr];unfold Gx.rest;cases h1:g.due== -1;all_goals
   rcases hr with hs|hs|hs;all_goals
    simp only[Tryz.f32,hs,h1,Gx.row,Int.reduceBEq,zX,zR,go_sem];exact .bool (.inr rfl) rfl rfl (by simp[UpdAll])
 ·rw[if_neg hr];have s1:(g.st==1)=false:=by simp;omega
  have s4:(g.st==4)=false:=by simp;omega
  have s7:(g.st==7)=false:=by simp;omega
  unfold Gx.tries;cases h1:decide (0≤g.due)
  ·simp only[Tryz.f32,s1,s4,s7,h1,Gx.row,zX,zR,vJ,go_sem];exact .bool (.inr rfl) rfl rfl (by simp[UpdAll])
  cases h2:decide (g.due≤1099511634176)
  ·simp only[Tryz.f32,s1,s4,s7,h1,h2,Gx.row,zX,zR,vJ,go_sem];exact .bool (.inr rfl) rfl rfl (by simp[UpdAll])
  cases h3:decide (1≤g.tr);all_goals
   simp only[Tryz.f32,s1,s4,s7,h1,h2,h3,Gx.row,zX,zR,vJ,go_sem];exact .bool (.inr rfl) rfl rfl (by simp[UpdAll])
def bR(f:Nat→Bool):List PV:=(List.range 32).map fun i=>.bool (f i)
theorem zD4(f:Nat→Bool):(bR f).length=32:=by simp[bR]
theorem zPh:∀l:List Nat,∀f:Nat→Bool,nfl (l.map fun i=>.bool (f i))=true
 | [],_=>rfl
 |a::l,f=>by simp only[zL,nfl,Tx.nf,zR];exact zPh l f
theorem zEX(f:Nat→Bool):nfl (bR f)=true:=zPh _ f
theorem zF5(f:Nat→Bool){i:Nat}(h:i<32):(bR f).getD i (.tup [])= .bool (f i):=by
 unfold bR;rw[zE,wE,qF h];rfl
theorem zSE(f:Nat→Bool)(k:Nat)(b:Bool):(bR f).set k (.bool b)=bR fun i=>if i=k then b else f i:=by
 apply uQ (by simp[bR]);intro i h1 h2;simp only[bR,List.getElem_set,qE,List.getElem_range];by_cases e:k=i;·subst e;simp
 ·rw[if_neg e,if_neg (Ne.symm e)]
theorem zA3{f g:Nat→Bool}(h:∀i,i<32→f i=g i):bR f=bR g:=by
 unfold bR;exact List.map_congr_left fun i hi=>by rw[h i (by simpa using hi)]
theorem zPi(f:Nat→Bool){k:Nat}(h:k<32)(b:Bool):List.take (k*1) (bR f)++[.bool b]++List.drop (k*1+1) (bR f)=bR fun i=>if i=k then b else f i:=by
 rw[wG,←zSE,List.set_eq_take_append_cons_drop,if_pos (by rw[zD4];exact h)];simp
theorem zHM(f:Nat→Bool){k:Nat}(h:k<32)(b:Bool):List.take k (bR f)++[.bool b]++List.drop (k+1) (bR f)=bR fun i=>if i=k then b else f i:=by
 have:=zPi f h b
 rwa[wG]at this
theorem zF6(f:Nat→Bool):List.drop 32 (bR f)=[]:=uD (by rw[zD4];omega)
theorem zAv:[PV.bool false,.bool false,.bool false,.bool false,.bool false,.bool false,.bool false,.bool false,.bool false,.bool false,.bool false,.bool false,.bool false,.bool false,.bool false,.bool false,.bool false,.bool false,.bool false,.bool false,.bool false,.bool false,.bool false,.bool false,.bool false,.bool false,.bool false,.bool false,.bool false,.bool false,.bool false,.bool false]=bR fun _=>false:=rfl
theorem zD5{F:SF}{L nx:Nat}(x:Nat)(hx:x<2^62):Con Tryz.prog 152 [.int .i64 x] F L nx nx (.agg (bR (wB x))) [] []:=by
 have ln:=fun f=>zD4 f
 have nf9:=fun f=>zEX f
 refine bdy Tryz.f152 ?_;intro F3 hF1 hF2;simp only[Tryz.f152,zAv,go_sem];repeat refine sd2 ?_
 refine loopK.intro _ _ (I:=fun j:Nat=>⟨[some (.int .i64 ((x/2^j:Nat):Int)),none,some (.ptr ⟨L+1,0⟩ 0 0),some (.ptr ⟨L+1,32⟩ 0 0),some (.int .i64 (31-(j:Int)))]++oz 12,[(⟨L+1,0⟩,.rows 251 32 true true [bR fun _=>false]),(⟨L+1,32⟩,.rows 251 32 true true [bR fun i=>decide (31<i+j)&&wB x i])],10000*(j+1)⟩) (pre:=fun j=>j≤32) (μ:=fun j=>32-j) 0 (by omega) ?_ ?_
 ·refine Sub.of (hfz hF2) (by simp only[go_sem,zAf,and_self,Nat.pow_zero,Nat.div_one,zW,Int.sub_zero]) ?_ (by simp[zAs,keys]) (by simp);simp only[zAi,Tx.look,zCU,if_true,and_true,true_and];simp;exact zA3 fun i hi=>by simp;omega
 intro j hj;have hy:x/2^j<2^62:=qA (qC _ _) hx;have hz:x/2^(j+1)=x/2^j/2:=by rw[Nat.pow_succ,Nat.div_div_eq_div_mul]
 have hb:x.testBit j=decide (x/2^j%2=1):=Nat.testBit_eq_decide_div_mod_eq ..;generalize x/2^j=y at hy hz hb ⊢;by_cases hlt:j<32
 ·have g1:decide ((0:Int)≤31-(j:Int))=true:=dT (by omega);have ix:(31-(j:Int)).toNat=31-j:=by omega
  have r3:(y:Int).tdiv 2=((y/2:Nat):Int):=by rw[uJ (by omega)];rfl
  have r1:(y:Int).tmod 2=((y%2:Nat):Int):=by rw[wY (by omega)];rfl
  have r2:(((y%2:Nat):Int)==1)=wB x (31-j):=by
   unfold wB;rw[show 31-(31-j)=j by omega,hb];by_cases h:y%2=1;·rw[h];rfl
   ·rw[decide_eq_false h];simp;omega
  have pt:=fun f b=>zPi f (k:=31-j) (by omega) b
  simp only[g1,ix,r1,r2,r3,pt,zA,go_sem];repeat refine sd2 ?_
  refine ⟨j+1,by omega,by omega,?_⟩;refine Sub.of (hfz hF2) (by simp only[go_sem,zAf,and_self,hz,vB,vK,Int.sub_sub]) ?_ (by simp[zAs,keys]) (by simp only[];omega);simp only[zAi,Tx.look,zCU,if_true,and_true,true_and];simp;refine zA3 fun i hi=>?_
  by_cases e:i=31-j;·subst e;rw[if_pos rfl,decide_eq_true (by omega),zR]
  ·rw[if_neg e];congr 1;exact decide_eq_decide.2 (by omega)
 ·have g1:decide ((0:Int)≤31-(j:Int))=false:=dF (by omega);have d32:=fun f=>zF6 f
  have he:(bR fun i=>decide (31<i+j)&&wB x i)=bR (wB x):=zA3 fun i hi=>by rw[decide_eq_true (by omega),zR]
  simp only[g1,ln,nf9,d32,zK,he,zA,go_sem];repeat refine sd2 ?_
  exact ps0 (hf:=by simp[Tx.nf,zEX])
theorem zEQ{F:SF}{L nx:Nat}(f:Nat→Bool):Con Tryz.prog 154 [.agg (bR f)] F L nx nx (.int .i64 (vN f 32)) [] []:=by
 have ln:=fun f=>zD4 f
 have nf9:=fun f=>zEX f
 refine bdy Tryz.f154 ?_;intro F3 hF1 hF2;simp only[Tryz.f154,ln,nf9,go_sem];repeat refine sd2 ?_
 refine loopK.intro _ _ (I:=fun j:Nat=>⟨[none,some (.ptr ⟨L+1,0⟩ 0 0),some (.int .i64 0),some (.int .i64 ((vN f j:Nat):Int)),some (.int .i64 (j:Int))]++oz 12,[(⟨L+1,0⟩,.rows 251 32 true true [bR f])],10000*(j+1)⟩) (pre:=fun j=>j≤32) (μ:=fun j=>32-j) 0 (by omega) ?_ ?_;·exact Sub.of (hfz hF2) (by simp only[go_sem,zAf,and_self,vN,zW]) (by simp[zAi,Tx.look]) (by simp[zAs,keys]) (by simp)
 intro j hj;have hv:=zRq f j;have hv2:vN f j<4294967296:=vD hv (uI (n:=2) (by omega) (show j≤32 by omega));have hs:vN f (j+1)=2*vN f j+(f j).toNat:=rfl;obtain ⟨y,hy⟩:∃y,y=vN f j:=⟨_,rfl⟩;rw[←hy]at hv2 hs ⊢;by_cases hlt:j<32
 ·have g1:decide ((j:Int)<32)=true:=dT (by omega);have rd:=zF5 f hlt;cases hf:f j;all_goals
   rw[hf]at hs rd;simp only[Bool.toNat_true,Bool.toNat_false]at hs;simp only[g1,rd,wG,zA,go_sem];repeat refine sd2 ?_
   refine ⟨j+1,by omega,by omega,?_⟩;exact Sub.of (hfz hF2) (by simp only[go_sem,zAf,and_self,hs,vB,qK,vK,show ((2:Nat):Int)=2 from rfl]) (by simp[zAi,Tx.look]) (by simp[zAs,keys]) (by simp only[];omega)
 ·have g1:decide ((j:Int)<32)=false:=dF (by omega);obtain rfl:j=32:=by omega
  simp only[g1,hy,go_sem];repeat refine sd2 ?_
  exact ps0
theorem zBi{F:SF}{L nx:Nat}(f:Nat→Bool)(k:Nat)(hk:k<32):Con Tryz.prog 156 [.agg (bR f),.int .i64 k] F L nx nx (.agg (bR (tnB f k))) [] []:=by
 have ln:=fun f=>zD4 f
 have nf9:=fun f=>zEX f
 have d32:=fun f=>zF6 f
 refine bdy Tryz.f156 ?_;intro F3 hF1 hF2;simp only[Tryz.f156,zAv,ln,nf9,go_sem];repeat refine sd2 ?_
 refine loopK.intro _ _ (I:=fun j:Nat=>⟨[none,some (.int .i64 k),some (.ptr ⟨L+1,0⟩ 0 0),none,some (.ptr ⟨L+1,32⟩ 0 0),some (.ptr ⟨L+1,64⟩ 0 0),some (.int .i64 (j:Int))]++oz 13,[(⟨L+1,0⟩,.rows 251 32 true true [bR f]),(⟨L+1,32⟩,.rows 251 32 true true [bR fun _=>false]),(⟨L+1,64⟩,.rows 251 32 true true [bR fun i=>decide ((i+32-k)%32<j)&&tnB f k i])],10000*(j+1)⟩) (pre:=fun j=>j≤32) (μ:=fun j=>33-j) 0 (by omega) ?_ ?_
 ·refine Sub.of (hfz hF2) (by simp only[go_sem,zAf,and_self,zW]) ?_ (by simp[zAs,keys]) (by simp);simp only[zAi,Tx.look,zCU,if_true,and_true,true_and];simp;try exact zA3 fun i hi=>by simp;omega
 intro j hj;have wi:Sx.zCn ((j:Int)+1):=by show _∧_;omega
 by_cases hlt:j<32
 ·have g1:decide ((j:Int)<32)=true:=dT (by omega);have rd:=zF5 f hlt;have tm:((j:Int)+(k:Int)).tmod 32=(((j+k)%32:Nat):Int):=by rw[wY (by omega)];omega
  have kn:(((j+k)%32:Nat):Int).toNat=(j+k)%32:=by omega
  have pt:=fun f b=>zHM f (k:=(j+k)%32) (by omega) b
  have b1:(j+k)%32<32:=by omega
  simp only[g1,rd,pt,wG,tm,kn,zA,go_sem];repeat refine sd2 ?_
  refine ⟨j+1,by omega,by omega,?_⟩;refine Sub.of (hfz hF2) (by simp only[go_sem,zAf,and_self,vB,vK]) ?_ (by simp[zAs,keys]) (by simp only[];omega);simp only[zAi,Tx.look,zCU,if_true,and_true,true_and];simp;refine zA3 fun i hi=>?_
  by_cases e:i=(j+k)%32;·subst e;rw[if_pos rfl,decide_eq_true (by omega),zR];unfold tnB;congr 1;omega
  ·rw[if_neg e];congr 1;exact decide_eq_decide.2 (by omega)
 ·have g1:decide ((j:Int)<32)=false:=dF (by omega);have he:(bR fun i=>decide ((i+32-k)%32<j)&&tnB f k i)=bR (tnB f k):=zA3 fun i hi=>by rw[decide_eq_true (by omega),zR]
  simp only[g1,ln,nf9,d32,zK,he,zA,go_sem];repeat refine sd2 ?_
  exact ps0 (hf:=by simp[Tx.nf,zEX])
theorem zLI{F:SF}{L nx:Nat}(f:Nat→Bool)(k:Nat)(hk:k≤32):Con Tryz.prog 157 [.agg (bR f),.int .i64 k] F L nx nx (.agg (bR (mvB f k))) [] []:=by
 have ln:=fun f=>zD4 f
 have nf9:=fun f=>zEX f
 have d32:=fun f=>zF6 f
 refine bdy Tryz.f157 ?_;intro F3 hF1 hF2;simp only[Tryz.f157,zAv,ln,nf9,go_sem];repeat refine sd2 ?_
 refine loopK.intro _ _ (I:=fun j:Nat=>⟨[none,some (.int .i64 k),some (.ptr ⟨L+1,0⟩ 0 0),none,some (.ptr ⟨L+1,32⟩ 0 0),some (.ptr ⟨L+1,64⟩ 0 0),some (.int .i64 (j:Int))]++oz 14,[(⟨L+1,0⟩,.rows 251 32 true true [bR f]),(⟨L+1,32⟩,.rows 251 32 true true [bR fun _=>false]),(⟨L+1,64⟩,.rows 251 32 true true [bR fun i=>decide (i<k+j)&&mvB f k i])],10000*(j+1)⟩) (pre:=fun j=>j+k≤32) (μ:=fun j=>33-j) 0 (by omega) ?_ ?_
 ·refine Sub.of (hfz hF2) (by simp only[go_sem,zAf,and_self,zW]) ?_ (by simp[zAs,keys]) (by simp);simp only[zAi,Tx.look,zCU,if_true,and_true,true_and];simp;try exact zA3 fun i hi=>by simp;unfold mvB;intro h1;rw[decide_eq_false (by omega)];rfl
 intro j hj;have wi:Sx.zCn ((j:Int)+1):=by show _∧_;omega
 by_cases hlt:j+k<32
 ·have g1:decide ((j:Int)+(k:Int)<32)=true:=dT (by omega);have rd:=zF5 f (i:=j) (by omega);obtain ⟨m,hm⟩:∃m,m=j+k:=⟨_,rfl⟩;have kn:((j:Int)+(k:Int)).toNat=m:=by omega
  have hm32:m<32:=by omega
  have pt:=fun f b=>zHM f (k:=m) (by omega) b
  simp only[g1,rd,pt,wG,kn,zA,go_sem];repeat refine sd2 ?_
  refine ⟨j+1,by omega,by omega,?_⟩;refine Sub.of (hfz hF2) (by simp only[go_sem,zAf,and_self,vB,vK]) ?_ (by simp[zAs,keys]) (by simp only[];omega);simp only[zAi,Tx.look,zCU,if_true,and_true,true_and];simp;refine zA3 fun i hi=>?_
  by_cases e:i=m;·subst e;rw[if_pos rfl,decide_eq_true (by omega),zR];unfold mvB;rw[decide_eq_true (by omega),zR,hm,Nat.add_sub_cancel]
  ·rw[if_neg e];congr 1;exact decide_eq_decide.2 (by omega)
 ·have g1:decide ((j:Int)+(k:Int)<32)=false:=dF (by omega);have he:(bR fun i=>decide (i<k+j)&&mvB f k i)=bR (mvB f k):=zA3 fun i hi=>by rw[decide_eq_true (by omega),zR]
  simp only[g1,ln,nf9,d32,zK,he,zA,go_sem];repeat refine sd2 ?_
  exact ps0 (hf:=by simp[Tx.nf,zEX])
theorem zNq{F:SF}{L nx:Nat}(f g:Nat→Bool):Con Tryz.prog 158 [.agg (bR f),.agg (bR g)] F L nx nx (.agg (bR (xoB f g))) [] []:=by
 have ln:=fun f=>zD4 f
 have nf9:=fun f=>zEX f
 have d32:=fun f=>zF6 f
 refine bdy Tryz.f158 ?_;intro F3 hF1 hF2;simp only[Tryz.f158,zAv,ln,nf9,go_sem];repeat refine sd2 ?_
 refine loopK.intro _ _ (I:=fun j:Nat=>⟨[none,none,some (.ptr ⟨L+1,0⟩ 0 0),some (.ptr ⟨L+1,32⟩ 0 0),some (.ptr ⟨L+1,64⟩ 0 0),some (.ptr ⟨L+1,96⟩ 0 0),some (.int .i64 (j:Int))]++oz 14,[(⟨L+1,0⟩,.rows 251 32 true true [bR f]),(⟨L+1,32⟩,.rows 251 32 true true [bR g]),(⟨L+1,64⟩,.rows 251 32 true true [bR fun _=>false]),(⟨L+1,96⟩,.rows 251 32 true true [bR fun i=>decide (i<j)&&xoB f g i])],10000*(j+1)⟩) (pre:=fun j=>j≤32) (μ:=fun j=>33-j) 0 (by omega) ?_ ?_
 ·refine Sub.of (hfz hF2) (by simp only[go_sem,zAf,and_self,zW]) ?_ (by simp[zAs,keys]) (by simp);simp only[zAi,Tx.look,zCU,if_true,and_true,true_and];simp;try exact zA3 fun i hi=>by simp;omega
 intro j hj;have wi:Sx.zCn ((j:Int)+1):=by show _∧_;omega
 by_cases hlt:j<32
 ·have g1:decide ((j:Int)<32)=true:=dT (by omega);have rd:=zF5 f hlt;have rd2:=zF5 g hlt;have pt:=fun f b=>zHM f (k:=j) (by omega) b
  simp only[g1,rd,pt,wG,rd2,zA,go_sem];repeat refine sd2 ?_
  refine ⟨zAA (fun x=>if x.i=96 then 1 else if x.i=0 then 2 else x.i%10000+100) (by simp only[zA0,List.map];kernel_rfl),?_⟩;repeat refine sd2 ?_
  refine ⟨j+1,by omega,by omega,?_⟩;refine Sub.of (hfz hF2) (by simp only[go_sem,zAf,and_self,vB,vK]) ?_ (by simp[zAs,keys]) (by simp only[];omega);simp only[zAi,Tx.look,zCU,if_true,and_true,true_and];simp;refine zA3 fun i hi=>?_
  by_cases e:i=j;·subst e;rw[if_pos rfl,decide_eq_true (by omega),zR];rfl
  ·rw[if_neg e];congr 1;exact decide_eq_decide.2 (by omega)
 ·have g1:decide ((j:Int)<32)=false:=dF (by omega);have he:(bR fun i=>decide (i<j)&&xoB f g i)=bR (xoB f g):=zA3 fun i hi=>by rw[decide_eq_true (by omega),zR]
  simp only[g1,ln,nf9,d32,zK,he,zA,go_sem];repeat refine sd2 ?_
  exact ps0 (hf:=by simp[Tx.nf,zEX])
theorem zJW{F:SF}{L nx:Nat}(f g:Nat→Bool):Con Tryz.prog 159 [.agg (bR f),.agg (bR g)] F L nx nx (.agg (bR (anB f g))) [] []:=by
 have ln:=fun f=>zD4 f
 have nf9:=fun f=>zEX f
 have d32:=fun f=>zF6 f
 refine bdy Tryz.f159 ?_;intro F3 hF1 hF2;simp only[Tryz.f159,zAv,ln,nf9,go_sem];repeat refine sd2 ?_
 refine loopK.intro _ _ (I:=fun j:Nat=>⟨[none,none,some (.ptr ⟨L+1,0⟩ 0 0),some (.ptr ⟨L+1,32⟩ 0 0),some (.ptr ⟨L+1,64⟩ 0 0),some (.ptr ⟨L+1,96⟩ 0 0),some (.int .i64 (j:Int))]++oz 15,[(⟨L+1,0⟩,.rows 251 32 true true [bR f]),(⟨L+1,32⟩,.rows 251 32 true true [bR g]),(⟨L+1,64⟩,.rows 251 32 true true [bR fun _=>false]),(⟨L+1,96⟩,.rows 251 32 true true [bR fun i=>decide (i<j)&&anB f g i])],10000*(j+1)⟩) (pre:=fun j=>j≤32) (μ:=fun j=>33-j) 0 (by omega) ?_ ?_
 ·refine Sub.of (hfz hF2) (by simp only[go_sem,zAf,and_self,zW]) ?_ (by simp[zAs,keys]) (by simp);simp only[zAi,Tx.look,zCU,if_true,and_true,true_and];simp;try exact zA3 fun i hi=>by simp;omega
 intro j hj;have wi:Sx.zCn ((j:Int)+1):=by show _∧_;omega
 by_cases hlt:j<32
 ·have g1:decide ((j:Int)<32)=true:=dT (by omega);have rd:=zF5 f hlt;have rd2:=zF5 g hlt;have pt:=fun f b=>zHM f (k:=j) (by omega) b
  cases hf:f j;all_goals
   rw[hf]at rd;simp only[g1,rd,pt,wG,rd2,zA,go_sem];repeat refine sd2 ?_
   refine ⟨j+1,by omega,by omega,?_⟩;refine Sub.of (hfz hF2) (by simp only[go_sem,zAf,and_self,vB,vK]) ?_ (by simp[zAs,keys]) (by simp only[];omega);simp only[zAi,Tx.look,zCU,if_true,and_true,true_and];simp;refine zA3 fun i hi=>?_
   by_cases e:i=j;·subst e;simp[anB,hf]
   ·have h9:decide (i<j+1)=decide (i<j):=decide_eq_decide.2 (by omega);simp[e,h9]
 ·have g1:decide ((j:Int)<32)=false:=dF (by omega);have he:(bR fun i=>decide (i<j)&&anB f g i)=bR (anB f g):=zA3 fun i hi=>by rw[decide_eq_true (by omega),zR]
  simp only[g1,ln,nf9,d32,zK,he,zA,go_sem];repeat refine sd2 ?_
  exact ps0 (hf:=by simp[Tx.nf,zEX])
theorem zSF{F:SF}{L nx:Nat}(f:Nat→Bool):Con Tryz.prog 160 [.agg (bR f)] F L nx nx (.agg (bR (noB f))) [] []:=by
 have ln:=fun f=>zD4 f
 have nf9:=fun f=>zEX f
 have d32:=fun f=>zF6 f
 refine bdy Tryz.f160 ?_;intro F3 hF1 hF2;simp only[Tryz.f160,zAv,ln,nf9,go_sem];repeat refine sd2 ?_
 refine loopK.intro _ _ (I:=fun j:Nat=>⟨[none,some (.ptr ⟨L+1,0⟩ 0 0),some (.ptr ⟨L+1,32⟩ 0 0),some (.ptr ⟨L+1,64⟩ 0 0),some (.int .i64 (j:Int))]++oz 11,[(⟨L+1,0⟩,.rows 251 32 true true [bR f]),(⟨L+1,32⟩,.rows 251 32 true true [bR fun _=>false]),(⟨L+1,64⟩,.rows 251 32 true true [bR fun i=>decide (i<j)&&noB f i])],10000*(j+1)⟩) (pre:=fun j=>j≤32) (μ:=fun j=>33-j) 0 (by omega) ?_ ?_
 ·refine Sub.of (hfz hF2) (by simp only[go_sem,zAf,and_self,zW]) ?_ (by simp[zAs,keys]) (by simp);simp only[zAi,Tx.look,zCU,if_true,and_true,true_and];simp;try exact zA3 fun i hi=>by simp;omega
 intro j hj;have wi:Sx.zCn ((j:Int)+1):=by show _∧_;omega
 by_cases hlt:j<32
 ·have g1:decide ((j:Int)<32)=true:=dT (by omega);have rd:=zF5 f hlt;have pt:=fun f b=>zHM f (k:=j) (by omega) b
  simp only[g1,rd,pt,wG,zA,go_sem];repeat refine sd2 ?_
  refine ⟨j+1,by omega,by omega,?_⟩;refine Sub.of (hfz hF2) (by simp only[go_sem,zAf,and_self,vB,vK]) ?_ (by simp[zAs,keys]) (by simp only[];omega);simp only[zAi,Tx.look,zCU,if_true,and_true,true_and];simp;refine zA3 fun i hi=>?_
  by_cases e:i=j;·subst e;rw[if_pos rfl,decide_eq_true (by omega),zR];rfl
  ·rw[if_neg e];congr 1;exact decide_eq_decide.2 (by omega)
 ·have g1:decide ((j:Int)<32)=false:=dF (by omega);have he:(bR fun i=>decide (i<j)&&noB f i)=bR (noB f):=zA3 fun i hi=>by rw[decide_eq_true (by omega),zR]
  simp only[g1,ln,nf9,d32,zK,he,zA,go_sem];repeat refine sd2 ?_
  exact ps0 (hf:=by simp[Tx.nf,zEX])
end Go.Proofs.YtifhjhbfhdcahaaGreat
end
