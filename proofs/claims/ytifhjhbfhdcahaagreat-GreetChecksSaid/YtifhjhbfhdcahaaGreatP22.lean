/- Lemmas for the walk: GK142, GK143. -/
import Derived.Test.YtifhjhbfhdcahaaGreatP21
import Derived.Test.YtifhjhbfhdcahaaGreatP13
import Derived.Test.YtifhjhbfhdcahaaGreatP15
import Derived.Test.YtifhjhbfhdcahaaGreatP12
import Derived.Test.YtifhjhbfhdcahaaGreatP17
import Derived.Test.YtifhjhbfhdcahaaGreatP16
set_option linter.all false
section
namespace Go.Proofs.YtifhjhbfhdcahaaGreat
open Go.Tx
set_option maxRecDepth 100000
set_option maxHeartbeats 16000000
theorem zFL{F:SF}{L nx:Nat}(f g h:Nat→Bool):Con Tryz.prog 155 [.agg (bR f),.agg (bR g),.agg (bR h)] F L nx nx (.agg (bR (xoB (xoB f g) h))) [] []:=by
 have ln:=fun f=>zD4 f
 have nf9:=fun f=>zEX f
 have d32:=fun f=>zF6 f
 have h1:=fun F L nx=>zNq (F:=F) (L:=L) (nx:=nx) f g
 have h2:=fun F L nx=>zNq (F:=F) (L:=L) (nx:=nx) (xoB f g) h
 refine bdy Tryz.f155 ?_;intro F3 hF1 hF2;simp only[Tryz.f155,zAv,ln,nf9,zK,go_sem];repeat refine sd2 ?_
 refine CallVC.same (h1 _ _ _) ?_;simp only[zK,go_sem];repeat refine sd2 ?_
 refine CallVC.same (h2 _ _ _) ?_;simp only[ln,nf9,d32,zK,go_sem];repeat refine sd2 ?_
 refine ⟨zAA (fun x=>x.i) (by simp only[zA0,List.map];kernel_rfl),?_⟩;repeat refine sd2 ?_
 exact ps0 (hf:=by simp[Tx.nf,zEX])
theorem zER{F:SF}{L nx:Nat}(a b c d e:Nat)(ha:a<2^40)(hb:b<2^40)(hc:c<2^40)(hd:d<2^40)(he:e<2^40):Con Tryz.prog 153 [.int .i64 a,.int .i64 b,.int .i64 c,.int .i64 d,.int .i64 e] F L nx nx (.int .i64 (((a+b+c+d+e)%M32:Nat):Int)) [] []:=by
 have tm:((a:Int)+b+c+d+e).tmod 4294967296=(((a+b+c+d+e)%M32:Nat):Int):=by
  rw[wY (by omega)];rfl
 have i1:Sx.zCn ((a:Int)+b):=by show _∧_;omega
 have i2:Sx.zCn ((a:Int)+b+c):=by show _∧_;omega
 have i3:Sx.zCn ((a:Int)+b+c+d):=by show _∧_;omega
 have i4:Sx.zCn ((a:Int)+b+c+d+e):=by show _∧_;omega
 refine bdy Tryz.f153 ?_;intro F3 hF1 hF2;simp only[Tryz.f153,tm,zA,go_sem];repeat refine sd2 ?_
 exact ps0
theorem zFM(l:List Nat)(j:Nat)(h:j<l.length):(l.map eN).getD j []=[.int .i64 ((l.getD j 0:Nat):Int)]:=by
 simp[zE,h,eN]
def zBB(s k:List Nat):List PV:=[.fs 1 (s.map eN),.fs 1 (k.map eN)]
theorem zCg(s k:List Nat):nfl (zBB s k)=true:=rfl
theorem zQw{F:SF}{L nx:Nat}(st k h:List Nat)(b:List UInt8)(hk:k.length=64)(hkl:∀i,k.getD i 0<M32)(h8:W8 h)(hb:b.length=64):Con Tryz.prog 146 [.agg (zBB st k),.fs 1 (h.map eN),.str b] F L nx nx (.fs 1 ((zRD k h b).map eN)) [] []:=by
 have ln:=fun f=>zD4 f
 have nf9:=fun f=>zEX f
 have d32:=fun f=>zF6 f
 have tl:(zBB st k).length=2:=rfl;have tn:=zCg st k;refine zUU (zAg (L+1)) rfl rfl (fn:=Tryz.f146) (c:=Tryz.f146.body.getD .skip) (by kernel_rfl) (by rfl) (by kernel_rfl) rfl (by simp) ?_;intro F3 hF1 hF2;refine vcu ⟨[none,some (.fs 1 (h.map eN)),some (.str b),some (.ptr ⟨L+1,0⟩ 0 0),none,none,some (.nilS)]++oz 200,[(⟨L+1,0⟩,.rows 53 2 true true [zBB st k])],10000⟩ ?_ ?_
 ·simp only[Tryz.f146,tl,tn,go_sem];repeat refine sd2 ?_
  refine ⟨(),(so0 hF2)⟩
 refine vcu ⟨[none,some (.fs 1 (h.map eN)),some (.str b),some (.ptr ⟨L+1,0⟩ 0 0),none,none,some (.nilS),some (.nilS)]++oz 199,[(⟨L+1,0⟩,.rows 53 2 true true [zBB st k])],20000⟩ ?_ ?_
 ·simp only[Tryz.f146,go_sem];repeat refine sd2 ?_
  refine ⟨(),(so0 hF2)⟩
 refine vcu ⟨[none,some (.fs 1 (h.map eN)),some (.str b),some (.ptr ⟨L+1,0⟩ 0 0),none,none,some (.nilS),some (.fs 1 ((wS b 64).map eN))]++oz 199,[(⟨L+1,0⟩,.rows 53 2 true true [zBB st k])],1000000⟩ ?_ ?_
 ·simp only[Tryz.f146,go_sem];repeat refine sd2 ?_
  refine loopK.intro _ _ (I:=fun z:Nat×Nat=>⟨[none,some (.fs 1 (h.map eN)),some (.str b),some (.ptr ⟨L+1,0⟩ 0 0),none,none,some (.nilS),some (.sl ⟨L+1,z.2⟩ 0 z.1),some (.int .i64 z.1)]++oz 198,[(⟨L+1,0⟩,.rows 53 2 true true [zBB st k]),(⟨L+1,z.2⟩,.rows 3 1 true true ((wS b z.1).map eN))],10000*(2+z.1+1)⟩)
   (pre:=fun z=>z.1≤64∧0<z.2∧z.2<10000*(2+z.1+1)) (μ:=fun z=>64-z.1) (0,20032) ⟨by simp,by simp,by simp⟩ ?_ ?_
  ·refine Sub.trans (zUm 7 3 (wd:=1) (by omega) rfl) ?_;refine Sub.of (hfz hF2) (by simp only[go_sem,zAf,and_self,zW]) ?_ ?_ ?_;·simp[zAi,Tx.look,zAl,setH,wS]
   ·simp[zAs,keys,zAl,setH]
   ·simp
  rintro ⟨j,q⟩ ⟨hj,hq0,hq⟩
  simp only at hj hq0 hq ⊢;obtain ⟨i,hi⟩:∃i,i=2+j:=⟨_,rfl⟩;rw[←hi]at hq ⊢;have hi1:2+(j+1+1)=i+1+1:=by omega
  have q_0:(q=0)=False:=by apply eq_false;omega
  have n0_q:(0=q)=False:=by apply eq_false;omega
  obtain ⟨q_n1,q_n2,q_n3,q_n4,q_n5⟩:=nqL L (i:=i) (p:=q) (by omega);have hwl:((wS b j).map eN).length=j:=by rw[zG,zFG]
  by_cases hlt:j<64
  ·have g1:decide ((j:Int)<64)=true:=dT (by omega);have hs:wS b (j+1)=wS b j++[if j<16 then zBW ((b.drop (4*j)).take 4) else ((wS b j).getD (j-16) 0+(wS b j).getD (j-7) 0+sg0 ((wS b j).getD (j-15) 0)+sg1 ((wS b j).getD (j-2) 0))%M32]:=rfl;have wlt:=zNG b j;have gl:=zFM (wS b j);rw[zFG]at gl;obtain ⟨w,hw⟩:∃w,w=wS b j:=⟨_,rfl⟩;rw[←hw]at hs wlt gl hwl ⊢;by_cases h16:j<16
   ·have g2:decide ((j:Int)<16)=true:=dT (by omega);rw[if_pos h16]at hs;have n1:(4*(j:Int)).toNat=4*j:=by omega
    have n2:(4*(j:Int)+4).toNat=4*j+4:=by omega
    have n3:4*j+4-4*j=4:=by omega
    have hN:=fun F L nx=>zFj (F:=F) (L:=L) (nx:=nx) ((b.drop (4*j)).take 4) (by rw[wI];omega)
    have e4:w.map eN++[[.int .i64 ((zBW ((b.drop (4*j)).take 4):Nat):Int)]]=(wS b (j+1)).map eN:=by rw[hs,wQ];rfl
    simp only[g1,g2,n1,n2,n3,zA,go_sem];repeat refine sd2 ?_
    refine CallVC.same (hN _ _ _) ?_;simp only[q_0,q_n1,q_n2,q_n5,kS2,kS3,zA,go_sem];repeat refine sd2 ?_
    refine ⟨(j+1,10000*(i+1)+416),⟨by simp only[];omega,by simp only[];omega,by simp only[];omega⟩,by simp only[];omega,?_⟩;simp only[];rw[←e4,hi1];refine Sub.o hF2 ?_;simp only[zAi,Tx.look,zCU,if_true,if_false,and_true,n0_q,q_n1,kS3,Nat.reduceEqDiff]
   ·have g2:decide ((j:Int)<16)=false:=dF (by omega);rw[if_neg h16]at hs;have p15:((j:Int)-15).toNat=j-15:=by omega
    have q15:=gl (j-15) (by omega);have l15:=wlt (j-15);obtain ⟨x15,hx15⟩:∃x,x=w.getD (j-15) 0:=⟨_,rfl⟩;rw[←hx15]at q15 l15 hs;have p2:((j:Int)-2).toNat=j-2:=by omega
    have q2:=gl (j-2) (by omega);have l2:=wlt (j-2);obtain ⟨x2,hx2⟩:∃x,x=w.getD (j-2) 0:=⟨_,rfl⟩;rw[←hx2]at q2 l2 hs;have p16:((j:Int)-16).toNat=j-16:=by omega
    have q16:=gl (j-16) (by omega);have l16:=wlt (j-16);obtain ⟨x16,hx16⟩:∃x,x=w.getD (j-16) 0:=⟨_,rfl⟩;rw[←hx16]at q16 l16 hs;have p7:((j:Int)-7).toNat=j-7:=by omega
    have q7:=gl (j-7) (by omega);have l7:=wlt (j-7);obtain ⟨x7,hx7⟩:∃x,x=w.getD (j-7) 0:=⟨_,rfl⟩;rw[←hx7]at q7 l7 hs;have e4:w.map eN++[[.int .i64 (((x16+(x7+(sg0 x15+sg1 x2)))%M32:Nat):Int)]]=(wS b (j+1)).map eN:=by rw[hs,wQ,zA,zA];rfl
    have ew1:=fun F L nx=>zD5 (F:=F) (L:=L) (nx:=nx) x15 (vD l15 (by decide))
    have ew2:=fun F L nx=>zD5 (F:=F) (L:=L) (nx:=nx) x2 (vD l2 (by decide))
    have w1:=zQV (zHa l15);have w2:=zQW (zHa l2);have t7:=fun F L nx=>zBi (F:=F) (L:=L) (nx:=nx) (wB x15) 7 (by omega)
    have t18:=fun F L nx=>zBi (F:=F) (L:=L) (nx:=nx) (wB x15) 18 (by omega)
    have m3:=fun F L nx=>zLI (F:=F) (L:=L) (nx:=nx) (wB x15) 3 (by omega)
    have t17:=fun F L nx=>zBi (F:=F) (L:=L) (nx:=nx) (wB x2) 17 (by omega)
    have t19:=fun F L nx=>zBi (F:=F) (L:=L) (nx:=nx) (wB x2) 19 (by omega)
    have m10:=fun F L nx=>zLI (F:=F) (L:=L) (nx:=nx) (wB x2) 10 (by omega)
    have h3:=fun F L nx=>zFL (F:=F) (L:=L) (nx:=nx) (tnB (wB x15) 7) (tnB (wB x15) 18) (mvB (wB x15) 3)
    have h10:=fun F L nx=>zFL (F:=F) (L:=L) (nx:=nx) (tnB (wB x2) 17) (tnB (wB x2) 19) (mvB (wB x2) 10)
    have v3:=fun F L nx=>zEQ (F:=F) (L:=L) (nx:=nx) (xoB (xoB (tnB (wB x15) 7) (tnB (wB x15) 18)) (mvB (wB x15) 3))
    have v10:=fun F L nx=>zEQ (F:=F) (L:=L) (nx:=nx) (xoB (xoB (tnB (wB x2) 17) (tnB (wB x2) 19)) (mvB (wB x2) 10))
    rw[w1.val]at v3;rw[w2.val]at v10;have s0l:=w1.1;have s1l:=w2.1;unfold M32 at l15 l2 l16 l7 s0l s1l;have hsm:=fun F L nx=>zER (F:=F) (L:=L) (nx:=nx) x16 x7 (sg0 x15) (sg1 x2) 0 (by omega) (by omega) (by omega) (by omega) (by omega)
    simp only[wH]at hsm;have z64:∀a:Nat,(0+a)=a:=zP;simp only[g1,g2,p15,q15,hwl,zK,q_0,zA,go_sem];repeat refine sd2 ?_
    refine CallVC.same (ew1 _ _ _) ?_;simp only[p2,q2,hwl,zK,q_0,zA,go_sem];repeat refine sd2 ?_
    refine CallVC.same (ew2 _ _ _) ?_;simp only[p16,p7,q16,q7,hwl,ln,nf9,d32,zAv,zK,q_0,q_n1,q_n2,kS2,kS3,zA,go_sem];repeat refine sd2 ?_
    refine ⟨zAA (fun x=>if x.i=q then 1 else if x.i=0 then 2 else x.i%10000+100) (by simp only[zA0,List.map,if_true,if_false,uK,Nat.reduceMod,q_0,q_n1];kernel_rfl),?_⟩;repeat refine sd2 ?_
    refine CallVC.same (t7 _ _ _) ?_;simp only[zAv,zK,q_n1,kS2,kS3,zA,go_sem];repeat refine sd2 ?_
    refine CallVC.same (t18 _ _ _) ?_;simp only[zAv,zK,q_n1,kS2,kS3,zA,go_sem];repeat refine sd2 ?_
    refine CallVC.same (m3 _ _ _) ?_;simp only[zK,go_sem];repeat refine sd2 ?_
    refine CallVC.same (h3 _ _ _) ?_;simp only[zK,go_sem];repeat refine sd2 ?_
    refine CallVC.same (v3 _ _ _) ?_;simp only[zAv,zK,q_n1,kS2,kS3,zA,go_sem];repeat refine sd2 ?_
    refine CallVC.same (t17 _ _ _) ?_;simp only[zAv,zK,q_n1,kS2,kS3,zA,go_sem];repeat refine sd2 ?_
    refine CallVC.same (t19 _ _ _) ?_;simp only[zAv,zK,q_n1,kS2,kS3,zA,go_sem];repeat refine sd2 ?_
    refine CallVC.same (m10 _ _ _) ?_;simp only[zK,go_sem];repeat refine sd2 ?_
    refine CallVC.same (h10 _ _ _) ?_;simp only[zK,go_sem];repeat refine sd2 ?_
    refine CallVC.same (v10 _ _ _) ?_;simp only[zK,go_sem];repeat refine sd2 ?_
    refine CallVC.same (hsm _ _ _) ?_;simp only[hwl,q_0,q_n1,q_n2,q_n5,kS2,kS3,zA,go_sem];repeat refine sd2 ?_
    refine ⟨zAA (fun x=>if x.i=q then 1 else if x.i=0 then 2 else x.i%10000+100) (by simp only[zA0,List.map,if_true,if_false,uK,Nat.reduceMod,q_0,q_n1];kernel_rfl),?_⟩;repeat refine sd2 ?_
    refine ⟨(j+1,10000*(i+1)+1152),⟨by simp only[];omega,by simp only[];omega,by simp only[];omega⟩,by simp only[];omega,?_⟩;simp only[];rw[←e4,hi1];refine Sub.o hF2 ?_;simp only[zAi,Tx.look,zCU,if_true,if_false,and_true,n0_q,q_n1,kS3,Nat.reduceEqDiff]
  ·have g1:decide ((j:Int)<64)=false:=dF (by omega);obtain rfl:j=64:=by omega
   have tw:List.take 64 ((wS b 64).map eN)=(wS b 64).map eN:=zQ (by omega);simp only[g1,zA,go_sem];repeat refine sd2 ?_
   refine ⟨(),Sub.trans (zUu 7 (.fs 1 ((wS b 64).map eN)) rfl (by simp[Wk,Tx.look,tw,q_0,hwl])) ?_⟩;refine Sub.of (hfz hF2) (by simp only[go_sem,zAf,and_self];try trivial) ?_ ?_ (by simp only[];omega);·simp[zAi,Tx.look,zAl,setH,unown,wkN,q_0]
   ·simp[zAs,keys,zAl,setH,unown,wkN,Tx.look,q_0]
 obtain ⟨W,hW⟩:∃W,W=(wS b 64).map eN:=⟨_,rfl⟩;rw[←hW];have hhl:(h.map eN).length=8:=by rw[zG];exact h8.1
 refine vcu ⟨[none,some (.fs 1 (h.map eN)),none,some (.ptr ⟨L+1,0⟩ 0 0),none,none,some (.nilS),some (.fs 1 W),none,none,none,some (.nilS)]++oz 195,[(⟨L+1,0⟩,.rows 53 2 true true [zBB st k])],1010000⟩ ?_ ?_
 ·simp only[Tryz.f146,go_sem];repeat refine sd2 ?_
  refine ⟨(),(so0 hF2)⟩
 refine vcu ⟨[none,some (.fs 1 (h.map eN)),none,some (.ptr ⟨L+1,0⟩ 0 0),none,none,some (.nilS),some (.fs 1 W),none,none,none,some (.fs 1 (h.map eN))]++oz 195,[(⟨L+1,0⟩,.rows 53 2 true true [zBB st k])],1020000⟩ ?_ ?_
 ·simp only[Tryz.f146,hhl,go_sem];repeat refine sd2 ?_
  have th:List.take 8 (h.map eN)=h.map eN:=zQ (by omega);refine ⟨(),Sub.trans (zUu 11 (.fs 1 (h.map eN)) rfl (by simp[Wk,Tx.look,th,hhl])) ?_⟩;refine Sub.of (hfz hF2) (by simp only[go_sem,zAf,and_self];try trivial) ?_ ?_ (by simp);·simp[zAi,Tx.look,zAl,setH,unown,wkN]
  ·simp[zAs,keys,zAl,setH,unown,wkN,Tx.look]
 obtain ⟨V64,hV64⟩:∃V,V=zIq k (wS b 64) h 64:=⟨_,rfl⟩;have hWl:W.length=64:=by rw[hW,zG,zFG]
 refine vcu ⟨[none,some (.fs 1 (h.map eN)),none,none,none,none,some (.nilS),none,none,none,none,some (.fs 1 (V64.map eN))]++oz 195,[],3000000⟩ ?_ ?_
 ·simp only[Tryz.f146,go_sem];repeat refine sd2 ?_
  refine loopK.intro _ _ (I:=fun j:Nat=>⟨[none,some (.fs 1 (h.map eN)),none,some (.ptr ⟨L+1,0⟩ 0 0),none,none,some (.nilS),some (.fs 1 W),none,none,none,some (.fs 1 ((zIq k (wS b 64) h j).map eN)),some (.int .i64 (j:Int))]++oz 194,[(⟨L+1,0⟩,.rows 53 2 true true [zBB st k])],10000*(200+j)⟩)
   (pre:=fun j=>j≤64) (μ:=fun j=>64-j) 0 (by omega) ?_ ?_
  ·refine Sub.of (hfz hF2) (by simp only[go_sem,zAf,and_self,zW,zIq];try trivial) ?_ (by simp[zAs,keys]) (by simp);simp[zAi,Tx.look]
  intro j hj;have hv8:=zKw h8 k (wS b 64) j;have hs:zIq k (wS b 64) h (j+1)=rdS (zIq k (wS b 64) h j) (k.getD j 0) ((wS b 64).getD j 0):=rfl;have gl:=zFM (zIq k (wS b 64) h j);rw[hv8.1]at gl;have hvl:((zIq k (wS b 64) h j).map eN).length=8:=by rw[zG];exact hv8.1
  obtain ⟨V,hV⟩:∃V,V=zIq k (wS b 64) h j:=⟨_,rfl⟩;rw[←hV]at hv8 hs gl hvl ⊢;obtain ⟨i,hi⟩:∃i,i=199+j:=⟨_,rfl⟩;have hi1:200+j=i+1:=by omega
  rw[hi1];by_cases hlt:j<64
  ·have g1:decide ((j:Int)<64)=true:=dT (by omega);have gk:=zFM k j (by omega);have gw:W.getD j []=[.int .i64 (((wS b 64).getD j 0:Nat):Int)]:=by rw[hW];exact zFM _ j (by rw[zFG];exact hlt)
   have lk:=hkl j;have lw:=zNG b 64 j;obtain ⟨kj,hkj⟩:∃x,x=k.getD j 0:=⟨_,rfl⟩;obtain ⟨wj,hwj⟩:∃x,x=(wS b 64).getD j 0:=⟨_,rfl⟩;rw[←hkj]at gk lk hs;rw[←hwj]at gw lw hs;have hkl9:(k.map eN).length=64:=by rw[zG];exact hk
   have tk0:(zBB st k).getD 1 (.tup [])= .fs 1 (k.map eN):=rfl;unfold rdS at hs;have q0:=gl 0 (by omega);have l0:=hv8.2 0;obtain ⟨x0,hx0⟩:∃x,x=V.getD 0 0:=⟨_,rfl⟩;rw[←hx0]at q0 l0 hs;have q1:=gl 1 (by omega);have l1:=hv8.2 1;obtain ⟨x1,hx1⟩:∃x,x=V.getD 1 0:=⟨_,rfl⟩;rw[←hx1]at q1 l1 hs;have q2:=gl 2 (by omega);have l2:=hv8.2 2;obtain ⟨x2,hx2⟩:∃x,x=V.getD 2 0:=⟨_,rfl⟩;rw[←hx2]at q2 l2 hs;have q3:=gl 3 (by omega);have l3:=hv8.2 3;obtain ⟨x3,hx3⟩:∃x,x=V.getD 3 0:=⟨_,rfl⟩;rw[←hx3]at q3 l3 hs;have q4:=gl 4 (by omega);have l4:=hv8.2 4;obtain ⟨x4,hx4⟩:∃x,x=V.getD 4 0:=⟨_,rfl⟩;rw[←hx4]at q4 l4 hs;have q5:=gl 5 (by omega);have l5:=hv8.2 5;obtain ⟨x5,hx5⟩:∃x,x=V.getD 5 0:=⟨_,rfl⟩;rw[←hx5]at q5 l5 hs;have q6:=gl 6 (by omega);have l6:=hv8.2 6;obtain ⟨x6,hx6⟩:∃x,x=V.getD 6 0:=⟨_,rfl⟩;rw[←hx6]at q6 l6 hs;have q7:=gl 7 (by omega);have l7:=hv8.2 7;obtain ⟨x7,hx7⟩:∃x,x=V.getD 7 0:=⟨_,rfl⟩;rw[←hx7]at q7 l7 hs;have ew0:=fun F L nx=>zD5 (F:=F) (L:=L) (nx:=nx) x0 (vD l0 (by decide))
   have ew1:=fun F L nx=>zD5 (F:=F) (L:=L) (nx:=nx) x1 (vD l1 (by decide))
   have ew2:=fun F L nx=>zD5 (F:=F) (L:=L) (nx:=nx) x2 (vD l2 (by decide))
   have ew4:=fun F L nx=>zD5 (F:=F) (L:=L) (nx:=nx) x4 (vD l4 (by decide))
   have ew5:=fun F L nx=>zD5 (F:=F) (L:=L) (nx:=nx) x5 (vD l5 (by decide))
   have ew6:=fun F L nx=>zD5 (F:=F) (L:=L) (nx:=nx) x6 (vD l6 (by decide))
   have te6:=fun F L nx=>zBi (F:=F) (L:=L) (nx:=nx) (wB x4) 6 (by omega)
   have te11:=fun F L nx=>zBi (F:=F) (L:=L) (nx:=nx) (wB x4) 11 (by omega)
   have te25:=fun F L nx=>zBi (F:=F) (L:=L) (nx:=nx) (wB x4) 25 (by omega)
   have ta2:=fun F L nx=>zBi (F:=F) (L:=L) (nx:=nx) (wB x0) 2 (by omega)
   have ta13:=fun F L nx=>zBi (F:=F) (L:=L) (nx:=nx) (wB x0) 13 (by omega)
   have ta22:=fun F L nx=>zBi (F:=F) (L:=L) (nx:=nx) (wB x0) 22 (by omega)
   have th3:=fun F L nx=>zFL (F:=F) (L:=L) (nx:=nx) (tnB (wB x4) 6) (tnB (wB x4) 11) (tnB (wB x4) 25)
   have ve:=fun F L nx=>zEQ (F:=F) (L:=L) (nx:=nx) (xoB (xoB (tnB (wB x4) 6) (tnB (wB x4) 11)) (tnB (wB x4) 25))
   have a1:=fun F L nx=>zJW (F:=F) (L:=L) (nx:=nx) (wB x4) (wB x5)
   have n1:=fun F L nx=>zSF (F:=F) (L:=L) (nx:=nx) (wB x4)
   have a2:=fun F L nx=>zJW (F:=F) (L:=L) (nx:=nx) (noB (wB x4)) (wB x6)
   have xc:=fun F L nx=>zNq (F:=F) (L:=L) (nx:=nx) (anB (wB x4) (wB x5)) (anB (noB (wB x4)) (wB x6))
   have vc:=fun F L nx=>zEQ (F:=F) (L:=L) (nx:=nx) (xoB (anB (wB x4) (wB x5)) (anB (noB (wB x4)) (wB x6)))
   have ta3:=fun F L nx=>zFL (F:=F) (L:=L) (nx:=nx) (tnB (wB x0) 2) (tnB (wB x0) 13) (tnB (wB x0) 22)
   have va:=fun F L nx=>zEQ (F:=F) (L:=L) (nx:=nx) (xoB (xoB (tnB (wB x0) 2) (tnB (wB x0) 13)) (tnB (wB x0) 22))
   have b1:=fun F L nx=>zJW (F:=F) (L:=L) (nx:=nx) (wB x0) (wB x1)
   have b2:=fun F L nx=>zJW (F:=F) (L:=L) (nx:=nx) (wB x0) (wB x2)
   have b3:=fun F L nx=>zJW (F:=F) (L:=L) (nx:=nx) (wB x1) (wB x2)
   have tb3:=fun F L nx=>zFL (F:=F) (L:=L) (nx:=nx) (anB (wB x0) (wB x1)) (anB (wB x0) (wB x2)) (anB (wB x1) (wB x2))
   have vm:=fun F L nx=>zEQ (F:=F) (L:=L) (nx:=nx) (xoB (xoB (anB (wB x0) (wB x1)) (anB (wB x0) (wB x2))) (anB (wB x1) (wB x2)))
   have we:=zQY (zHa l4);have wc:=zRs (zHa l4) (zHa l5) (zHa l6);have wa:=zQX (zHa l0);have wm:=zRt (zHa l0) (zHa l1) (zHa l2);rw[we.val]at ve;rw[wc.val]at vc;rw[wa.val]at va;rw[wm.val]at vm;have y1:=we.1;have y2:=wc.1;have y3:=wa.1;have y4:=wm.1;obtain ⟨e1,he1⟩:∃x,x=bg1 x4:=⟨_,rfl⟩;obtain ⟨c1,hc1⟩:∃x,x=chS x4 x5 x6:=⟨_,rfl⟩;obtain ⟨a0,ha0⟩:∃x,x=bg0 x0:=⟨_,rfl⟩;obtain ⟨m0,hm0⟩:∃x,x=mjS x0 x1 x2:=⟨_,rfl⟩;rw[←he1]at ve y1 hs;rw[←hc1]at vc y2 hs;rw[←ha0]at va y3 hs;rw[←hm0]at vm y4 hs;have s1:=fun F L nx=>zER (F:=F) (L:=L) (nx:=nx) x7 e1 c1 kj wj (by unfold M32 at *;omega) (by unfold M32 at *;omega) (by unfold M32 at *;omega) (by unfold M32 at *;omega) (by unfold M32 at *;omega)
   have s2:=fun F L nx=>zER (F:=F) (L:=L) (nx:=nx) a0 m0 0 0 0 (by unfold M32 at *;omega) (by unfold M32 at *;omega) (by omega) (by omega) (by omega)
   simp only[wH]at s2;have o1:=zEL (x7+e1+c1+kj+wj);have o2:=zEL (a0+m0);obtain ⟨on1,h1⟩:∃x,x=(x7+e1+c1+kj+wj)%M32:=⟨_,rfl⟩;obtain ⟨tw1,h2⟩:∃x,x=(a0+m0)%M32:=⟨_,rfl⟩;rw[←h1]at s1 o1 hs;rw[←h2]at s2 o2 hs;have s3:=fun F L nx=>zER (F:=F) (L:=L) (nx:=nx) on1 tw1 0 0 0 (by unfold M32 at *;omega) (by unfold M32 at *;omega) (by omega) (by omega) (by omega)
   have s4:=fun F L nx=>zER (F:=F) (L:=L) (nx:=nx) x3 on1 0 0 0 (by unfold M32 at *;omega) (by unfold M32 at *;omega) (by omega) (by omega) (by omega)
   simp only[wH,zW]at s2 s3 s4;have e8:[[.int .i64 (((on1+tw1)%M32:Nat):Int)],[.int .i64 (x0:Int)],[.int .i64 (x1:Int)],[.int .i64 (x2:Int)],[.int .i64 (((x3+on1)%M32:Nat):Int)],[.int .i64 (x4:Int)],[.int .i64 (x5:Int)],[.int .i64 (x6:Int)]]=(zIq k (wS b 64) h (j+1)).map eN:=by rw[hs];rfl
   simp only[g1,hvl,q0,zK,zA,go_sem];repeat refine sd2 ?_
   refine CallVC.same (ew0 _ _ _) ?_;simp only[hvl,q1,zK,zA,go_sem];repeat refine sd2 ?_
   refine CallVC.same (ew1 _ _ _) ?_;simp only[hvl,q2,zK,zA,go_sem];repeat refine sd2 ?_
   refine CallVC.same (ew2 _ _ _) ?_;simp only[hvl,q4,ln,nf9,d32,zAv,zK,kS2,kS3,zA,go_sem];repeat refine sd2 ?_
   refine ⟨zAA (fun x=>if x.i=0 then 2 else x.i%10000+100) (by simp only[zA0,List.map,uK,Nat.reduceMod];kernel_rfl),?_⟩;repeat refine sd2 ?_
   refine CallVC.same (ew4 _ _ _) ?_;simp only[hvl,q5,zK,zA,go_sem];repeat refine sd2 ?_
   refine CallVC.same (ew5 _ _ _) ?_;simp only[hvl,q6,zK,zA,go_sem];repeat refine sd2 ?_
   refine CallVC.same (ew6 _ _ _) ?_;simp only[hvl,q7,ln,nf9,d32,zAv,zK,kS2,kS3,zA,go_sem];repeat refine sd2 ?_
   refine ⟨zAA (fun x=>if x.i=0 then 2 else x.i%10000+100) (by simp only[zA0,List.map,uK,Nat.reduceMod];kernel_rfl),?_⟩;repeat refine sd2 ?_
   refine CallVC.same (te6 _ _ _) ?_;simp only[zAv,zK,kS2,kS3,zA,go_sem];repeat refine sd2 ?_
   refine CallVC.same (te11 _ _ _) ?_;simp only[zAv,zK,kS2,kS3,zA,go_sem];repeat refine sd2 ?_
   refine CallVC.same (te25 _ _ _) ?_;simp only[zK,go_sem];repeat refine sd2 ?_
   refine CallVC.same (th3 _ _ _) ?_;simp only[zK,go_sem];repeat refine sd2 ?_
   refine CallVC.same (ve _ _ _) ?_;simp only[zAv,zK,kS2,kS3,zA,go_sem];repeat refine sd2 ?_
   refine CallVC.same (a1 _ _ _) ?_;simp only[zAv,zK,kS2,kS3,zA,go_sem];repeat refine sd2 ?_
   refine CallVC.same (n1 _ _ _) ?_;simp only[zAv,zK,kS2,kS3,zA,go_sem];repeat refine sd2 ?_
   refine CallVC.same (a2 _ _ _) ?_;simp only[zK,go_sem];repeat refine sd2 ?_
   refine CallVC.same (xc _ _ _) ?_;simp only[zK,go_sem];repeat refine sd2 ?_
   refine CallVC.same (vc _ _ _) ?_;simp only[tk0,gk,gw,hkl9,hWl,zK,zT7,zA,go_sem];repeat refine sd2 ?_
   refine CallVC.same (s1 _ _ _) ?_;simp only[zAv,zK,kS2,kS3,zA,go_sem];repeat refine sd2 ?_
   refine ⟨zAA (fun x=>if x.i=0 then 2 else x.i%10000+100) (by simp only[zA0,List.map,if_true,uK,Nat.reduceMod];kernel_rfl),?_⟩;repeat refine sd2 ?_
   refine CallVC.same (ta2 _ _ _) ?_;simp only[zAv,zK,kS2,kS3,zA,go_sem];repeat refine sd2 ?_
   refine CallVC.same (ta13 _ _ _) ?_;simp only[zAv,zK,kS2,kS3,zA,go_sem];repeat refine sd2 ?_
   refine CallVC.same (ta22 _ _ _) ?_;simp only[zK,go_sem];repeat refine sd2 ?_
   refine CallVC.same (ta3 _ _ _) ?_;simp only[zK,go_sem];repeat refine sd2 ?_
   refine CallVC.same (va _ _ _) ?_;simp only[zAv,zK,kS2,kS3,zA,go_sem];repeat refine sd2 ?_
   refine CallVC.same (b1 _ _ _) ?_;simp only[zAv,zK,kS2,kS3,zA,go_sem];repeat refine sd2 ?_
   refine CallVC.same (b2 _ _ _) ?_;simp only[zAv,zK,kS2,kS3,zA,go_sem];repeat refine sd2 ?_
   refine CallVC.same (b3 _ _ _) ?_;simp only[zK,go_sem];repeat refine sd2 ?_
   refine CallVC.same (tb3 _ _ _) ?_;simp only[zK,go_sem];repeat refine sd2 ?_
   refine CallVC.same (vm _ _ _) ?_;simp only[zK,go_sem];repeat refine sd2 ?_
   refine CallVC.same (s2 _ _ _) ?_;simp only[zK,zA,go_sem];repeat refine sd2 ?_
   refine ⟨zAA (fun x=>if x.i=0 then 2 else x.i%10000+100) (by simp only[zA0,List.map,uK,Nat.reduceMod];kernel_rfl),?_⟩;repeat refine sd2 ?_
   refine CallVC.same (s3 _ _ _) ?_;simp only[hvl,q0,q1,q2,q3,zK,zA,go_sem];repeat refine sd2 ?_
   refine CallVC.same (s4 _ _ _) ?_;simp only[hvl,q4,q5,q6,kS2,kS3,zA,go_sem];repeat refine sd2 ?_
   refine ⟨zAA (fun x=>if x.i=0 then 2 else x.i%10000+100) (by simp only[zA0,List.map,uK,Nat.reduceMod];kernel_rfl),?_⟩;repeat refine sd2 ?_
   refine ⟨j+1,by omega,by omega,?_⟩;rw[←e8,show 200+(j+1)=i+1+1 by omega];refine Sub.trans (zUu 11 (.fs 1 [[.int .i64 (((on1+tw1)%M32:Nat):Int)],[.int .i64 (x0:Int)],[.int .i64 (x1:Int)],[.int .i64 (x2:Int)],[.int .i64 (((x3+on1)%M32:Nat):Int)],[.int .i64 (x4:Int)],[.int .i64 (x5:Int)],[.int .i64 (x6:Int)]]) rfl (by simp[Wk,Tx.look])) ?_;refine Sub.of (hfz hF2) (by simp only[go_sem,zAf,and_self,zY];try trivial) ?_ ?_ (by simp only[];omega);·simp[zAi,Tx.look,zAl,setH,unown,wkN]
   ·simp[zAs,keys,zAl,setH,unown,wkN,Tx.look]
  ·have g1:decide ((j:Int)<64)=false:=dF (by omega);obtain rfl:j=64:=by omega
   rw[←hV64]at hV;subst hV;simp only[g1,zA,go_sem];repeat refine sd2 ?_
   exact ⟨(),(so0 hF2 (h4:=by simp only[];omega))⟩
 have h68:W8 V64:=by rw[hV64];exact zKw h8 k (wS b 64) 64
 have hres:zRD k h b=zL6 h V64:=by rw[hV64];rfl
 rw[hres];have gh:=zFM h;have gv:=zFM V64;rw[h8.1]at gh;rw[h68.1]at gv;have hvl:(V64.map eN).length=8:=by rw[zG];exact h68.1
 refine vcu ⟨[none,some (.fs 1 (h.map eN)),none,none,none,none,some (.nilS),none,none,none,none,some (.fs 1 (V64.map eN))]++oz 9++[some (.nilS)]++oz 185,[],4000000⟩ ?_ ?_
 ·simp only[Tryz.f146,go_sem];repeat refine sd2 ?_
  refine ⟨(),(so0 hF2)⟩
 refine VT.of (zAg (L+1)) ?_;simp only[Tryz.f146,go_sem];repeat refine sd2 ?_
 refine loopK.intro _ _ (I:=fun z:Nat×Nat=>⟨[none,some (.fs 1 (h.map eN)),none,none,none,none,some (.nilS),none,none,none,none,some (.fs 1 (V64.map eN))]++oz 9++[some (.sl ⟨L+1,z.2⟩ 0 z.1),some (.int .i64 z.1)]++oz 184,[(⟨L+1,z.2⟩,.rows 3 1 true true (((List.range z.1).map fun x=>(h.getD x 0+V64.getD x 0)%M32).map eN))],10000*(400+z.1+1)⟩)
   (pre:=fun z=>z.1≤8∧0<z.2∧z.2<10000*(400+z.1+1)) (μ:=fun z=>8-z.1) (0,4000032) ⟨by simp,by simp,by simp⟩ ?_ ?_
 ·refine Sub.trans (zUm 21 3 (wd:=1) (by omega) rfl) ?_;refine Sub.of (hfz hF2) (by simp only[go_sem,zAf,and_self,zW]) ?_ ?_ ?_;·simp[zAi,Tx.look,zAl,setH]
  ·simp[zAs,keys,zAl,setH]
  ·simp
 rintro ⟨j,q⟩ ⟨hj,hq0,hq⟩
 simp only at hj hq0 hq ⊢;obtain ⟨i,hi⟩:∃i,i=400+j:=⟨_,rfl⟩;rw[←hi]at hq ⊢;have hi1:400+(j+1+1)=i+1+1:=by omega
 obtain ⟨q_n1,q_n2,q_n3,q_n4,q_n5⟩:=nqL L (i:=i) (p:=q) (by omega);have hol:(((List.range j).map fun x=>(h.getD x 0+V64.getD x 0)%M32).map eN).length=j:=by simp
 have hos:((List.range (j+1)).map fun x=>(h.getD x 0+V64.getD x 0)%M32).map eN=((List.range j).map fun x=>(h.getD x 0+V64.getD x 0)%M32).map eN++[[.int .i64 (((h.getD j 0+V64.getD j 0)%M32:Nat):Int)]]:=by rw[List.range_succ,wQ,wQ];rfl
 obtain ⟨O,hO⟩:∃O,O=((List.range j).map fun x=>(h.getD x 0+V64.getD x 0)%M32).map eN:=⟨_,rfl⟩;rw[←hO]at hol hos ⊢;by_cases hlt:j<8
 ·have g1:decide ((j:Int)<8)=true:=dT (by omega);have q1:=gh j hlt;have q2:=gv j hlt;have l1:=h8.2 j;have l2:=h68.2 j;obtain ⟨x1,hx1⟩:∃x,x=h.getD j 0:=⟨_,rfl⟩;obtain ⟨x2,hx2⟩:∃x,x=V64.getD j 0:=⟨_,rfl⟩;rw[←hx1]at q1 l1 hos;rw[←hx2]at q2 l2 hos;have s1:=fun F L nx=>zER (F:=F) (L:=L) (nx:=nx) x1 x2 0 0 0 (by unfold M32 at *;omega) (by unfold M32 at *;omega) (by omega) (by omega) (by omega)
  simp only[wH,zW]at s1;simp only[g1,q1,q2,hhl,hvl,zA,go_sem];repeat refine sd2 ?_
  refine CallVC.same (s1 _ _ _) ?_;simp only[hol,q_n1,q_n2,q_n5,kS3,zA,go_sem];repeat refine sd2 ?_
  refine ⟨zAA (fun x=>if x.i=q then 1 else x.i%10000+100) (by simp only[zA0,List.map,if_true,if_false,uK,Nat.reduceMod,q_n1];kernel_rfl),?_⟩;repeat refine sd2 ?_
  refine ⟨(j+1,10000*(i+1)+384),⟨by simp only[];omega,by simp only[];omega,by simp only[];omega⟩,by simp only[];omega,?_⟩;simp only[];rw[hos,hi1];refine Sub.o hF2 ?_;simp only[zAi,Tx.look,zCU,if_true,if_false,and_true,q_n1,kS3,Nat.reduceEqDiff]
 ·have g1:decide ((j:Int)<8)=false:=dF (by omega);obtain rfl:j=8:=by omega
  have hOa:O=(zL6 h V64).map eN:=hO;rw[hOa]at hol ⊢;have to:List.take 8 ((zL6 h V64).map eN)=(zL6 h V64).map eN:=zQ (by omega);simp only[g1,zA,go_sem];repeat refine sd2 ?_
  exact PostF.rs (v0:=.sl ⟨L+1,q⟩ 0 8) (.inr rfl) (hw:=by simp[Wk,Tx.look,to,hol])
theorem zQx{F:SF}{L nx:Nat}(st k h:List Nat)(s:List UInt8)(hk:k.length=64)(hkl:∀i,k.getD i 0<M32)(h8:W8 h)(hs:s.length≤100000000):Con Tryz.prog 135 [.agg (zBB st k),.fs 1 (h.map eN),.str s] F L nx nx (.fs 1 ((zBO k h s (s.length/64)).map eN)) [] []:=by
 have tl:(zBB st k).length=2:=rfl;have tn:=zCg st k;refine bdy Tryz.f135 ?_;intro F3 hF1 hF2;simp only[Tryz.f135,tl,tn,go_sem];repeat refine sd2 ?_
 refine loopK.intro _ _ (I:=fun j:Nat=>⟨[none,some (.fs 1 ((zBO k h s j).map eN)),some (.str s),some (.ptr ⟨L+1,0⟩ 0 0),none,none,some (.nilS),some (.int .i64 ((64*j:Nat):Int))]++oz 16,[(⟨L+1,0⟩,.rows 53 2 true true [zBB st k])],10000*(j+1)⟩) (pre:=fun j=>64*j≤s.length) (μ:=fun j=>s.length/64-j) 0 (by omega) ?_ ?_;·exact (so0 hF2 (h1:=by(simp only[go_sem,zAf,and_self,zBO,Nat.mul_zero,zW];try trivial)))
 intro j hj;have hm:=zD2 h8 k s j;have hs1:zBO k h s (j+1)=zRD k (zBO k h s j) ((s.drop (64*j)).take 64):=rfl;have i1:Sx.zCn (((64*j:Nat):Int)+64):=by show _∧_;omega
 by_cases hlt:64*j+64≤s.length
 ·have g1:decide (((64*j:Nat):Int)+64≤(s.length:Int))=true:=dT (by omega);have n1:(((64*j:Nat):Int)+64).toNat=64*j+64:=by omega
  have n2:(((64*j:Nat):Int)).toNat=64*j:=by omega
  have n3:64*j+64-64*j=64:=by omega
  have hM:=fun F L nx=>zQw (F:=F) (L:=L) (nx:=nx) st k (zBO k h s j) ((s.drop (64*j)).take 64) hk hkl hm (by rw[wI,wU];omega)
  rw[←hs1]at hM;simp only[g1,n1,n2,n3,zA,go_sem];repeat refine sd2 ?_
  refine CallVC.same (hM _ _ _) ?_;simp only[zA,go_sem];repeat refine sd2 ?_
  refine ⟨zAA (fun x=>x.i) (by simp only[zA0,List.map];kernel_rfl),?_⟩;repeat refine sd2 ?_
  refine ⟨j+1,by omega,by omega,?_⟩;exact (so0 hF2 (h1:=by(simp only[go_sem,zAf,and_self,Nat.mul_add,wG,vB,show ((64:Nat):Int)=64 from rfl];try trivial)) (h4:=by simp only[];omega))
 ·have g1:decide (((64*j:Nat):Int)+64≤(s.length:Int))=false:=dF (by omega);obtain rfl:j=s.length/64:=by omega
  simp only[g1,zA,go_sem];repeat refine sd2 ?_
  exact ps0
theorem zQy(b:UInt8):∀row∈[[PV.int .u8 (b.toNat:Int)]],zGm row:=fun row hr=>by
 obtain rfl:=List.mem_singleton.1 hr;exact ⟨_,rfl⟩
theorem zQz{F:SF}{L nx:Nat}(h:List Nat)(hh:∀i,h.getD i 0<M32)(hl:h.length≤100):Con Tryz.prog 134 [.fs 1 (h.map eN)] F L nx nx (.str (zGR h)) [] []:=by
 refine bdy Tryz.f134 ?_;intro F3 hF1 hF2;simp only[Tryz.f134,go_sem];repeat refine sd2 ?_
 refine loopK.intro _ _ (I:=fun j:Nat=>⟨[some (.fs 1 (h.map eN)),none,some (.str []),some (.str (zGR (h.take j))),some (.int .i64 (j:Int))]++oz 14,[],10000*(j+1)⟩) (pre:=fun j=>j≤h.length) (μ:=fun j=>h.length-j) 0 (by omega) ?_ ?_;·exact (so0 hF2 (h1:=by(simp only[go_sem,zAf,and_self,uG,zGR,List.flatMap_nil,zW];try trivial)))
 intro j hj;have hml:(h.map eN).length=h.length:=zG ..;by_cases hlt:j<h.length
 ·have g1:decide ((j:Int)<(h.length:Int))=true:=dT (by omega);have gj:=zFM h j hlt;have lx:=hh j;have hP:=fun F L nx=>zCp (F:=F) (L:=L) (nx:=nx) 4 (h.getD j 0) (by omega) (by unfold M32 at lx;omega)
  have e4:zGR (h.take (j+1))=zGR (h.take j)++zAa 4 (h.getD j 0):=by
   have hgd:h.getD j 0=h[j]:=by simp[zE,hlt]
   rw[uX hlt,hgd];simp only[zGR,List.flatMap_append,uW,List.flatMap_nil,zK]
  have hoc:=zIe (h.take j);rw[wI]at hoc;have hpl:=zAL 4 (h.getD j 0);simp only[g1,hml,gj,zA,go_sem];repeat refine sd2 ?_
  refine CallVC.same (hP _ _ _) ?_;simp only[zA,go_sem];repeat refine sd2 ?_
  refine ⟨j+1,by omega,by omega,?_⟩;exact (so0 hF2 (h1:=by(simp only[go_sem,zAf,and_self,e4,zY];try trivial)) (h4:=by simp only[];omega))
 ·have g1:decide ((j:Int)<(h.length:Int))=false:=dF (by omega);obtain rfl:j=h.length:=by omega
  simp only[g1,hml,qI,zA,go_sem];repeat refine sd2 ?_
  exact ps0
theorem zPC{F:SF}{L nx:Nat}(l:List UInt8)(c:Nat)(hl:l.length<64)(hc:c<2^50):Con Tryz.prog 136 [.str l,.int .i64 c] F L nx nx (.str (zGH l c)) [] []:=by
 have b128:zBc [[.int .u8 128]]=[128]:=rfl;have b0:zBc [[.int .u8 0]]=[0]:=rfl;have c0:zGH l c=(l++[128]++List.replicate ((119-l.length)%64) 0)++zAa 8 (8*c):=by unfold zGH;simp
 refine zUU (zAg (L+1)) rfl rfl (fn:=Tryz.f136) (c:=Tryz.f136.body.getD .skip) (by kernel_rfl) (by rfl) (by kernel_rfl) rfl (by simp) ?_;intro F3 hF1 hF2;refine vcu ⟨[some (.str l),some (.int .i64 c),none,none,some (.str [])]++oz 34,[],10000⟩ ?_ ?_
 ·simp only[Tryz.f136,go_sem];repeat refine sd2 ?_
  exact ⟨(),(so0 hF2)⟩
 refine vcu ⟨[none,some (.int .i64 c),none,none,some (.str []),some (.str (l++[128]))]++oz 33,[],20000⟩ ?_ ?_
 ·simp only[Tryz.f136,b128,go_sem];repeat refine sd2 ?_
  refine ⟨zQy 128,by omega,?_⟩;exact ⟨(),(so0 hF2)⟩
 refine vcu ⟨[none,some (.int .i64 c),none,none,some (.str []),some (.str (l++[128]++List.replicate ((119-l.length)%64) 0))]++oz 33,[],2000000⟩ ?_ ?_
 ·simp only[Tryz.f136,go_sem];repeat refine sd2 ?_
  refine loopK.intro _ _ (I:=fun j:Nat=>⟨[none,some (.int .i64 c),none,none,some (.str []),some (.str (l++[128]++List.replicate j 0))]++oz 33,[],10000*(2+j)⟩) (pre:=fun j=>j≤(119-l.length)%64) (μ:=fun j=>64-j) 0 (by omega) ?_ ?_;·exact (so0 hF2 (h1:=by(simp only[go_sem,zAf,and_self,zK];try trivial)))
  intro j hj;have hsl:(l++[128]++List.replicate j (0:UInt8)).length=l.length+1+j:=by simp;omega
  have e4:l++[128]++List.replicate j (0:UInt8)++[0]=l++[128]++List.replicate (j+1) 0:=by rw[List.replicate_succ',←vO]
  obtain ⟨S,hS⟩:∃S,S=l++[128]++List.replicate j (0:UInt8):=⟨_,rfl⟩;rw[←hS]at hsl e4 ⊢;obtain ⟨m,hm⟩:∃m,m=(l.length+1+j)%64:=⟨_,rfl⟩;have tm:((S.length:Nat):Int).tmod 64=((m:Nat):Int):=by rw[hsl,hm,wY (by omega)];rfl
  by_cases hlt:j<(119-l.length)%64
  ·have g1:(((m:Nat):Int) !=56)=true:=by simp;omega
   simp only[g1,tm,b0,zA,go_sem];repeat refine sd2 ?_
   refine ⟨zQy 0,by omega,?_⟩;refine ⟨j+1,by omega,by omega,?_⟩;rw[←e4];exact (so0 hF2 (h4:=by simp only[];omega))
  ·have g1:(((m:Nat):Int) !=56)=false:=by simp;omega
   obtain rfl:j=(119-l.length)%64:=by omega
   simp only[g1,tm,zA,go_sem];repeat refine sd2 ?_
   rw[←hS];exact ⟨(),(so0 hF2 (h4:=by simp only[];omega))⟩
 obtain ⟨S,hS⟩:∃S,S=l++[128]++List.replicate ((119-l.length)%64) (0:UInt8):=⟨_,rfl⟩;have hSl:S.length≤200:=by rw[hS];simp;omega
 rw[←hS]at c0 ⊢;refine vcu ⟨[none,none,none,none,some (.str []),some (.str S),some (.int .i64 ((8*c:Nat):Int))]++oz 32,[],2010000⟩ ?_ ?_
 ·simp only[Tryz.f136,go_sem];repeat refine sd2 ?_
  exact ⟨(),(so0 hF2 (h1:=by(simp only[go_sem,zAf,and_self,qK,show ((8:Nat):Int)=8 from rfl];try trivial)))⟩
 refine vcu ⟨[none,none,none,none,some (.str []),some (.str S),some (.int .i64 ((8*c:Nat):Int)),some (.str [])]++oz 31,[],2020000⟩ ?_ ?_
 ·simp only[Tryz.f136,go_sem];repeat refine sd2 ?_
  exact ⟨(),(so0 hF2)⟩
 refine VT.of (zAg (L+1)) ?_;simp only[Tryz.f136,go_sem];repeat refine sd2 ?_
 obtain ⟨n,hn⟩:∃n,n=8*c:=⟨_,rfl⟩;rw[←hn]at c0 ⊢;refine loopK.intro _ _ (I:=fun j:Nat=>⟨[none,none,none,none,some (.str []),some (.str S),some (.int .i64 ((n/256^j:Nat):Int)),some (.str (zAa j n)),some (.int .i64 (j:Int))]++oz 30,[],10000*(300+j)⟩) (pre:=fun j=>j≤8) (μ:=fun j=>8-j) 0 (by omega) ?_ ?_;·exact (so0 hF2 (h1:=by(simp only[go_sem,zAf,and_self,Nat.pow_zero,Nat.div_one,zW,zAa,List.range_zero,wM];try trivial)))
 intro j hj;have hy:n/256^j<2^53:=qA (qC _ _) (by omega);have hz:n/256^(j+1)=n/256^j/256:=by rw[Nat.pow_succ,Nat.div_div_eq_div_mul]
 have hs:=zHD j n;have hpl:=zAL j n;obtain ⟨u,hu⟩:∃u,u=n/256^j:=⟨_,rfl⟩;obtain ⟨B,hB⟩:∃B,B=zAa j n:=⟨_,rfl⟩;rw[←hu]at hy hz hs ⊢;rw[←hB]at hs hpl ⊢;by_cases hlt:j<8
 ·have g1:decide ((j:Int)<8)=true:=dT (by omega);have r1:(u:Int).tmod 256=((u%256:Nat):Int):=by rw[wY (by omega)];rfl
  have r3:(u:Int).tdiv 256=((u/256:Nat):Int):=by rw[uJ (by omega)];rfl
  have w8:IntKind.u8.wrap ((u%256:Nat):Int)=(((byN u).toNat:Nat):Int):=by
   unfold byN;rw[UInt8.toNat_ofNat'];simp[IntKind.wrap,IntKind.signed,IntKind.bits]
  have bb:zBc [[.int .u8 (((byN u).toNat:Nat):Int)]]=[byN u]:=by
   have:=zBK [byN u];simpa[zBY] using this
  have e4:[byN u]++B=zAa (j+1) n:=hs.symm;simp only[g1,r1,r3,w8,bb,zA,go_sem];repeat refine sd2 ?_
  refine ⟨zQy _,by omega,⟨by omega,by show _∧_;omega⟩,by show _∧_;omega,?_⟩;refine ⟨j+1,by omega,by omega,?_⟩;rw[hz,hs];exact (so0 hF2 (h1:=by(simp only[go_sem,zAf,and_self,zY];try trivial)) (h4:=by simp only[];omega))
 ·have g1:decide ((j:Int)<8)=false:=dF (by omega);obtain rfl:j=8:=by omega
  have e9:S++B=zGH l c:=by rw[c0,hB]
  simp only[g1,e9,go_sem];repeat refine sd2 ?_
  exact ps0
end Go.Proofs.YtifhjhbfhdcahaaGreat
end
