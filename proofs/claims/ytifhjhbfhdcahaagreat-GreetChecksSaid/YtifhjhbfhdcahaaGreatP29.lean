/- Lemmas for the walk: GK104, GK105. -/
import Derived.Test.YtifhjhbfhdcahaaGreatP19
import Derived.Test.YtifhjhbfhdcahaaGreatShelfP
set_option linter.all false
section
namespace Go.Proofs.YtifhjhbfhdcahaaGreat
open Go.Tx
set_option maxRecDepth 100000
set_option maxHeartbeats 16000000
theorem zS7:Tryz.prog.funcs[30]?=some Tryz.f30:=by kernel_rfl
theorem zN3{F:SF}{L nx:Nat}(s:List UInt8)(c:Nat)(hc:c≤1000000)(hl:s.length*c≤140737488355328):Con Tryz.prog 30 [.str s,.int .i64 c] F L nx nx (.str (Lib.repeatL s c)) [] []:=by
 refine ⟨zH _,fun F2 hF2 E w args' hR _ _ hv=>?_⟩;simp only[VRl,VR]at hv;obtain ⟨_,_,rfl,rfl,_,_,rfl,rfl,rfl⟩:=hv;have h:=Tryz.strings_Repeat ⟨s.toArray⟩ c w (by omega) (by rw[zCK];exact hl);rw[zAk zS7 (by rfl) (by kernel_rfl)];refine Calls.mono h ?_
 rintro e w' ⟨rfl,hb⟩
 refine ⟨_,rfl,E,?_,StepR.same hR hb.os hb.tape hb.output hb.size hb.block,fun n h1 h2=>absurd h1 h2⟩;simp only[VR];rfl
theorem zN4(a:UInt8):∀c:Nat,Lib.repeatL [a] c=List.replicate c a
 |0=>rfl
 |c+1=>by
  have:=zN4 a c;simp only[Lib.repeatL,List.replicate_succ]at this ⊢;rw[this];rfl
theorem zPl(a:UInt8)(c:Nat)(hc:c≤1000000):∀(F:SF) (L nx:Nat),Con Tryz.prog 30 [.str [a],.int .i64 c] F L nx nx (.str (List.replicate c a)) [] []:=fun F L nx=>by
 have h:=zN3 (F:=F) (L:=L) (nx:=nx) [a] c hc (by simp;omega);rw[zN4]at h;exact h
theorem zHQ{F:SF}{L nx:Nat}(m:Nm)(hm0:m.l<L∨(m.l=L∧m.i<nx))(k:Tk)(kind:Int)(p:Pkx)(hlen:p.cs.length≤1000000)(hb:∀c∈p.cs,c.bd.length≤1000000)(va:PV)(hva:zQo L va)(b:Nm)(hbL:b.l≤L)(h:Gx)(x:Pkx)(hst:zAU k.g0 k.now kind p=(h,[x],0))(hbm:b≠m)(hwl:k.w1.length≤1000000)(hFb:F b=some (.rows 38 4 true true (k.w1.map Pkx.row)))(hqm:zA8 b≠m)(c:Nat)(hFq:F (zA8 b)=some (.cap b c))(hc:k.w1.length+1≤c)(hF:F m=some (.rows 33 43 true false [k.row va (.sl b 0 k.w1.length)])):
  Con Tryz.prog 12 [.ptr m 0 0,.int .i64 0,.agg (.int .i64 kind::p.row)] F L nx (nx+0) (.bool true) [(m,.rows 33 43 true false [(Tk.row {k with g0:=h} va (.sl b 0 (k.w1.length+1)))]),(b,.rows 38 4 true true ((k.w1++[x]).map Pkx.row))] [m,b,zA8 b]:=by
 have hm:m.l≤L:=by omega
 have m1:∀k,(m=(⟨L+1,k⟩:Nm))=False:=zAI hm;have m2:∀k,((⟨L+1,k⟩:Nm)=m)=False:=zAF hm;have b1:∀k,(b=(⟨L+1,k⟩:Nm))=False:=zAI (by omega);have b2:∀k,((⟨L+1,k⟩:Nm)=b)=False:=zAF (by omega);have c1:(b=m)=False:=eq_false hbm;have c2:(m=b)=False:=eq_false (Ne.symm hbm);have hS:=fun F L nx=>zEP (F:=F) (L:=L) (nx:=nx) hst hlen hb
 have hG:=zAo hst;have hC:=fun F L nx=>zCO (F:=F) (L:=L) (nx:=nx) h
 rw[hG.ok,if_pos rfl]at hC;have hta:=hG.ta;have t1:(h.ta !=k.now)=false:=by simp;omega
 have e0:((0:Int)==8)=false:=rfl;have n0:((0:Int) !=0)=false:=rfl;have z1:((1:Int)-0)=1:=rfl;have z2:((1:Int)-1)=0:=rfl;have hx:=hG.pk x (by simp);have hX:=fun F L nx=>zEI (F:=F) (L:=L) (nx:=nx) x (by
  have:=hx.1;unfold Pkx.ok Pkx.hd at this;simp only[zC,decide_eq_true_eq]at this;omega) (by
  have:=hx.1;unfold Pkx.ok at this;simp only[zC,wK]at this;intro c hc;have:=this.1.2 c hc;unfold Ckx.ok at this;simp only[zC,decide_eq_true_eq]at this;omega)
 rw[hx.1,if_pos rfl]at hX;have x1:(x.fr !=h.fr)=false:=by have:=hx.2.1;simp;omega
 have x2:(x.tt !=h.tt)=false:=by have:=hx.2.2;simp;omega
 have kz:zAV [x]= .fs 4 [(pR x)]:=rfl;clear hx;clear hG hst;simp only[Tk.row,Gx.row,Pkx.row,kz]at hF hS hC hX ⊢;refine zUf (zEW (L+1)) rfl rfl (fn:=Tryz.f12) (c:=Tryz.f12.body.getD .skip) (by kernel_rfl) (by rfl) (by kernel_rfl) rfl (by simp[zA8];omega) ?_;intro F3 hF1 hF2;have kq:=(hF1 m (by simp)).trans hF;have kb:=(hF1 b (by simp)).trans hFb;have kc:=(hF1 (zA8 b) (by simp)).trans hFq;have kcL:(zA8 b).l≤L:=hbL;have u1:∀k,(zA8 b=(⟨L+1,k⟩:Nm))=False:=zAI kcL;have u2:∀k,((⟨L+1,k⟩:Nm)=zA8 b)=False:=zAF kcL;have u3:(zA8 b=m)=False:=eq_false hqm;have qb:(zA8 b=b)=False:=eq_false (fun h=>by have:=congrArg Nm.i h;simp[zA8]at this);have u4:(m=zA8 b)=False:=eq_false (Ne.symm hqm);have dc:decide (k.w1.length+1≤c)=true:=dT hc;refine VT.cut (zEW (L+1)) (by kernel_rfl) (fun _:Unit=>⟨[some (.ptr m 0 0),some (.int .i64 0),none,none,none,some (.ptr ⟨L+1,0⟩ 0 0)]++oz 103,[(⟨L+1,0⟩,.rows 40 5 true true [[.int .i64 kind,.int .i64 p.fr,.int .i64 p.tt,.int .i64 p.tg,.fs 3 (p.cs.map Ckx.row)]])],10000⟩) (fun _=>True) ?_ ?_
 ·simp only[zEU,zHm,Tryz.f12,cxc,go_sem];repeat refine sd2 ?_
  refine ⟨(),(so0 hF2)⟩
 intro _ _;refine VT.cut (zEW (L+1)) (by kernel_rfl) (fun _:Unit=>⟨[some (.ptr m 0 0),some (.int .i64 0),none,none,none,none,none,some (.ptr ⟨L+1,10480⟩ 0 0),some (.fs 4 [(pR x)]),some (.int .i64 0)]++oz 99,[(⟨L+1,10480⟩,.rows 28 20 true true [(gR h [])])],20000⟩) (fun _=>True) ?_ ?_
 ·simp only[zEU,Tryz.f12,cxc,kq,m1,go_sem];repeat refine sd2 ?_
  refine CallVC.same (hS _ _ _) ?_;simp only[zEU,go_sem];repeat refine sd2 ?_
  refine ⟨zEG m2,(),(so0 hF2)⟩
 intro _ _;clear hS;refine VT.cut (zEW (L+1)) (by kernel_rfl) (fun _:Unit=>⟨[some (.ptr m 0 0),some (.int .i64 0),none,none,none,none,none,some (.ptr ⟨L+1,10480⟩ 0 0),some (.fs 4 [(pR x)]),some (.int .i64 0)]++oz 99,[(⟨L+1,10480⟩,.rows 28 20 true true [(gR h [])])],30000⟩) (fun _=>True) ?_ ?_
 ·simp only[zEU,zHm,Tryz.f12,cxc,e0,go_sem];repeat refine sd2 ?_
  refine ⟨(),(so0 hF2)⟩
 intro _ _;have g1:decide ((0:Int)>1)=false:=rfl;have g2:decide ((1:Int)>1)=false:=rfl;have g1':decide ((1:Int)<0)=false:=rfl;have g2':decide ((1:Int)<1)=false:=rfl;have g3':decide ((1:Int)<((1:Nat):Int))=false:=rfl;refine VT.cut (zEW (L+1)) (by kernel_rfl) (fun _:Unit=>⟨[some (.ptr m 0 0),some (.int .i64 0),none,none,none,none,none,some (.ptr ⟨L+1,10480⟩ 0 0),some (.fs 4 [(pR x)])]++oz 100,[(⟨L+1,10480⟩,.rows 28 20 true true [(gR h [])])],40000⟩) (fun _=>True) ?_ ?_
 ·simp only[zEU,Tryz.f12,cxc,n0,go_sem];repeat refine sd2 ?_
  refine CallVC.same (hC _ _ _) ?_;simp only[zEU,kq,m1,n0,t1,g3',go_sem];repeat refine sd2 ?_
  refine ⟨zEG m2,(),(so0 hF2)⟩
 intro _ _;clear hC;refine VT.cut (zEW (L+1)) (by kernel_rfl) (fun _:Unit=>⟨[some (.ptr m 0 0),some (.int .i64 0),none,none,none,none,none,some (.ptr ⟨L+1,10480⟩ 0 0),some (.fs 4 [(pR x)])]++oz 100,[(⟨L+1,10480⟩,.rows 28 20 true true [(gR h [])])],70000⟩) (fun _=>True) ?_ ?_
 ·simp only[zEU,zHm,Tryz.f12,cxc,go_sem];repeat refine sd2 ?_
  refine loopK.intro _ _ (I:=fun j:Nat=>⟨[some (.ptr m 0 0),some (.int .i64 0)]++oz 5++[some (.ptr ⟨L+1,10480⟩ 0 0),some (.fs 4 [(pR x)])]++oz 55++[some (.fs 4 [(pR x)]),some (.int .i64 1),some (.int .i64 j)]++oz 42,[(⟨L+1,10480⟩,.rows 28 20 true true [(gR h [])])],10000*(j+5)⟩) (pre:=fun j=>j≤1) (μ:=fun j=>1-j) 0 (by omega) ?_ ?_
  ·refine Sub.of (hfz hF2) (by simp only[go_sem,zAf,and_self,zW,vK];try trivial) ?_ (by simp[zAs,keys]) (by simp);simp[zAi,Tx.look]
  intro j hj;by_cases hlt:j<1
  ·obtain rfl:j=0:=by omega
   have q1:decide (((0:Nat):Int)<1)=true:=rfl;have q2:decide ((0:Int)<1)=true:=rfl;simp only[zEU,zHm,q2,zW,go_sem];repeat refine sd2 ?_
   refine CallVC.same (hX _ _ _) ?_;simp only[zEU,zHm,n0,x1,x2,go_sem];repeat refine sd2 ?_
   refine ⟨1,by omega,by omega,?_⟩;refine Sub.of (hfz hF2) (by simp only[go_sem,zAf,vK];try trivial) ?_ (by simp[zAs,keys]) (by simp);simp[zAi,Tx.look]
  ·obtain rfl:j=1:=by omega
   have q1:decide (((1:Nat):Int)<1)=false:=rfl;have q2:decide ((1:Int)<1)=false:=rfl;simp only[zEU,zHm,q2,vK,go_sem];repeat refine sd2 ?_
   refine ⟨(),(so0 hF2)⟩
 intro _ _;clear hX;refine VT.cut (zEW (L+1)) (by kernel_rfl) (fun _:Unit=>⟨[some (.ptr m 0 0),some (.int .i64 0),none,none,none,none,none,none,some (.fs 4 [(pR x)])]++oz 100,[(m,.rows 33 43 true false [(gR h (gR k.g1 [va,(.sl b 0 k.w1.length),.int .i64 k.now]))])],80000⟩) (fun _=>True) ?_ ?_
 ·simp only[zEU,Tryz.f12,cxc,kq,m1,go_sem];repeat refine sd2 ?_
  refine ⟨zEG m2,(),(so0 hF2 (h2:=by simp[zAi,Tx.look,m1]) (h3:=by simp[zAs,keys,m2]))⟩
 intro _ _;refine VT.of (zEW (L+1)) ?_;simp only[zEU,zKi,capOf,zBb,zMR,zHm,dc,kc,u3,Tryz.f12,cxc,kq,c1,c2,kb,z1,zG,go_sem];repeat refine sd2 ?_
 refine ⟨zAA (fun x=>if x=m then 1 else if x=b then 2 else if x=zA8 b then 0 else x.i+3) (by simp only[zA0,List.map,c1,u3,qb,if_true,if_false];kernel_rfl),.now (PostN.val [] (.inr rfl) (by simp) (p:=True) (v0:=.bool true) ?_ trivial ?_ ?_ ⟨by omega,?_,by omega,?_,trivial⟩ ?_)⟩;·simp only[go_sem]
 ·simp[nmA]
 ·simp[Tx.rn]
 ·rw[zF3];exact .ren (by simp[Tx.look];rfl) (by simp[zB2,nmA,zDf,Dn,(hva nx []).1,hbL]) (by simp[Tx.rn,Tx.rnL,(hva nx []).2,zDz hbL];try simp[sg])
 ·rw[zF3];exact .pure (by simp[Tx.look,c1,Pkx.row])
 ·simp[UpdAll,keys]
theorem zJZ{F:SF}{L nx:Nat}(m:Nm)(hm0:m.l<L∨(m.l=L∧m.i<nx))(k:Tk)(kind:Int)(p:Pkx)(hlen:p.cs.length≤1000000)(hb:∀c∈p.cs,c.bd.length≤1000000)(va:PV)(hva:zQo L va)(b:Nm)(hbL:b.l≤L)(h:Gx)(x:Pkx)(hst:zAU k.g0 k.now kind p=(h,[x],0))(hbm:b≠m)(hwl:k.w1.length≤1000000)(hFb:F b=some (.rows 38 4 true true (k.w1.map Pkx.row)))(hqm:zA8 b≠m)(c:Nat)(hFq:F (zA8 b)=some (.cap b c))(hc:c<k.w1.length+1)(hF:F m=some (.rows 33 43 true false [k.row va (.sl b 0 k.w1.length)])):
  Con Tryz.prog 12 [.ptr m 0 0,.int .i64 0,.agg (.int .i64 kind::p.row)] F L nx (nx+1) (.bool true) [(m,.rows 33 43 true false [(Tk.row {k with g0:=h} va (.sl ⟨L,nx⟩ 0 (k.w1.length+1)))]),(⟨L,nx⟩,.rows 38 4 true true ((k.w1++[x]).map Pkx.row))] [m,b,zA8 b]:=by
 have hm:m.l≤L:=by omega
 have m1:∀k,(m=(⟨L+1,k⟩:Nm))=False:=zAI hm;have m2:∀k,((⟨L+1,k⟩:Nm)=m)=False:=zAF hm;have b1:∀k,(b=(⟨L+1,k⟩:Nm))=False:=zAI (by omega);have b2:∀k,((⟨L+1,k⟩:Nm)=b)=False:=zAF (by omega);have c1:(b=m)=False:=eq_false hbm;have c2:(m=b)=False:=eq_false (Ne.symm hbm);have hS:=fun F L nx=>zEP (F:=F) (L:=L) (nx:=nx) hst hlen hb
 have hG:=zAo hst;have hC:=fun F L nx=>zCO (F:=F) (L:=L) (nx:=nx) h
 rw[hG.ok,if_pos rfl]at hC;have hta:=hG.ta;have t1:(h.ta !=k.now)=false:=by simp;omega
 have e0:((0:Int)==8)=false:=rfl;have n0:((0:Int) !=0)=false:=rfl;have z1:((1:Int)-0)=1:=rfl;have z2:((1:Int)-1)=0:=rfl;have hx:=hG.pk x (by simp);have hX:=fun F L nx=>zEI (F:=F) (L:=L) (nx:=nx) x (by
  have:=hx.1;unfold Pkx.ok Pkx.hd at this;simp only[zC,decide_eq_true_eq]at this;omega) (by
  have:=hx.1;unfold Pkx.ok at this;simp only[zC,wK]at this;intro c hc;have:=this.1.2 c hc;unfold Ckx.ok at this;simp only[zC,decide_eq_true_eq]at this;omega)
 rw[hx.1,if_pos rfl]at hX;have x1:(x.fr !=h.fr)=false:=by have:=hx.2.1;simp;omega
 have x2:(x.tt !=h.tt)=false:=by have:=hx.2.2;simp;omega
 have kz:zAV [x]= .fs 4 [(pR x)]:=rfl;clear hx;clear hG hst;simp only[Tk.row,Gx.row,Pkx.row,kz]at hF hS hC hX ⊢;refine zUf (zEW (L+1)) rfl rfl (fn:=Tryz.f12) (c:=Tryz.f12.body.getD .skip) (by kernel_rfl) (by rfl) (by kernel_rfl) rfl (by simp[zA8];omega) ?_;intro F3 hF1 hF2;have kq:=(hF1 m (by simp)).trans hF;have kb:=(hF1 b (by simp)).trans hFb;have kc:=(hF1 (zA8 b) (by simp)).trans hFq;have kcL:(zA8 b).l≤L:=hbL;have u1:∀k,(zA8 b=(⟨L+1,k⟩:Nm))=False:=zAI kcL;have u2:∀k,((⟨L+1,k⟩:Nm)=zA8 b)=False:=zAF kcL;have u3:(zA8 b=m)=False:=eq_false hqm;have u4:(m=zA8 b)=False:=eq_false (Ne.symm hqm);have dc:decide (k.w1.length+1≤c)=false:=dF (by omega);refine VT.cut (zEW (L+1)) (by kernel_rfl) (fun _:Unit=>⟨[some (.ptr m 0 0),some (.int .i64 0),none,none,none,some (.ptr ⟨L+1,0⟩ 0 0)]++oz 103,[(⟨L+1,0⟩,.rows 40 5 true true [[.int .i64 kind,.int .i64 p.fr,.int .i64 p.tt,.int .i64 p.tg,.fs 3 (p.cs.map Ckx.row)]])],10000⟩) (fun _=>True) ?_ ?_
 ·simp only[zEU,zHm,Tryz.f12,cxc,go_sem];repeat refine sd2 ?_
  refine ⟨(),(so0 hF2)⟩
 intro _ _;refine VT.cut (zEW (L+1)) (by kernel_rfl) (fun _:Unit=>⟨[some (.ptr m 0 0),some (.int .i64 0),none,none,none,none,none,some (.ptr ⟨L+1,10480⟩ 0 0),some (.fs 4 [(pR x)]),some (.int .i64 0)]++oz 99,[(⟨L+1,10480⟩,.rows 28 20 true true [(gR h [])])],20000⟩) (fun _=>True) ?_ ?_
 ·simp only[zEU,Tryz.f12,cxc,kq,m1,go_sem];repeat refine sd2 ?_
  refine CallVC.same (hS _ _ _) ?_;simp only[zEU,go_sem];repeat refine sd2 ?_
  refine ⟨zEG m2,(),(so0 hF2)⟩
 intro _ _;clear hS;refine VT.cut (zEW (L+1)) (by kernel_rfl) (fun _:Unit=>⟨[some (.ptr m 0 0),some (.int .i64 0),none,none,none,none,none,some (.ptr ⟨L+1,10480⟩ 0 0),some (.fs 4 [(pR x)]),some (.int .i64 0)]++oz 99,[(⟨L+1,10480⟩,.rows 28 20 true true [(gR h [])])],30000⟩) (fun _=>True) ?_ ?_
 ·simp only[zEU,zHm,Tryz.f12,cxc,e0,go_sem];repeat refine sd2 ?_
  refine ⟨(),(so0 hF2)⟩
 intro _ _;have g1:decide ((0:Int)>1)=false:=rfl;have g2:decide ((1:Int)>1)=false:=rfl;have g1':decide ((1:Int)<0)=false:=rfl;have g2':decide ((1:Int)<1)=false:=rfl;have g3':decide ((1:Int)<((1:Nat):Int))=false:=rfl;refine VT.cut (zEW (L+1)) (by kernel_rfl) (fun _:Unit=>⟨[some (.ptr m 0 0),some (.int .i64 0),none,none,none,none,none,some (.ptr ⟨L+1,10480⟩ 0 0),some (.fs 4 [(pR x)])]++oz 100,[(⟨L+1,10480⟩,.rows 28 20 true true [(gR h [])])],40000⟩) (fun _=>True) ?_ ?_
 ·simp only[zEU,Tryz.f12,cxc,n0,go_sem];repeat refine sd2 ?_
  refine CallVC.same (hC _ _ _) ?_;simp only[zEU,kq,m1,n0,t1,g3',go_sem];repeat refine sd2 ?_
  refine ⟨zEG m2,(),(so0 hF2)⟩
 intro _ _;clear hC;refine VT.cut (zEW (L+1)) (by kernel_rfl) (fun _:Unit=>⟨[some (.ptr m 0 0),some (.int .i64 0),none,none,none,none,none,some (.ptr ⟨L+1,10480⟩ 0 0),some (.fs 4 [(pR x)])]++oz 100,[(⟨L+1,10480⟩,.rows 28 20 true true [(gR h [])])],70000⟩) (fun _=>True) ?_ ?_
 ·simp only[zEU,zHm,Tryz.f12,cxc,go_sem];repeat refine sd2 ?_
  refine loopK.intro _ _ (I:=fun j:Nat=>⟨[some (.ptr m 0 0),some (.int .i64 0)]++oz 5++[some (.ptr ⟨L+1,10480⟩ 0 0),some (.fs 4 [(pR x)])]++oz 55++[some (.fs 4 [(pR x)]),some (.int .i64 1),some (.int .i64 j)]++oz 42,[(⟨L+1,10480⟩,.rows 28 20 true true [(gR h [])])],10000*(j+5)⟩) (pre:=fun j=>j≤1) (μ:=fun j=>1-j) 0 (by omega) ?_ ?_
  ·refine Sub.of (hfz hF2) (by simp only[go_sem,zAf,and_self,zW,vK];try trivial) ?_ (by simp[zAs,keys]) (by simp);simp[zAi,Tx.look]
  intro j hj;by_cases hlt:j<1
  ·obtain rfl:j=0:=by omega
   have q1:decide (((0:Nat):Int)<1)=true:=rfl;have q2:decide ((0:Int)<1)=true:=rfl;simp only[zEU,zHm,q2,zW,go_sem];repeat refine sd2 ?_
   refine CallVC.same (hX _ _ _) ?_;simp only[zEU,zHm,n0,x1,x2,go_sem];repeat refine sd2 ?_
   refine ⟨1,by omega,by omega,?_⟩;refine Sub.of (hfz hF2) (by simp only[go_sem,zAf,vK];try trivial) ?_ (by simp[zAs,keys]) (by simp);simp[zAi,Tx.look]
  ·obtain rfl:j=1:=by omega
   have q1:decide (((1:Nat):Int)<1)=false:=rfl;have q2:decide ((1:Int)<1)=false:=rfl;simp only[zEU,zHm,q2,vK,go_sem];repeat refine sd2 ?_
   refine ⟨(),(so0 hF2)⟩
 intro _ _;clear hX;refine VT.cut (zEW (L+1)) (by kernel_rfl) (fun _:Unit=>⟨[some (.ptr m 0 0),some (.int .i64 0),none,none,none,none,none,none,some (.fs 4 [(pR x)])]++oz 100,[(m,.rows 33 43 true false [(gR h (gR k.g1 [va,(.sl b 0 k.w1.length),.int .i64 k.now]))])],80000⟩) (fun _=>True) ?_ ?_
 ·simp only[zEU,Tryz.f12,cxc,kq,m1,go_sem];repeat refine sd2 ?_
  refine ⟨zEG m2,(),(so0 hF2 (h2:=by simp[zAi,Tx.look,m1]) (h3:=by simp[zAs,keys,m2]))⟩
 intro _ _;refine VT.of (zEW (L+1)) ?_;simp only[zEU,zKi,capOf,zBb,zMR,zHm,dc,kc,u3,Tryz.f12,cxc,kq,m1,m2,c1,kb,z1,zG,go_sem];repeat refine sd2 ?_
 refine ⟨zAA (fun x=>if x=m then 1 else if x=b then 0 else if x=zA8 b then 0 else x.i+2) (by simp only[zA0,List.map,m2,b2,c1,u2,u3,if_true,if_false];kernel_rfl),.now (PostN.val [80352] (.inr rfl) (by simp) (p:=True) (v0:=.bool true) ?_ trivial ?_ ?_ ⟨by omega,?_,zH _,?_,trivial⟩ ?_)⟩;·simp only[go_sem]
 ·simp[nmA]
 ·simp[Tx.rn]
 ·rw[zCd (hm0.imp id fun h=>.inl h.2)];exact .ren (by simp[Tx.look];rfl) (by simp[zB2,nmA,zDf,Dn,(hva nx [80352]).1]) (by simp[Tx.rn,Tx.rnL,(hva nx [80352]).2];try simp[sg])
 ·rw[zDg (by simp)];exact .pure (by simp[Tx.look,m2,Pkx.row])
 ·simp[UpdAll,keys]
end Go.Proofs.YtifhjhbfhdcahaaGreat
end
