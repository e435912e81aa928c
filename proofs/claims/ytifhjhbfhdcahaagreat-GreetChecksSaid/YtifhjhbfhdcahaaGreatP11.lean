/- Lemmas for the walk: U38, U39, U40, GK1, GK2, GC1, GC2, GC3, GC4, GC5, GC6, GC7, GC8, GC0, GC10, GC12, GK3. -/
import Derived.Test.YtifhjhbfhdcahaaGreatP10
import Derived.RecoverIn
import Derived.Test.YtifhjhbfhdcahaaGreatTxTab
import Derived.Tactics
import Derived.Recover
set_option linter.all false
section
namespace Go.Tx
open Go.Sx (zAB)
def zMm(P:Program)(u u':FrameMode)(f:FuncId)(args:List PV)(F:SF)(L:Nat)(upd:List (Nm×SBlk))(rd:List Nm):Prop:=
 ∀(F2:SF),(∀n∈rd,F2 n=F n)→∀(E:Env) (w:World) (args':List Value),HRel E F2 w→(∀n:Nm,L<n.l→E n=none)→
  VRl w (Zn E F2 w) E args args'→CallsDIn (W none) 0 P f args'.toArray u w (fun e u2 w'=>(∃v,e= .returned v)∧u2=u'∧DGives E F2 w upd w')
structure PostB (F:SF) (L:Nat) (updB:List (Nm×SBlk)) (m:Nat) (rs:List (Nat×Nm×Nat×Nat)) (st:St):Prop where
 upd:PostD F L updB st
 len:st.t.length=m
 slots:∀x∈rs,TF st.t x.1=some (.ptr x.2.1 x.2.2.1 x.2.2.2)
def rsT(m:Nat):List (Nat×Nm×Nat×Nat)→List (Option PV)
 | []=>List.replicate m none
 |x::l=>(rsT m l).set x.1 (some (.ptr x.2.1 x.2.2.1 x.2.2.2))
theorem zMn{m i:Nat}{v:PV}:∀{l:List (Nat×Nm×Nat×Nat)},TF (rsT m l) i=some v→∃x∈l,x.1=i∧v= .ptr x.2.1 x.2.2.1 x.2.2.2
 | [],h=>by
  simp only[rsT,TF,zE,uT]at h;split at h<;>simp at h
 | x::l,h=>by
  simp only[rsT,TF,zE,vQ]at h;by_cases hi:x.1=i
  ·rw[if_pos hi]at h;split at h;·simp at h;exact ⟨x,by simp,hi,h.symm⟩
   ·simp at h
  ·rw[if_neg hi]at h;obtain ⟨y,h1,h2⟩:=zMn (l:=l) (m:=m) (i:=i) (v:=v) (by simpa[TF,zE] using h);exact ⟨y,by simp[h1],h2⟩
def Cx.catching(C:Cx)(L:Nat)(B:List Deferred)(ch:List PanicEntry)(dq:St→Prop):Cx:=⟨C.P,C.T,C.ms,C.wr,L,C.ro,C.ys,B,true,ch,dq⟩
section
variable (C : Cx) (L : Nat) (B : List Deferred) (ch : List PanicEntry) (dq : St → Prop)
theorem zLj:(C.catching L B ch dq).P=C.P:=rfl
theorem zJ3:(C.catching L B ch dq).ch=ch:=rfl
theorem zLk:(C.catching L B ch dq).T=C.T:=rfl
theorem zJ4:(C.catching L B ch dq).ms=C.ms:=rfl
theorem zJ5:(C.catching L B ch dq).wr=C.wr:=rfl
theorem zLl:(C.catching L B ch dq).L=L:=rfl
theorem zJ6:(C.catching L B ch dq).ro=C.ro:=rfl
theorem zJ7:(C.catching L B ch dq).ys=C.ys:=rfl
theorem zJ8(h:C.Ok):(C.catching L B ch dq).Ok:=⟨h.T,h.A,h.mixed,h.ms⟩
end
theorem zJ9(C:Cx)(L:Nat)(B:List Deferred)(ch:List PanicEntry)(dq:St→Prop)(x p:Prop):RegVX (C.catching L B ch dq) x p=p:=rfl
attribute [go_sem ↓] zJ9
attribute [go_sem] zJ3
attribute [go_sem] zLj zLk zJ4 zJ5 zLl zJ6 zJ7
theorem zVB{C:Cx}(hC:C.Ok)(hro:C.ro=none)(hys:C.ys=[])(hdi:C.dies=false){f:FuncId}{fn:Func}{ra rb:Nat}{opsA:List Oper}{o1 o2:Oper}{cB:Code}(hf:C.P.funcs[f]?=some fn)
  (hb:fn.body=some (.seq (.region ra opsA.toArray false) (.seq (.region rb [o1,o2].toArray false) cB)))(hnum:(fn.name== "runtime.NumGoroutine")=false){args:List PV}{F:SF}{L nx k:Nat}(hL:C.L=L+1){v:PV}{upd:List (Nm×SBlk)}{rd:List Nm}(hrd:∀n∈rd,n.l≤L)
  {g:FuncId}{gn:Func}{cs:Array Operand}{dd:Nat}{dt:Array TypeId}(ho1:o1.op= .makeFunc (.func g) #[] cs)(ho1g:o1.guard=none)(ho1d:o1.dst=some dd)(ho2:o2.op= .defer ⟨.value (.tmp dd),#[],dt⟩)(ho2g:o2.guard=none)(ho2d:o2.dst=none)
  (hg:C.P.funcs[g]?=some gn)(hgb:gn.body.isNone=false)(hgn:(gn.name== "runtime.NumGoroutine")=false){u u':FrameMode}(hu:u≠ .run){ch:List PanicEntry}{t1:List (Option PV)}{H1 updB updc:List (Nm×SBlk)}{n1:Nat}{cl:List PV}{rs:List (Nat×Nm×Nat×Nat)}{rdc:List Nm}
  (hds:zI3 opsA (zBn args fn.ntmps).length=true)
  (HA:∀F3:SF,(∀n∈rd,F3 n=F n)→(∀n:Nm,L<n.l→F3 n=none)→zDT C F3 opsA opsA (zBn args fn.ntmps) [] 0 (fun t H nx=>t=t1∧H=H1∧nx=n1))
  (hH1:∀x∈H1,x.1.l≤L+1)(hcl:vals (zAu t1) cs.toList=some cl)(hdd:dd<t1.length)(hrs:∀x∈rs,TF t1 x.1=some (.ptr x.2.1 x.2.2.1 x.2.2.2))
  (HB:∀(F3:SF) (B:List Deferred),(∀n∈rd,F3 n=F n)→(∀n:Nm,L<n.l→F3 n=none)→
   vcC (C.catching (L+2) B ch (fun st=>u= .panicking ch∧PostB (look F3 H1) (L+1) updB t1.length rs st)) (look F3 H1) cB ⟨t1.set dd (some (.fn (.func g) [] cl)),[],0⟩ (fun e st=>(e= .normal∨e= .ret)∧u= .returning∧PostB (look F3 H1) (L+1) updB t1.length rs st))
  (HD:∀F3:SF,(∀n∈rd,F3 n=F n)→(∀n:Nm,L<n.l→F3 n=none)→zMm C.P u u' g cl ((look F3 H1).upd updB) (L+1) updc rdc)(hset:settle u'= .returning)
  (HP:∀F3:SF,(∀n∈rd,F3 n=F n)→(∀n:Nm,L<n.l→F3 n=none)→PostN C.T F3 fn.results.toList L nx v upd k .ret ⟨rsT t1.length rs,zAl (zAl H1 updB) updc,0⟩):Con C.P f args F L nx (nx+k) v upd rd:=by
 refine ⟨by omega,fun F2 hF2 E w args' hR hfr hdp hargs=>?_⟩
 let F3:SF:=zEe L F2
 have h3:SLe F3 F2:=zEo L F2;have hS0:=zUS hR h3;have a1:∀n∈rd,F3 n=F n:=fun n hn=>by simp only[F3,zEe];rw[if_pos (hrd n hn)];exact hF2 n hn
 have a2:∀n:Nm,L<n.l→F3 n=none:=fun n hn=>by simp only[F3,zEe];rw[if_neg (by omega)]
 have hdom:zGD C.L E:=fun n hn=>hdp n (by omega)
 have hrel:=zKq (C:=C) hS0.rel (VRl.mono hS0.ext _ _ hargs) fn.ntmps;have hcall:Calls C.P f args'.toArray w fun e w'=>∃v',e= .returned v'∧zBH E F2 w L nx (nx+k) v upd v' w':=by
  rw[←callsIn_wide (n:=0)];refine callsIn_of_wp_marks hf hb trivial ?_;have hW:W C.ro=Fence.wide:=by rw[hro];rfl
  rw[←hW];generalize hRR:(fun e w'=>∃v',e=Ending.returned v'∧zBH E F2 w L nx (nx+k) v upd v' w')=RR;refine wpIn_seq (wpIn_region ?_);have hsq:=seq_ok (C:=C) (F0:=F3) (E0:=E) (F1:=F3) (w0:=w) (ds:=[]) (m:=(zBn args fn.ntmps).length) (base:=0) (ro:=C.ro) (n:=0) (ops:=opsA)
   (Q:=Exit.then (fun a' w'=>(Code.seq (.region rb [o1,o2].toArray false) cB).wpIn (W C.ro) 0 C.P (bodyPostM (W C.ro) 0 C.P fn RR) a' w') (bodyPostM (W C.ro) 0 C.P fn RR))
   hC (zEE hds) hS0.rel (fun st E a w h=>by rw[hdi]at h;cases h) (fun k _=>hdom _ (zH _)) (fun n hn=>hdom n (Nat.le_of_lt hn)) (by rw[hys];exact InvY.nil) (K:=fun t H nx=>t=t1∧H=H1∧nx=n1) ?_ opsA 0 (zBn args fn.ntmps) [] 0 rfl (uM _) rfl (zH _) (HA F3 a1 a2) E _ w (StepR.refl hS0.rel) hrel.tmps rfl (fun n h1 h2=>absurd h1 h2)
  ·simpa using hsq
  rintro t H nx1 E1 a w1 ⟨rfl,rfl,rfl⟩ hm _ q1 q2 q3 q4
  show (Code.seq (.region rb [o1,o2].toArray false) cB).wpIn (W C.ro) 0 C.P _ a w1;have hev:zJp w1 (Zn E1 (look F3 H) w1) E1 (zAu t) a.eval:=by rw[zBw];exact q2.eval
  have hcv:=zDQ hev hcl;refine wpIn_seq (wpIn_region ?_)
  let fv:Value:=.func (.func g) #[] (cs.map a.eval)
  let d:Deferred:={target:=.fn (.func g) (cs.map a.eval),args:= #[]}
  have hr1:(o1.semAt (W C.ro).round a.eval).run C.P w1= .ok (.value fv) w1:=by
   rw[Oper.semAt_eq _ _ _ (fun c hc=>by rw[ho1]at hc;cases hc)];unfold execOp;rw[ho1];simp[Instr.makeFunc,fv]
  have hsz:dd<a.tmps.size:=by rw[q2.size,←hm];exact hdd
  have hr2:(o2.semAt (W C.ro).round (a.put (some dd) fv).eval).run C.P w1= .ok (.defer d) w1:=by
   rw[hro];show (Oper.semAt none _ o2).run C.P w1=_;rw[Oper.semAt_none];unfold execOp;rw[ho2];have:(a.put (some dd) fv).eval (.tmp dd)=fv:=by simp[Act.eval,Act.put,hsz]
   simp only[resolve,this,zB,zI,zD];simp[fv,Deferred.ofValue,d]
  let F1:SF:=look F3 H
  have hF1:zEe (L+1) F1=F1:=by
   funext n;simp only[zEe];split;·rfl
   ·rename_i hn;have:∀l:List (Nm×SBlk),(∀x∈l,x.1.l≤L+1)→look F3 l n=F3 n:=by
     intro l;induction l with
     |nil=>intro _;rfl
     |cons x l ih=>
      intro h;obtain ⟨m,b⟩:=x;have h1:=h (m,b) (by simp);simp only[look];rw[if_neg (by rintro rfl;simp only at h1;omega)];exact ih fun y hy=>h y (by simp[hy])
    simp only[F1];rw[this H hH1,a2 n (by omega)]
  have hdom1:zGD (L+2) E1:=by
   intro n hn;cases he:E1 n with
   |none=>rfl
   |some x=>
    have:=(q4 n (hdp n (by omega)) (by rw[he];simp)).1;have:=this.trans hL;omega
  have key:∀(a':Act),a'={(a.put (some dd) fv) with defers:=d::(a.put (some dd) fv).defers}→cB.wpIn (W C.ro) 0 C.P (bodyPostM (W C.ro) 0 C.P fn RR) a' w1:=by
   rintro a' rfl
   have hdf:({(a.put (some dd) fv) with defers:=d::(a.put (some dd) fv).defers}:Act).defers=[d]:=by
    simp[Act.put,q3]
   have hvc:=HB F3 [d] a1 a2;have htp:=zG1 (w0:=w1) (E0:=E1) (zJ8 C (L+2) [d] ch _ hC) (show zGD (C.catching (L+2) [d] ch (fun st=>u= .panicking ch∧PostB F1 (L+1) updB t.length rs st)).L E1 from hdom1) (show InvY (C.catching (L+2) [d] ch (fun st=>u= .panicking ch∧PostB F1 (L+1) updB t.length rs st)).ys E1 F1 w1 by show InvY C.ys E1 F1 w1;rw[hys];exact InvY.nil) q1.rel cB _ _ hvc;have hR2:Rel [d] (L+2) F1 E1 w1 E1 ⟨t.set dd (some (.fn (.func g) [] cl)),[],0⟩ {(a.put (some dd) fv) with defers:=d::(a.put (some dd) fv).defers} w1:=by
    refine ⟨StepR.refl q1.rel,?_,by rw[hdf];exact MarksOk.nil,fun n h1 h2=>absurd h1 h2⟩;have:=TRelF.putR (r:=some (zAH True (.fn (.func g) [] cl))) q2 (o:=o1) (v':=fv) (by simp only[zAH,VR,VRl];exact ⟨[],cs.toList.map a.eval,by simp only[fv];congr 1;apply vG;simp,rfl,hcv⟩) (fun x hx=>by rw[ho1d]at hx;injection hx with hx;subst hx;rw[←hm];exact hdd);have e:=zDd (t:=t) (o:=o1) (r:=some (zAH True (.fn (.func g) [] cl))) (fun x hx=>by rw[ho1d]at hx;injection hx with hx;subst hx;exact hdd);rw[←e,ho1d]at this;simp only[zCR,zAH]at this;have hlen:(t.set dd (some (.fn (.func g) [] cl))).length=(zBn args fn.ntmps).length:=by rw[List.length_set];exact hm
    rw[hlen];exact this
   refine wpIn_mono (htp _ _ E1 hR2) ?_
   rintro e a3 w3 ⟨st,hq,E3,hR3⟩
   obtain ⟨Ds,d1,d2,d3⟩:=hR3.marks;have go:PostB F1 (L+1) updB t.length rs st→LeavesInM (W C.ro) 0 C.P fn a3.tmps RR a3.defers u w3:=by
    rintro hB
    rw[d2];refine zCc hu Ds w3 d1 (fun D hD=>⟨(d3 D hD).1,(d3 D hD).2.2⟩) hR3.step hR3.tmps fun w'' s1 s2=>?_
    obtain ⟨E4,s3,s4⟩:=zG6 (L:=L+1) (F2:=F1) (st:=st) (upd:=updB) q1.rel (fun n hn=>hdom1 n hn) (by rw[hF1];exact s1) (fun n h1 h2=>(hR3.news n h1 h2).1) (by rw[hF1];exact hB.upd);have hcv3:=VRl.mono s3.ext _ _ hcv;have hdeep:∀n:Nm,L+1<n.l→E4 n=none:=fun n hn=>s4 n (hdom1 n hn)
    have hcd:=HD F3 a1 a2 (F1.upd updB) (fun _ _=>rfl) E4 w'' _ s3.rel hdeep hcv3;refine ⟨hu,.inr ⟨(fun h=>by cases h),.func g,cs.map a.eval,g,(cs.toList.map a.eval).toArray,rfl,?_,fun _ _=>trivial,?_⟩⟩
    ·have:(#[]:Array Value)++cs.map a.eval=(cs.toList.map a.eval).toArray:=by apply vG;simp
     simp only[d,invoke];rw[this];exact zAk hg hgb hgn
    ·rw[hro];refine hcd.mono ?_
     rintro e u2 w4 ⟨⟨v2,rfl⟩,rfl,E5,g1,g2⟩
     show LeavesInM (W none) 0 C.P fn a3.tmps _ [] (settle u2) w4;rw[hset];have g3:StepR E F3 w E5 (look F3 (zAl (zAl H updB) updc)) w4:=by
      rw[zAP,zAP];exact (q1.trans s3).trans g1
     have hP:=HP F3 a1 a2;obtain ⟨news,p,v0,v1,hk,hnd,r1,r2,r3,r4,r5,rfl,hok⟩:=hP.res;have hts:TRelF w4 (Zn E5 (look F3 (zAl (zAl H updB) updc)) w4) E5 (TF (rsT t.length rs)) t.length a3.tmps:=by
      refine ⟨hR3.tmps.size.trans hB.len,fun i x hx=>?_⟩;obtain ⟨y,y1,rfl,rfl⟩:=zMn hx;obtain ⟨z,z1,z2⟩:=s2.val y.1 _ (hB.slots y y1);obtain ⟨z',z3,z4⟩:=q2.val y.1 _ (hrs y y1);refine ⟨z,z1,?_⟩;simp only[VR]at z2 z4 ⊢;obtain ⟨i,i1,i2,i3⟩:=z2;obtain ⟨j,j1,j2,j3⟩:=z4;have e3:=hR3.step.le _ _ j1;have e4:=g1.le _ _ (s3.le _ _ j1);rw[i1]at e3;injection e3 with e3;subst e3;exact ⟨i,e4,i2,i3⟩
     obtain ⟨v',r6,r7⟩:=zG4 hC.T g3.rel hts r1 r2;subst hRR;refine ⟨v',r6,v',rfl,zDy (st:=⟨rsT t.length rs,zAl (zAl H updB) updc,0⟩) hR hfr hdp g3 (fun n h1 h2=>?_) hk hnd r3 r4 r5 hok hP.all r7⟩;cases he:E1 n with
     |none=>
      have h5:=s4 n he;exact absurd (g2 n h5) h2
     |some x=>exact ((q4 n h1 (by rw[he];simp)).1).trans hL
   rcases hq with ⟨he,hu2,hdoor⟩|⟨_,rfl,hu2,hdoor⟩
   ·have:=go hdoor;rw[hu2]at this;rcases he with rfl|rfl;·exact this
    ·exact this
   ·have:=go hdoor;rw[hu2]at this;exact this
  have e0:List.range ([o1,o2].toArray).size=[0,1]:=rfl;rw[e0];have hw1:Region.wanted o1 (yielded [o1,o2].toArray a.tmps)=true:=by simp[Region.wanted,ho1g]
  have hw2:∀b:Array Value,Region.wanted o2 (yielded [o1,o2].toArray b)=true:=by simp[Region.wanted,ho2g]
  have g0:([o1,o2].toArray)[0]?=some o1:=rfl;have g1:([o1,o2].toArray)[1]?=some o2:=rfl;rw[wpOpsIn,g0];simp only;rw[if_pos hw1];refine ⟨fun _ _=>trivial,?_⟩;rw[hr1,Oper.uponIn_value,ho1d,wpOpsIn,g1];simp only;rw[if_pos (hw2 _)];refine ⟨fun _ _=>trivial,?_⟩;rw[hr2,Oper.uponIn_defer,ho2d];exact key _ rfl
 have hrun:(callFunc f args'.toArray).run C.P w= .ok (.enter f args'.toArray) w:=zAk hf (by rw[hb];rfl) hnum;rw[hrun];exact hcall
end Go.Tx
end
section
namespace Go.Tx
open Go.Sx (zAB)
section
variable (C : Cx) (F0 : SF)
def zQF(ops:List Oper)(d:Nat)(nv:List Nat)(l:List Oper)(i:Nat)(K:DK):RK:=fun t H nx fps=>zBo C F0 ops d nv l i t H nx fps K
theorem zMo(ops:List Oper)(d:Nat)(nv:List Nat)(l:List Oper)(i:Nat)(K:DK)(a:Option PV)(t:List (Option PV))(H:List (Nm×SBlk))(nx:Nat)(fps:FPs):zQF C F0 ops d nv l i K (a::t) H nx fps=zBo C F0 ops d nv l i (a::t) H nx fps K:=propext ⟨fun h=>h,fun h=>h⟩
def zTA(ops:List Oper)(d:Nat)(nv:List Nat)(l:List Oper)(i:Nat)(dst:Option Nat)(t:List (Option PV))(H:List (Nm×SBlk))(nx:Nat)(fps:FPs)(K:DK):List (Nm×SBlk)→List Nm→Prop:=
 fun upd rd=>zBo C F0 ops d nv l i (zCR t dst zAN) H nx (fps++[(rd,[])]) (fun _=>K upd)
theorem zOe(ops:List Oper)(d:Nat)(nv:List Nat)(l:List Oper)(i:Nat)(dst:Option Nat)(t:List (Option PV))(H:List (Nm×SBlk))(nx:Nat)(fps:FPs)(K:DK)(upd:List (Nm×SBlk))(rd:List Nm):
  zTA C F0 ops d nv l i dst t H nx fps K upd rd=zBo C F0 ops d nv l i (zCR t dst zAN) H nx (fps++[(rd,[])]) (fun _=>K upd):=propext ⟨fun h=>h,fun h=>h⟩
theorem zRe(ops:List Oper)(d:Nat)(nv:List Nat)(i:Nat)(t:List (Option PV))(H:List (Nm×SBlk))(nx:Nat)(fps:FPs)(K:DK):zBo C F0 ops d nv [] i t H nx fps K=K [] t H nx fps:=propext ⟨fun h=>h,fun h=>h⟩
theorem zQG(ops:List Oper)(d:Nat)(nv:List Nat)(o:Oper)(l:List Oper)(i:Nat)(t:List (Option PV))(H:List (Nm×SBlk))(nx:Nat)(fps:FPs)(K:DK):zBo C F0 ops d nv (o::l) i t H nx fps K=
  (if i=d then zGN ops t o.guard∧zOL C F0 o t H (zTA C F0 ops d nv l (i+1) o.dst t H nx fps K)
  else if nv.contains i=true then zBo C F0 ops d nv l (i+1) (zCR t o.dst zAN) H nx (fps++[([],[])]) K
  else match o.guard with
  |none=>zRC C F0 o t H nx fps (zQF C F0 ops d nv l (i+1) K)
  | some (j,want)=>
   match zBG ops t j with
   | some (.bool g)=>
    brB g want (zRC C F0 o (zJz ops t j want) H nx fps (zQF C F0 ops d nv l (i+1) K))
     (zBo C F0 ops d nv l (i+1) (zCR (zJz ops t j (!want)) o.dst zAN) H nx (fps++[([],[])]) K)
   |some (.tup [])=>zBo C F0 ops d nv l (i+1) (zCR t o.dst zAN) H nx (fps++[([],[])]) K
   |_=>False):=propext ⟨fun h=>h,fun h=>h⟩
theorem zQH(ops:List Oper)(t:List (Option PV)):zGN ops t none=True:=propext ⟨fun _=>trivial,fun _=>trivial⟩
theorem zQI(ops:List Oper)(t:List (Option PV))(j:Nat)(want:Bool):zGN ops t (some (j,want))=(zBG ops t j=some (.bool want)):=propext ⟨fun h=>h,fun h=>h⟩
def dieX(f:FuncId)(asx:List PV)(H:List (Nm×SBlk))(K:List (Nm×SBlk)→List Nm→Prop):Prop:=zRM C.P C.ch f asx (look F0 H) C.L K
theorem zOf(o:Oper)(t:List (Option PV))(H:List (Nm×SBlk))(K:List (Nm×SBlk)→List Nm→Prop):zOL C F0 o t H K=
  (match o.op with
  | .call ⟨.value fo,args,_⟩=>
   match zAu t fo,vals (zAu t) args.toList with
   |some (.fn (.func f) xs ys),some asx=>dieX C F0 f (xs++asx++ys) H K
   |_,_=>False
  |_=>False):=propext ⟨fun h=>h,fun h=>h⟩
def zTC(ops:List Oper)(m:Nat)(H0:List (Nm×SBlk)):DK:=fun du _ _ _ fps=>zFa ops fps=true∧∀nz,zGy C m H0 (fps.flatMap (·.2)++keys du) nz
theorem zOg(ops:List Oper)(m:Nat)(H0:List (Nm×SBlk))(du:List (Nm×SBlk))(a:Option PV)(t:List (Option PV))(H:List (Nm×SBlk))(nx:Nat)(fps:FPs):
  zTC C ops m H0 du (a::t) H nx fps=(zFa ops fps=true∧∀nz,zGy C m H0 (fps.flatMap (·.2)++keys du) nz):=propext ⟨fun h=>h,fun h=>h⟩
end
attribute [go_sem ↓] zMo zOe zRe zQG zOg zOf zQH zQI
theorem dieX.same{C:Cx}{F0:SF}{f:FuncId}{asx:List PV}{H:List (Nm×SBlk)}{K:List (Nm×SBlk)→List Nm→Prop}{upd:List (Nm×SBlk)}{rd:List Nm}(hc:DCon C.P C.ch f asx (look F0 H) C.L upd rd)(hk:K upd rd):dieX C F0 f asx H K:=by
 obtain ⟨h1,h2⟩:=zDW (look F0 H) asx;refine ⟨asx,upd,rd,h1,?_,?_⟩;·rw[h2];exact hc
 ·rw[h2];exact hk
theorem zVH{C:Cx}{p:Prop}{F0:SF}{ops:List Oper}{st:St}(d:Nat)(nv:List Nat)(hdi:C.dies=true)(hd:d<ops.length)(hnv:(nv.all fun i=>ord ops d i)=true)(hst:zA7 ops st.t.length=true)
  (h:zBo C F0 ops d nv ops 0 st.t st.H st.nx [] (zTC C ops st.t.length st.H)):RegVD C p F0 ops st:=.die hdi ⟨d,nv,hd,hnv,hst,h⟩
theorem zHu{L:Nat}{ks:List Nm}{n:Nm}{b:SBlk}(hn:n.l=L+1∨n∈ks):∀{H:List (Nm×SBlk)},UpdAll L ks H→UpdAll L ks (setH H n b)
 | [],_=>⟨hn,trivial⟩
 |(m,c)::l,h=>by
  simp only[setH];split;·exact ⟨hn,h.2⟩
  ·exact ⟨h.1,zHu hn h.2⟩
theorem zHv{L:Nat}{ks:List Nm}:∀{l H:List (Nm×SBlk)},(∀n∈keys l,n.l=L+1∨n∈ks)→UpdAll L ks H→UpdAll L ks (zAl H l)
 | [],_,_,h=>h
 |(n,b)::l,H,hl,h=>by
  simp only[zAl];exact zHv (fun m hm=>hl m (by simp[keys]at hm ⊢;exact .inr hm)) (zHu (hl n (by simp[keys])) h)
theorem zI8{L nx:Nat}{news:List Nat}{G:SF}:∀{ns:List Nm},(∀n∈ns,n.l≤L)→UpdN L nx news G (ns.map fun n=>(n,.dead))
 | [],_=>trivial
 |n::l,h=>by
  refine ⟨h n (by simp),?_,zI8 fun m hm=>h m (by simp[hm])⟩;cases G (kp L nx news n) with
  |none=>trivial
  |some b=>cases b<;>trivial
theorem zMp(ns:List Nm):keys (ns.map fun n=>(n,SBlk.dead))=ns:=by
 induction ns with
 |nil=>rfl
 |cons n l ih=>simp only[zL,keys]at ih ⊢;rw[ih]
abbrev zRf(ns:List Nm):List (Nm×SBlk):=ns.map fun n=>(n,SBlk.dead)
theorem PostD.dead{F:SF}{L:Nat}{ns:List Nm}{st:St}(h1:∀n∈ns,n.l≤L)(h2:UpdAll L ns st.H):PostD F L (zRf ns) st:=
 ⟨zI8 h1,by rw[zMp];exact h2⟩
theorem PostD.all{C:Cx}{F:SF}{L m nz:Nat}{ns W:List Nm}{H:List (Nm×SBlk)}(hq:C.dq=PostD F L (zRf ns))(h1:∀n∈ns,n.l≤L)(h2:UpdAll L ns H)(h3:∀n∈W,n.l=L+1∨n∈ns):zGy C m H W nz:=by
 intro H' hk;rw[hq];exact .dead h1 (zHv (fun n hn=>h3 n (hk n hn)) h2)
end Go.Tx
end
section
namespace Go.Tx
open Go.Sx (zAB)
theorem zKA{C:Cx}(hC:C.Ok)(hys:C.ys=[])(hdi:C.dies=false){F3:SF}{E:Env}{w:World}(hR:HRel E F3 w)(hd:zGD C.L E){ra rb:Nat}{opsA opsB:List Oper}{t:List (Option PV)}{a:Act}(hT:TRelF w (Zn E F3 w) E (TF t) t.length a.tmps)(hdf:a.defers=[]){R:St→Prop}{Q:Exit→Act→World→Prop}
  (h:vcC C F3 (.seq (.region ra ⟨opsA⟩ false) (.region rb ⟨opsB⟩ false)) ⟨t,[],0⟩ (fun e st=>e= .normal∧R st))
  (hQ:∀st E' a' w',R st→StepR E F3 w E' (look F3 st.H) w'→a'.defers=[]→(∀n,E n=none→E' n≠none→n.l=C.L)→Q .normal a' w'):(Code.seq (.region ra ⟨opsA⟩ false) (.region rb ⟨opsB⟩ false)).wpIn (W C.ro) 0 C.P Q a w:=by
 obtain ⟨h1,h2⟩:=h;refine wpIn_seq (wpIn_region ?_);have hsq:=seq_ok (C:=C) (F0:=F3) (E0:=E) (F1:=F3) (w0:=w) (ds:=[]) (m:=t.length) (base:=0) (ro:=C.ro) (n:=0) (ops:=opsA)
  (Q:=Exit.then (fun a' w'=>(Code.region rb ⟨opsB⟩ false).wpIn (W C.ro) 0 C.P Q a' w') Q)
  hC (zEE h1) hR (fun st E a w h=>by rw[hdi]at h;cases h) (fun k _=>hd _ (zH _)) (fun n hn=>hd n (Nat.le_of_lt hn)) (by rw[hys];exact InvY.nil) (K:=fun t H nx=>zGE (fun s=>vcC C F3 (.region rb ⟨opsB⟩ false) s (fun e st=>e= .normal∧R st)) (fun e st=>e= .normal∧R st) .normal ⟨t,H,nx⟩) ?_ opsA 0 t [] 0 rfl (uM _) rfl (zH _) h2 E _ w (StepR.refl hR) hT hdf (fun n h1 h2=>absurd h1 h2)
 ·simpa using hsq
 rintro t1 H1 nx1 E1 a1 w1 hk hm _ q1 q2 q3 q4
 obtain ⟨h3,h4⟩:zI3 opsB t1.length=true∧zDT C F3 opsB opsB t1 H1 nx1 (fun t H nx=>Exit.normal= .normal∧R ⟨t,H,nx⟩):=hk;refine wpIn_region ?_;have hsq2:=seq_ok (C:=C) (F0:=F3) (E0:=E) (F1:=F3) (w0:=w) (ds:=[]) (m:=t.length) (base:=0) (ro:=C.ro) (n:=0) (ops:=opsB) (Q:=Q)
  hC (by rw[←hm];exact zEE h3) hR (fun st E a w h=>by rw[hdi]at h;cases h) (fun k _=>hd _ (zH _)) (fun n hn=>hd n (Nat.le_of_lt hn)) (by rw[hys];exact InvY.nil) (K:=fun t H nx=>Exit.normal= .normal∧R ⟨t,H,nx⟩)
  (fun t H nx E a w hk _ _ p1 _ p3 p4=>hQ ⟨t,H,nx⟩ E a w hk.2 p1 p3 (fun n h1 h2=>(p4 n h1 h2).1)) opsB 0 t1 H1 nx1 rfl (uM _) hm (uM _) h4 E1 a1 w1 q1 q2 q3 q4
 simpa using hsq2
theorem DGives.none{E:Env}{F:SF}{w:World}(h:HRel E F w):DGives E F w [] w:=⟨E,StepR.refl h,fun _ h=>h⟩
end Go.Tx
end
section
namespace Go.Proofs.YtifhjhbfhdcahaaGreat
open Go.Tx
set_option maxRecDepth 100000
set_option maxHeartbeats 16000000
def chM:List PanicEntry:=[{v:=.iface 204 (.agg #[]),recovered:=false}]
theorem zOh(T:Tys)(ρ:Operand→Option PV)(F:SF)(nx:Nm)(op:Op):zEU chM T ρ F nx op=none:=rfl
theorem zOi(op:Op):zHm chM op=false:=rfl
attribute [go_sem] zOh zOi
def chR:List PanicEntry:=[{v:=.iface 204 (.agg #[]),recovered:=true}]
theorem hta(w:World):(Instr.typeAssert (.iface 204 (.agg #[])) 20 204 true).run Tryz.prog w= .ok (.tuple #[.agg #[],.bool true]) w:=by kernel_rfl
theorem zF3(L nx:Nat)(n:Nm):kp L nx [] n=n:=by
 unfold kp;rw[if_neg]
 rintro ⟨_,h1,h2⟩
 simp at h2;omega
def rdB(s:List UInt8)(p:Nat):SBlk:=.rows 178 2 true true [[.str s,.int .i64 p]]
theorem zHW{F:SF}{L:Nat}(n m:Nm):zMm Tryz.prog .returning .returning 122 [.ptr n 0 0,.ptr m 0 0] F L [] []:=by
 intro F2 _ E w args' hR hdp hargs;simp only[VRl,VR]at hargs;obtain ⟨_,_,rfl,⟨i,hi,hz,rfl⟩,_,_,rfl,⟨j,hj,hjz,rfl⟩,rfl⟩:=hargs;refine callsDIn_of_wpSIn (fn:=Tryz.f122) (c:=Tryz.f122.body.getD .skip) (by kernel_rfl) (by rfl) trivial fun c₀ cs hu=>?_
 generalize hQ:bodyPostS Tryz.prog Tryz.f122 c₀ cs _=Q;simp only[Tryz.f122,vT];apply wpSIn_seq;apply wpSIn_region;simp[wpOpsSIn,go_sem,recoverD,hu,Exit.thenS];apply wpSIn_seq;apply wpSIn_region;simp[wpOpsSIn,go_sem,Exit.thenS];refine wpSIn_cond (t:=false) (by simp[Act.eval,Array.replicate]) ?_;simp only[wC,if_false];refine wpSIn_of_wpIn rfl (wpIn_skip ?_);subst hQ;cases c₀
 simp_all[bodyPostS,results,Tryz.f122,DGives.none hR]
theorem zIU{F:SF}{L:Nat}(n m:Nm)(hn:n.l≤L)(hm:m.l≤L)(hnm:n≠m)(hFn:F n=some (.rows 26 6 true true [[.int .i64 0,.int .i64 0,.int .i64 0,.int .i64 0,.int .i64 0,.str []]]))(hFm:F m=some (.rows 69 1 true true [[.int .i64 0]])):
  zMm Tryz.prog (.panicking chM) (.panicking chR) 122 [.ptr n 0 0,.ptr m 0 0] F L [(n,.rows 26 6 true true [[.int .i64 0,.int .i64 0,.int .i64 0,.int .i64 0,.int .i64 0,.str []]]),(m,.rows 69 1 true true [[.int .i64 5]])] [n,m]:=by
 intro F2 hF2 E w args' hR hdp hargs;simp only[VRl,VR]at hargs;obtain ⟨_,_,rfl,⟨i,hi,hz,rfl⟩,_,_,rfl,⟨j,hj,hjz,rfl⟩,rfl⟩:=hargs;refine callsDIn_of_wpSIn (fn:=Tryz.f122) (c:=Tryz.f122.body.getD .skip) (by kernel_rfl) (by rfl) trivial fun c₀ cs hu=>?_
 generalize hQ:bodyPostS Tryz.prog Tryz.f122 c₀ cs _=Q;simp only[Tryz.f122,vT];apply wpSIn_seq;apply wpSIn_region;simp[wpOpsSIn,go_sem,recoverD,hu,chM,Exit.thenS];apply wpSIn_seq;apply wpSIn_region;simp[wpOpsSIn,go_sem,Exit.thenS];refine wpSIn_cond (t:=true) (by simp[Act.eval,Array.replicate]) ?_;simp only[if_true];apply wpSIn_seq;apply wpSIn_seq;apply wpSIn_region;simp[wpOpsSIn,go_sem,hta,Exit.thenS];apply wpSIn_seq;apply wpSIn_region;simp[wpOpsSIn,go_sem,Exit.thenS];refine wpSIn_cond (t:=false) (by simp[Act.eval,Array.replicate]) ?_;simp only[wC,if_false];refine wpSIn_of_wpIn rfl (wpIn_skip ?_);simp only[Exit.thenS];have h3:=zEo L F2;have hS0:=zUS hR h3;have hS1:=StepR.alloc hS0.rel (.cells #[] 204);have n1:∀k,(n=(⟨L+1,k⟩:Nm))=False:=zAI (by omega);have n2:∀k,((⟨L+1,k⟩:Nm)=n)=False:=zAF (by omega);have m1:∀k,(m=(⟨L+1,k⟩:Nm))=False:=zAI (by omega);have m2:∀k,((⟨L+1,k⟩:Nm)=m)=False:=zAF (by omega);have p1:(n=m)=False:=eq_false hnm;have p2:(m=n)=False:=eq_false fun e=>hnm e.symm
 obtain ⟨F3,hF3⟩:∃F3,F3=zEe L F2:=⟨_,rfl⟩;have kn:F3 n=some (.rows 26 6 true true [[.int .i64 0,.int .i64 0,.int .i64 0,.int .i64 0,.int .i64 0,.str []]]):=by rw[hF3];simp only[zEe];rw[if_pos hn,hF2 n (by simp)];exact hFn
 have km:F3 m=some (.rows 69 1 true true [[.int .i64 0]]):=by rw[hF3];simp only[zEe];rw[if_pos hm,hF2 m (by simp)];exact hFm
 refine wpSIn_of_wpIn rfl (zKA (C:=cx (L+1)) (zAg (L+1)) rfl rfl (F3:=F3) (E:=E) (by rw[hF3];exact hS1.rel) (fun x hx=>hdp x (by have:L+1≤x.l:=hx;omega)) (t:=[some (.ptr n 0 0),some (.ptr m 0 0),none,none,none,none,none,none,none,none,none,none,none,none,none,none,none,none]) ⟨by simp,fun q v hv=>?_⟩ rfl (R:=PostD F3 L [(n,.rows 26 6 true true [[.int .i64 0,.int .i64 0,.int .i64 0,.int .i64 0,.int .i64 0,.str []]]),(m,.rows 69 1 true true [[.int .i64 5]])]) ?_ fun st E' a' w' hst hs hd hnew=>?_)
 ·rcases q with _|_|q;·simp[TF]at hv;subst hv;exact ⟨.pointer (some ⟨i.b,i.o,none⟩),by simp,by simp only[VR];exact ⟨i,hi,hz,by simp⟩⟩
  ·simp[TF]at hv;subst hv;exact ⟨.pointer (some ⟨j.b,j.o,none⟩),by simp,by simp only[VR];exact ⟨j,hj,hjz,by simp⟩⟩
  ·exfalso;have:∀k,k<16→([none,none,none,none,none,none,none,none,none,none,none,none,none,none,none,none]:List (Option PV)).getD k none=none:=by decide
   simp only[TF,uF]at hv;rcases wT q 16 with hq|hq;·rw[this q hq]at hv;cases hv
   ·rw[zE,uA (by simpa using hq)]at hv;cases hv
 ·show vcC (cx (L+1)) F3 (.seq (.region 5 _ false) (.region 6 _ false)) _ _;simp only[n1,m1,p2,kn,km,go_sem,meths];refine ⟨⟨hn,?_,hm,?_,trivial⟩,by simp[UpdAll,keys]⟩;·rw[zF3];exact .pure (by simp[Tx.look,n1])
  ·rw[zF3];exact .pure (by simp[Tx.look,m1,p2])
 ·subst hQ;refine ⟨hd,.panicking chR,rfl,.tuple #[],by simp[results,Tryz.f122],⟨_,rfl⟩,rfl,?_⟩;rw[hF3]at hs hst;exact zG6 hR hdp (hS1.trans hs) (fun x h1 h2=>hnew x h1 h2) hst
mutual
theorem zPV{D:Nm→Prop}:∀{v:PV},nf v=true→nmA D v
 | .bool _,_=>trivial
 | .int _ _,_=>trivial
 | .str _,_=>trivial
 | .nilP,_=>trivial
 | .nilS,_=>trivial
 | .nilM,_=>trivial
 | .nilF,_=>trivial
 | .nilI,_=>trivial
 | .ptr _ _ _,h=>by simp[nf]at h
 | .sl _ _ _,h=>by simp[nf]at h
 | .mp _,h=>by simp[nf]at h
 | .fp _ _ _ _,_=>trivial
 | .fs _ _,_=>trivial
 | .fm _ _,_=>trivial
 | .fn _ x y,h=>by simp only[nf,zC]at h;simp only[nmA];exact ⟨zEH h.1,zEH h.2⟩
 | .ifc _ v,h=>by simp only[nf]at h;simp only[nmA];exact zPV h
 | .agg l,h=>by simp only[nf]at h;simp only[nmA];exact zEH h
 | .tup l,h=>by simp only[nf]at h;simp only[nmA];exact zEH h
theorem zEH{D:Nm→Prop}:∀{l:List PV},nfl l=true→zDf D l
 | [],_=>trivial
 |v::l,h=>by simp only[nfl,zC]at h;simp only[zDf];exact ⟨zPV h.1,zEH h.2⟩
end
mutual
theorem zRg{σ:Nm→Nm}:∀{v:PV},nf v=true→Tx.rn σ v=v
 | .bool _,_=>rfl
 | .int _ _,_=>rfl
 | .str _,_=>rfl
 | .nilP,_=>rfl
 | .nilS,_=>rfl
 | .nilM,_=>rfl
 | .nilF,_=>rfl
 | .nilI,_=>rfl
 | .ptr _ _ _,h=>by simp[nf]at h
 | .sl _ _ _,h=>by simp[nf]at h
 | .mp _,h=>by simp[nf]at h
 | .fp _ _ _ _,_=>rfl
 | .fs _ _,_=>rfl
 | .fm _ _,_=>rfl
 | .fn _ x y,h=>by simp only[nf,zC]at h;simp only[Tx.rn];rw[zFh h.1,zFh h.2]
 | .ifc _ v,h=>by simp only[nf]at h;simp only[Tx.rn];rw[zRg h]
 | .agg l,h=>by simp only[nf]at h;simp only[Tx.rn];rw[zFh h]
 | .tup l,h=>by simp only[nf]at h;simp only[Tx.rn];rw[zFh h]
theorem zFh{σ:Nm→Nm}:∀{l:List PV},nfl l=true→Tx.rnL σ l=l
 | [],_=>rfl
 |v::l,h=>by simp only[nfl,zC]at h;simp only[Tx.rnL];rw[zRg h.1,zFh h.2]
end
def zT5(g:FuncId)(xs ys:List PV)(s:List UInt8)(v:PV)(F:SF)(L:Nat)(rds:List Nm):Prop:=
 ∀(F':SF) (r:Nm) (nx:Nat),(∀n∈rds,F' n=F n)→r.l=L+2→F' r=some (rdB s 0)→Con Tryz.prog g (xs++[.ptr r 0 0]++ys) F' (L+2) nx nx v [(r,.dead)] (r::rds)
def zSe(g:FuncId)(xs ys:List PV)(s:List UInt8)(F:SF)(L:Nat)(rds:List Nm):Prop:=
 ∀(F':SF) (r:Nm),(∀n∈rds,F' n=F n)→r.l=L+2→F' r=some (rdB s 0)→DCon Tryz.prog chM g (xs++[.ptr r 0 0]++ys) F' (L+2) [(r,.dead)] (r::rds)
theorem zKB{F:SF}{L nx:Nat}(s:List UInt8)(g:FuncId)(xs ys:List PV)(l:List PV)(hl:l.length=6)(hnf:nfl l=true)(rds:List Nm)(hrd:∀n∈rds,n.l≤L)(hg:zT5 g xs ys s (.agg l) F L rds):
  Con Tryz.prog 89 [.str s,.fn (.func g) xs ys] F L nx nx (.tup [.agg l,.int .i64 0]) [] rds:=by
 refine zVB (k:=0) (zAg (L+1)) rfl rfl rfl (fn:=Tryz.f89) (f:=89) (g:=122) (gn:=Tryz.f122) (ch:=chM) (u:=.returning) (u':=.returning) (t1:=[some (.str s),some (.fn (.func g) xs ys),some zAN,some zAN,some (.ptr ⟨L+1,0⟩ 0 0),some (.ptr ⟨L+1,32⟩ 0 0),some zAN,some zAN,some zAN,some zAN,some zAN,some zAN,some zAN]) (H1:=[(⟨L+1,0⟩,.rows 26 6 true true [[.int .i64 0,.int .i64 0,.int .i64 0,.int .i64 0,.int .i64 0,.str []]]),(⟨L+1,32⟩,.rows 69 1 true true [[.int .i64 0]])]) (n1:=64) (cl:=[.ptr ⟨L+1,0⟩ 0 0,.ptr ⟨L+1,32⟩ 0 0]) (updB:=[(⟨L+1,0⟩,.rows 26 6 true true [l]),(⟨L+1,32⟩,.rows 69 1 true true [[.int .i64 0]])]) (updc:=[]) (rs:=[(4,⟨L+1,0⟩,0,0),(5,⟨L+1,32⟩,0,0)]) (rdc:=[])
  (by kernel_rfl) (by rfl) (by kernel_rfl) rfl hrd rfl rfl rfl rfl rfl rfl (by kernel_rfl) (by kernel_rfl) (by kernel_rfl) (by simp) (by kernel_rfl) ?_ ?_ ?_ ?_ ?_ ?_ ?_ rfl ?_
 ·intro F3 hF1 hF2;simp only[go_sem,meths];first|exact ⟨rfl,rfl,rfl⟩|rfl|simp[zAN]
 ·simp
 ·rfl
 ·simp
 ·simp[TF]
 ·intro F3 B hF1 hF2;have q1:∀k,((⟨L+2,k⟩:Nm)=⟨L+1,0⟩)=False:=fun k=>by simp
  have q2:∀k,((⟨L+2,k⟩:Nm)=⟨L+1,32⟩)=False:=fun k=>by simp
  have q3:∀k,((⟨L+1,0⟩:Nm)=⟨L+2,k⟩)=False:=fun k=>by simp
  have q4:∀k,((⟨L+1,32⟩:Nm)=⟨L+2,k⟩)=False:=fun k=>by simp
  simp only[go_sem,meths];refine CallVD.live (CallVC.same (hg _ ⟨L+2,128⟩ _ ?_ rfl ?_) ?_)
  ·intro n hn;have:=hrd n hn;have e1:n≠⟨L+2,128⟩:=by rintro rfl;simp at this;omega
   have e2:n≠⟨L+1,0⟩:=by rintro rfl;simp at this;omega
   have e3:n≠⟨L+1,32⟩:=by rintro rfl;simp at this;omega
   simp[e1,e2,e3,hF1 n hn]
  ·simp[rdB]
  simp only[q3,q4,hl,hnf,go_sem];repeat refine sd1 ?_
  refine ⟨.inr trivial,⟨⟨⟨?_,?_,?_,?_,trivial⟩,?_⟩,rfl,?_⟩⟩;·simp
  ·rw[zF3];exact .pure (by simp[Tx.look])
  ·simp
  ·rw[zF3];exact .pure (by simp[Tx.look])
  ·simp[UpdAll,keys]
  ·simp[TF]
 ·intro F3 hF1 hF2;exact zHW _ _
 ·intro F3 hF1 hF2;refine PostN.val [] (.inr rfl) (by simp) (p:=True) (v0:=.tup [.agg l,.int .i64 0]) ?_ trivial ?_ ?_ trivial ?_;·simp only[Tryz.f89,rsT,go_sem,meths]
  ·simp only[nmA,zDf];exact ⟨zEH hnf,trivial,trivial⟩
  ·simp only[Tx.rn,Tx.rnL];rw[zFh hnf]
  ·simp[UpdAll,keys,zAl,setH]
theorem zI9{F:SF}{L nx:Nat}(s:List UInt8)(g:FuncId)(xs ys:List PV)(rds:List Nm)(hrd:∀n∈rds,n.l≤L)(hg:zSe g xs ys s F L rds):
  Con Tryz.prog 89 [.str s,.fn (.func g) xs ys] F L nx nx (.tup [.agg [.int .i64 0,.int .i64 0,.int .i64 0,.int .i64 0,.int .i64 0,.str []],.int .i64 5]) [] rds:=by
 refine zVB (k:=0) (zAg (L+1)) rfl rfl rfl (fn:=Tryz.f89) (f:=89) (g:=122) (gn:=Tryz.f122) (ch:=chM) (u:=.panicking chM) (u':=.panicking chR) (t1:=[some (.str s),some (.fn (.func g) xs ys),some zAN,some zAN,some (.ptr ⟨L+1,0⟩ 0 0),some (.ptr ⟨L+1,32⟩ 0 0),some zAN,some zAN,some zAN,some zAN,some zAN,some zAN,some zAN]) (H1:=[(⟨L+1,0⟩,.rows 26 6 true true [[.int .i64 0,.int .i64 0,.int .i64 0,.int .i64 0,.int .i64 0,.str []]]),(⟨L+1,32⟩,.rows 69 1 true true [[.int .i64 0]])]) (n1:=64) (cl:=[.ptr ⟨L+1,0⟩ 0 0,.ptr ⟨L+1,32⟩ 0 0]) (updB:=[]) (updc:=[(⟨L+1,0⟩,.rows 26 6 true true [[.int .i64 0,.int .i64 0,.int .i64 0,.int .i64 0,.int .i64 0,.str []]]),(⟨L+1,32⟩,.rows 69 1 true true [[.int .i64 5]])]) (rs:=[(4,⟨L+1,0⟩,0,0),(5,⟨L+1,32⟩,0,0)]) (rdc:=[⟨L+1,0⟩,⟨L+1,32⟩])
  (by kernel_rfl) (by rfl) (by kernel_rfl) rfl hrd rfl rfl rfl rfl rfl rfl (by kernel_rfl) (by kernel_rfl) (by kernel_rfl) (by simp) (by kernel_rfl) ?_ ?_ ?_ ?_ ?_ ?_ ?_ rfl ?_
 ·intro F3 hF1 hF2;simp only[go_sem,meths];first|exact ⟨rfl,rfl,rfl⟩|rfl|simp[zAN]
 ·simp
 ·rfl
 ·simp
 ·simp[TF]
 ·intro F3 B hF1 hF2;have q1:∀k,((⟨L+2,k⟩:Nm)=⟨L+1,0⟩)=False:=fun k=>by simp
  have q2:∀k,((⟨L+2,k⟩:Nm)=⟨L+1,32⟩)=False:=fun k=>by simp
  have q3:∀k,((⟨L+1,0⟩:Nm)=⟨L+2,k⟩)=False:=fun k=>by simp
  have q4:∀k,((⟨L+1,32⟩:Nm)=⟨L+2,k⟩)=False:=fun k=>by simp
  simp only[go_sem,meths];refine CallVD.same rfl (hg _ ⟨L+2,128⟩ ?_ rfl ?_) ?_
  ·intro n hn;have:=hrd n hn;have e1:n≠⟨L+2,128⟩:=by rintro rfl;simp at this;omega
   have e2:n≠⟨L+1,0⟩:=by rintro rfl;simp at this;omega
   have e3:n≠⟨L+1,32⟩:=by rintro rfl;simp at this;omega
   simp[Tx.look,e1,e2,e3,hF1 n hn]
  ·simp[Tx.look,rdB]
  ·exact ⟨⟨trivial,by simp[UpdAll,keys,zAl,setH]⟩,rfl,by simp[TF]⟩
 ·intro F3 hF1 hF2;exact zIU ⟨L+1,0⟩ ⟨L+1,32⟩ (by simp) (by simp) (by simp) (by simp[Tx.look,SF.upd]) (by simp[Tx.look,SF.upd])
 ·intro F3 hF1 hF2;refine PostN.val [] (.inr rfl) (by simp) (p:=True) (v0:=.tup [.agg [.int .i64 0,.int .i64 0,.int .i64 0,.int .i64 0,.int .i64 0,.str []],.int .i64 5]) ?_ trivial ?_ ?_ trivial ?_;·simp only[Tryz.f89,rsT,go_sem,meths]
  ·simp[nmA,zDf]
  ·simp[Tx.rn,Tx.rnL]
  ·simp[UpdAll,keys,zAl,setH]
def lead(x y b:Int):Int:=if (x-y)%2^b.toNat/2^(b-1).toNat=1 then (x-y)%2^b.toNat-2^b.toNat else (x-y)%2^b.toNat
end Go.Proofs.YtifhjhbfhdcahaaGreat
end
section
namespace Go.Proofs.YtifhjhbfhdcahaaGreat
open Go.Tx
set_option maxRecDepth 100000
def zA2(b x:Int):Bool:=decide (0≤x)&&decide (x<2^b.toNat)
def zT6(xs:List Int)(n:Int)(i:Nat):Bool:=decide (0≤xs.getD i 0)&&decide (xs.getD i 0<n)&&(i==0||decide (xs.getD (i-1) 0<xs.getD i 0))
def zQJ(xs:List Int)(n:Int):Bool:=(List.range xs.length).all (zT6 xs n)
theorem zOj{F:SF}{L nx:Nat}(xs:List Int)(y:Int)(hlen:xs.length≤1000000):Con Tryz.prog 121 [.fs 1 (xs.map eI),.int .i64 y] F L nx nx (.int .i64 (zP7 (fun x=>y==x) xs)) [] []:=by
 refine bdy Tryz.f121 ?_;intro F3 hF1 hF2;simp only[Tryz.f121,go_sem,meths];refine loopK.intro _ _ (I:=fun i:Nat=>⟨[some (.fs 1 (xs.map eI)),some (.int .i64 y),none,none,none,none,none,some (.int .i64 xs.length),some (.int .i64 i)]++oz 10,[],1000*(i+1)⟩) (pre:=fun i=>i≤xs.length∧∀(j:Nat) (hj:j<xs.length),j<i→(y==xs[j])=false) (μ:=fun i=>xs.length-i) 0 ⟨by omega,by intro j _ h;omega⟩ ?_ ?_;·exact Sub.of (hfz hF2) (by simp only[go_sem,zAf,and_self,zG,zW]) trivial trivial (by simp)
 ·rintro i ⟨hi,hp⟩
  by_cases hlt:i<xs.length
  ·have g1:decide ((i:Int)<(xs.length:Int))=true:=dT (by omega);have hx:xs.getD i 0=xs[i]:=by simp[hlt,zE]
   have i1:Go.Sx.zCn ((i:Int)+1):=⟨by omega,by omega⟩;have hl:=zRc xs;cases hpi:(y==xs[i])
   ·simp only[g1,zJ1 xs hlt,eI,hx,hpi,hl,go_sem];refine ⟨⟨by omega,by omega⟩,hlt,i1,i+1,⟨by omega,fun j hj hji=>?_⟩,by omega,Sub.of (hfz hF2) (by simp only[go_sem,zAf,and_self,vB,Int.cast_ofNat_Int]) trivial trivial (by simp;omega)⟩;by_cases he:j=i;·subst he;exact hpi
    ·exact hp j hj (by omega)
   ·simp only[g1,zJ1 xs hlt,eI,hx,hpi,hl,go_sem];exact ⟨⟨by omega,by omega⟩,hlt,.int (.inr rfl) rfl (zMg hlt hp hpi).symm trivial⟩
  ·have g1:decide ((i:Int)<(xs.length:Int))=false:=dF (by omega);simp only[g1,go_sem];exact .int (.inr rfl) rfl (zOU (fun j hj=>hp j hj (by omega))).symm trivial
theorem zEp{F:SF}{L nx:Nat}(xs:List Int)(y:Int)(hlen:xs.length≤1000000):Con Tryz.prog 88 [.fs 1 (xs.map eI),.int .i64 y] F L nx nx (.bool (xs.any fun x=>y==x)) [] []:=by
 refine bdy Tryz.f88 ?_;intro F3 hF1 hF2;simp only[Tryz.f88,go_sem,meths];refine CallVC.same (zOj xs y hlen) ?_;simp only[go_sem];exact .bool (.inr rfl) rfl (zOV _ xs) trivial
end Go.Proofs.YtifhjhbfhdcahaaGreat
end
section
namespace Go.Proofs.YtifhjhbfhdcahaaGreat
open Go.Tx
set_option maxRecDepth 100000
set_option maxHeartbeats 16000000
theorem zFi{L nx:Nat}{news:List Nat}{G:SF}{ob:Option SBlk}:BN L nx news G ob .dead:=by
 cases ob with
 |none=>trivial
 |some b=>cases b<;>trivial
theorem nB{i k:Nat}(h:k<10000):(10000*(i+1)=k)=False:=by apply eq_false;omega
theorem PostF.same{T:Tys}{F:SF}{rl:List ResultVar}{L:Nat}{v:PV}{e:Exit}{st:St}{p:Prop}(he:e= .normal∨e= .ret)(h:zC5 T (Tx.look F st.H) st.t rl=some (p,v))(hp:p)(hf:Tx.nf v=true)(ha:UpdAll L [] st.H):PostF T F rl L v [] e st:=
 .of he h hp (zCS _ v).1 (by intro n hn;rw[(zCS F v).2]at hn;cases hn) hf trivial ha
theorem ps0{T:Tys}{F:SF}{rl:List ResultVar}{L:Nat}{v:PV}{e:Exit}{st:St}(h:zC5 T (Tx.look F st.H) st.t rl=some (True,v):=by simp only[go_sem])(hf:Tx.nf v=true:=by simp[Tx.nf,nfl])(he:e= .normal∨e= .ret:=by exact .inr rfl)(ha:UpdAll L [] st.H:=by simp[UpdAll]):PostF T F rl L v [] e st:=PostF.same (p:=True) he h trivial hf ha
theorem zCd{L nx:Nat}{news:List Nat}{n:Nm}(h:n.l<L∨n.i<nx∨news=[]):kp L nx news n=n:=by
 unfold kp;rw[if_neg]
 rintro ⟨h1,h2,h3⟩
 rcases h with h|h|h;·omega
 ·omega
 ·subst h;simp at h3;omega
theorem zQK{L nx:Nat}{n:Nm}:kp L nx [] n=n:=zCd (.inr (.inr rfl))
theorem zDz{L nx:Nat}{news:List Nat}{n:Nm}(h:n.l≤L):sg L nx news n=n:=by unfold sg;rw[if_neg (by omega)]
theorem zKC{F:SF}{L nx:Nat}(n:Nm)(r c:Nat):Con Tryz.prog 132 [.ptr n r c] F L nx nx (.ptr n r c) [] []:=by
 refine ⟨zH _,fun F2 h2 E w args' hR hf hd hv=>?_⟩;simp only[VRl]at hv;obtain ⟨v,t,rfl,h1,rfl⟩:=hv;have hr:(callFunc 132 [v].toArray).run Tryz.prog w= .ok (.value v) w:=by rfl
 rw[hr];exact ⟨E,h1,StepR.refl hR,fun n a b=>absurd a b⟩
theorem zIV{F:SF}{L nx:Nat}(n:Nm)(e:TypeId)(he:e=213∨e=133)(p:Bool)(hn:n.l≤L)(hF:F n=some (.rows e 2 true p [[.nilP,.nilS]])):
  Con Tryz.prog 112 [.ptr n 0 0] F L nx nx (.tup []) [(n,.rows e 2 true false [[.ptr n 0 0,.nilS]])] [n]:=by
 show Con Tryz.prog 112 _ F L nx (nx+0) _ _ _;refine zPU Tryz.f112 (hrd:=(by simp[hn])) ?_;intro F3 hF1 hF2;have hFn:=(hF1 n (by simp)).trans hF;rcases he with rfl|rfl;all_goals
  simp only[Tryz.f112,hFn,go_sem,meths];refine CallVC.same (zKC n 0 0) ?_;simp only[hFn,go_sem];refine .now (PostN.val [] (.inl rfl) List.nodup_nil (p:=True) (v0:=.tup []) rfl trivial (by trivial) rfl ⟨hn,?_,trivial⟩ (by simp[UpdAll,keys]));rw[zQK];exact .ren (by simp[Tx.look];rfl) (by simp[zB2,nmA,zDf,Dn,hn]) (by simp[Tx.rn,Tx.rnL,zDz hn])
theorem zFC{F:SF}{L nx:Nat}(n:Nm)(e:TypeId)(he:e=213∨e=133)(buf:PV)(hn:n.l≤L)(hF:F n=some (.rows e 2 true false [[.ptr n 0 0,buf]])):
  Con Tryz.prog 112 [.ptr n 0 0] F L nx nx (.tup []) [] [n]:=by
 show Con Tryz.prog 112 _ F L nx (nx+0) _ _ _;refine zPU Tryz.f112 (hrd:=(by simp[hn])) ?_;intro F3 hF1 hF2;have hFn:=(hF1 n (by simp)).trans hF;rcases he with rfl|rfl;all_goals
  simp only[Tryz.f112,hFn,go_sem,meths];exact .now (PostN.val [] (.inl rfl) List.nodup_nil (p:=True) (v0:=.tup []) rfl trivial (by trivial) rfl trivial (by simp[UpdAll]))
def zL5(F:SF)(n:Nm)(e:TypeId)(b:Option Nm)(t:List UInt8):Prop:=
 match b with
 |none=>t=[]∧∃p,F n=some (.rows e 2 true p [[.nilP,.nilS]])
 |some m=>t≠[]∧F n=some (.rows e 2 true false [[.ptr n 0 0,.sl m 0 t.length]])∧F m=some (.rows 5 1 true true (t.map zBY))∧m≠n
def zDk(n:Nm)(e:TypeId)(m:Nm)(t:List UInt8):List (Nm×SBlk):=
 [(n,.rows e 2 true false [[.ptr n 0 0,.sl m 0 t.length]]),(m,.rows 5 1 true true (t.map zBY))]
theorem zG7{F:SF}{L nx:Nat}(n:Nm)(e:TypeId)(he:e=213∨e=133)(hn:n.l<L∨(n.l=L∧n.i<nx))(s:List UInt8)(hs:s≠[])(hsl:s.length≤1000000)(hb:zL5 F n e none []):
  Con Tryz.prog 61 [.ptr n 0 0,.str s] F L nx (nx+1) (.tup [.int .i64 s.length,.nilI]) (zDk n e ⟨L,nx⟩ s) [n]:=by
 refine zPU Tryz.f61 (hrd:=(by simp;omega)) ?_;intro F3 hF1 hF2;obtain ⟨_,p,hbp⟩:=hb;have hFn:=(hF1 n (by simp)).trans hbp;have n1:∀k,(n=(⟨L+1,k⟩:Nm))=False:=zAI (by omega);have n2:∀k,((⟨L+1,k⟩:Nm)=n)=False:=zAF (by omega);simp only[Tryz.f61,go_sem,meths];refine CallVC.same (zIV n e he p (by omega) (by simp[hFn])) ?_;simp only[hFn,n1,n2,go_sem];have e1:List.map (fun b:UInt8=>[PV.int .u8 b.toNat]) s=s.map zBY:=rfl;rw[e1,zG];refine ⟨⟨by omega,by omega⟩,?_⟩;refine .now (PostN.val [288] (.inr rfl) (by simp) (p:=True) (v0:=.tup [.int .i64 s.length,.nilI]) ?_ trivial ?_ ?_ ⟨by omega,?_,zH _,?_,trivial⟩ ?_);·simp only[go_sem]
 ·simp[nmA,zDf]
 ·simp[Tx.rn,Tx.rnL]
 ·rw[zCd (hn.imp id fun h=>.inl h.2)];exact .ren (by simp[Tx.look];rfl) (by simp[zB2,nmA,zDf,Dn];omega) (by simp[Tx.rn,Tx.rnL,zDz (show n.l≤L by omega)];simp[sg])
 ·rw[zDg (by simp)];exact .pure (by simp[Tx.look,n2])
 ·simp[UpdAll,keys,zDk]
theorem zG8{F:SF}{L nx:Nat}(n:Nm)(e:TypeId)(he:e=213∨e=133)(hn:n.l<L∨(n.l=L∧n.i<nx))(m:Nm)(hm:m.l<L∨(m.l=L∧m.i<nx))(t s:List UInt8)(hs:s≠[])(hsl:t.length+s.length≤1000000)(hb:zL5 F n e (some m) t):
  Con Tryz.prog 61 [.ptr n 0 0,.str s] F L nx (nx+1) (.tup [.int .i64 s.length,.nilI]) ((m,.dead)::zDk n e ⟨L,nx⟩ (t++s)) [n,m]:=by
 refine zPU Tryz.f61 (hrd:=(by simp;omega)) ?_;intro F3 hF1 hF2;obtain ⟨ht,hb1,hb2,hmn⟩:=hb;have hFn:=(hF1 n (by simp)).trans hb1;have hFm:=(hF1 m (by simp)).trans hb2;have n1:∀k,(n=(⟨L+1,k⟩:Nm))=False:=zAI (by omega);have n2:∀k,((⟨L+1,k⟩:Nm)=n)=False:=zAF (by omega);have n3:∀k,(m=(⟨L+1,k⟩:Nm))=False:=zAI (by omega);have n4:∀k,((⟨L+1,k⟩:Nm)=m)=False:=zAF (by omega);have n5:(m=n)=False:=by simp[hmn]
 have n6:(n=m)=False:=by simp[Ne.symm hmn]
 simp only[Tryz.f61,go_sem,meths];refine CallVC.same (zFC n e he _ (by omega) (by simp[hFn];rfl)) ?_;simp only[hFn,hFm,n1,n4,n6,go_sem];have e1:List.map (fun b:UInt8=>[PV.int .u8 b.toNat]) s=s.map zBY:=rfl;rw[e1];simp only[zG];refine ⟨⟨trivial,by omega,by omega⟩,?_⟩;refine .now (PostN.val [288] (.inr rfl) (by simp) (p:=True) (v0:=.tup [.int .i64 s.length,.nilI]) ?_ trivial ?_ ?_ ⟨by omega,?_,by omega,?_,zH _,?_,trivial⟩ ?_);·simp only[go_sem]
 ·simp[nmA,zDf]
 ·simp[Tx.rn,Tx.rnL]
 ·exact zFi
 ·rw[zCd (hn.imp id fun h=>.inl h.2)];exact .ren (by simp[Tx.look,n1,n6];rfl) (by simp[zB2,nmA,zDf,Dn];omega) (by simp[Tx.rn,Tx.rnL,zDz (show n.l≤L by omega)];simp[sg])
 ·rw[zDg (by simp)];exact .pure (by simp[Tx.look,n4])
 ·simp[UpdAll,keys,zDk]
theorem zBK(t:List UInt8):zBc (t.map zBY)=t:=by
 simp only[zBc,List.map_map]
 conv=>rhs;rw[←List.map_id t]
 apply List.map_congr_left;intro x _;simp[zLQ,zBY]
theorem zLm{F:SF}{L nx:Nat}(n:Nm)(e:TypeId)(hn:n.l<L∨(n.l=L∧n.i<nx))(m:Nm)(hm:m.l≤L)(t:List UInt8)(hsl:t.length≤1000000)(hb:zL5 F n e (some m) t):
  Con Tryz.prog 63 [.ptr n 0 0] F L nx nx (.str t) [(m,.rows 5 1 false true (t.map zBY))] [n,m]:=by
 refine bdy Tryz.f63 (hrd:=(by simp;omega)) ?_;intro F3 hF1 hF2;obtain ⟨ht,hb1,hb2,hmn⟩:=hb;have hFn:=(hF1 n (by simp)).trans hb1;have hFm:=(hF1 m (by simp)).trans hb2;have hl:0<t.length:=List.length_pos_iff.2 ht;have n5:(m=n)=False:=by simp[hmn]
 have n6:(n=m)=False:=by simp[Ne.symm hmn]
 have e2:(t.map zBY).take t.length=t.map zBY:=zQ (by simp);simp only[Tryz.f63,hFn,hFm,e2,zBK,zG,go_sem,meths];refine ⟨by kernel_rfl,⟨by omega,by omega⟩,⟨by omega,by omega⟩,zAA (fun x=>if x=m then 1 else 0) (by simp only[zA0,List.map,n6,if_true,if_false];kernel_rfl),?_⟩;exact PostF.of (p:=True) (v0:=.str t) (.inr rfl) (by simp only[go_sem]) trivial (by simp only[Wk]) (by simp[wkN]) rfl ⟨hm,by simp[BW,Tx.look],trivial⟩ (by simp[UpdAll,keys])
def zAa(n v:Nat):List UInt8:=(List.range n).map fun i=>UInt8.ofNat (v/256^(n-1-i)%256)
theorem zAL(n v:Nat):(zAa n v).length=n:=by simp[zAa]
def putR(n v i:Nat):List (List PV):=(List.range n).map fun j=>[.int .u8 (if j<i then (v/256^(n-1-j)%256:Nat) else 0)]
theorem zSf(v k:Nat){b:Int}(hb:b=8*k)(hk:k≤7):(v:Int).fdiv (2^min b.toNat 64)=((v/256^k:Nat):Int):=by
 rw[zMf (v:Int) (by omega) (by omega)];have:b.toNat=8*k:=by omega
 rw[this,Int.pow_mul];simp
theorem zOk(n v i:Nat)(h:i<n):(putR n v i).set i (PV.int .u8 (IntKind.u8.wrap ((v/256^(n-1-i):Nat):Int))::List.drop 1 ((putR n v i).getD i []))=putR n v (i+1):=by
 have hg:List.drop 1 ((putR n v i).getD i [])=[]:=by simp[putR,zE,h]
 rw[hg];apply List.ext_getElem?;intro k;rw[vQ];by_cases hk:i=k
 ·subst hk;simp only[if_true,putR,zG,List.length_range,h,wE,qF h,wJ];have:i<i+1:=by omega
  simp only[this,if_true,IntKind.wrap_u8];congr 3
 ·rw[if_neg hk];simp only[putR,wE];cases hr:(List.range n)[k]? with
  |none=>rfl
  | some j=>
   have:j=k:=by
    obtain ⟨h1,h2⟩:=List.getElem?_eq_some_iff.1 hr;simpa using h2.symm
   subst this;have e:(j<i)=(j<i+1):=by apply propext;omega
   simp only[wJ,e]
theorem zOl(n v:Nat):zBc (putR n v n)=zAa n v:=by
 simp only[zBc,putR,zAa,List.map_map];apply List.map_congr_left;intro j hj;simp only[List.mem_range]at hj;simp only[Function.comp,hj,if_true,zLQ,qL]
theorem zMq{F:SF}{L nx:Nat}(n v:Nat)(h1:1≤n)(h2:n≤7)(hv:v<256^n):
  Con Tryz.prog 126 [.int .i64 n,.int .i64 v] F L nx nx (.tup [.str (zAa n v),.int .i64 0]) [] []:=by
 refine bdy Tryz.f126 ?_;intro F3 hF1 hF2;have f1:decide ((n:Int)<1)=false:=dF (by omega);have f2:decide ((7:Int)<(n:Int))=false:=dF (by omega);have f3:decide ((v:Int)<0)=false:=dF (by omega);have f4:((v:Int).fdiv (2^min ((8:Int)*(n:Int)).toNat 64) !=0)=false:=by
  rw[zSf v n rfl h2,Nat.div_eq_of_lt hv];rfl
 simp only[Tryz.f126,f1,f2,f3,f4,go_sem,meths];repeat refine sd1 ?_
 refine loopK.intro _ _ (I:=fun i:Nat=>⟨[some (.int .i64 n),some (.int .i64 v),none,none,none,none,some (.sl ⟨L+1,640⟩ 0 n)]++oz 21++[some (.int .i64 n),some (.int .i64 i)]++oz 16,
  [(⟨L+1,640⟩,.rows 5 1 true true (putR n v i))],1000*(i+1)⟩) (pre:=fun i=>i≤n) (μ:=fun i=>n-i) 0 (by omega) ?_ ?_
 ·refine Sub.of (hfz hF2) (by simp only[go_sem,zAf,and_self,zW]) ?_ (by simp only[go_sem,zAs,and_self,true_or,or_true,uC,wP]) (by simp);simp[zAi,Tx.look,putR,List.map_const']
 ·intro i hi;have lr:(putR n v i).length=n:=by simp[putR]
  by_cases hlt:i<n
  ·have f5:decide ((i:Int)<(n:Int))=true:=dT (by omega);have f6:(v:Int).fdiv (2^min ((8:Int)*((n:Int)-1-(i:Int))).toNat 64)=((v/256^(n-1-i):Nat):Int):=zSf v (n-1-i) (by omega) (by omega);simp only[f5,f6,lr,zOk _ _ _ hlt,go_sem];repeat refine sd1 ?_
   refine ⟨i+1,by omega,by omega,?_⟩;refine Sub.of (hfz hF2) (by simp only[go_sem,zAf,and_self,zY]) ?_ (by simp only[go_sem,zAs,and_self,true_or,or_true,uC,wP]) (by simp;omega);simp[zAi,Tx.look]
  ·have f5:decide ((i:Int)<(n:Int))=false:=dF (by omega);have e:i=n:=by omega
   subst e;have e2:List.take i (putR i v i)=putR i v i:=zQ (by omega);simp only[f5,lr,e2,zOl,go_sem];refine ⟨⟨by omega,fun row hr=>?_⟩,?_⟩
   ·simp only[putR,List.mem_map]at hr;obtain ⟨j,_,rfl⟩:=hr;exact ⟨_,rfl⟩
   ·exact ps0
def zBW(l:List UInt8):Nat:=l.foldl (fun v c=>v*256+c.toNat) 0
theorem zRh{a b:Nat}(ha:a<2^63)(hb:b<2^63):Sx.zFU .or .i64 (a:Int) (b:Int)=((a ||| b:Nat):Int):=by
 show IntKind.i64.wrap ((BitVec.ofInt 64 (a:Int) ||| BitVec.ofInt 64 (b:Int)).toNat:Int)=_;rw[vY,vY,BitVec.toNat_or,vU,vU,wD (by omega),wD (by omega)];have:=Nat.or_lt_two_pow ha hb;apply Sx.wrap_i64;simp only[Sx.zCn];omega
theorem zIW(l:List UInt8):zBW l<256^l.length:=by
 have:∀(l:List UInt8) (a k:Nat),a<256^k→l.foldl (fun v c=>v*256+c.toNat) a<256^(k+l.length):=by
  intro l;induction l with
  |nil=>intro a k h;simpa using h
  |cons c l ih=>
   intro a k h;have hc:=c.toNat_lt;have:=ih (a*256+c.toNat) (k+1) (by rw[Nat.pow_succ];omega);simpa[zA,Nat.add_comm 1] using this
 simpa[zBW] using this l 0 0 (by simp)
theorem zJA(s:List UInt8){i:Nat}(h:i<s.length):zBW (s.take (i+1))=zBW (s.take i)*256+(s.getD i 0).toNat:=by
 rw[List.take_add_one,zBW,List.foldl_append,zE,zS h];rfl
theorem zQL{a:Nat}(ha:a<256^6)(c:UInt8):Sx.zFU .or .i64 (IntKind.i64.wrap ((a:Int)*2^min 8 64)) (c.toNat:Int)=((a*256+c.toNat:Nat):Int):=by
 have hc:=c.toNat_lt;have e1:IntKind.i64.wrap ((a:Int)*2^min 8 64)=((a*256:Nat):Int):=by
  rw[Sx.wrap_i64];·simp
  ·simp only[Sx.zCn];simp;omega
 rw[e1,zRh (by omega) (by omega)];congr 1;have:=Nat.shiftLeft_add_eq_or_of_lt (i:=8) (b:=c.toNat) (by omega) a;rw[Nat.shiftLeft_eq]at this;exact this.symm
def rdP(s:List UInt8)(p:Int):PV:=.agg [.str s,.int .i64 p]
theorem zIX{F:SF}{L nx:Nat}(s:List UInt8)(p:Int)(h0:0≤p)(hp:p≤s.length):Con Tryz.prog 140 [rdP s p] F L nx nx (.tup [rdP s p,.int .i64 0]) [] []:=by
 refine bdy Tryz.f140 ?_;intro F3 hF1 hF2;have f1:decide (p<0)=false:=dF (by omega);have f2:decide (p>(s.length:Int))=false:=dF (by omega);simp only[Tryz.f140,rdP,f1,f2,go_sem,meths];exact PostF.rs (v0:=.tup [.agg [.str s,.int .i64 p],.int .i64 0]) (.inr rfl)
theorem zMr{F:SF}{L nx:Nat}(s:List UInt8):Con Tryz.prog 142 [.str s] F L nx nx (.str s) [] []:=by
 refine bdy Tryz.f142 ?_;intro F3 hF1 hF2;simp only[Tryz.f142,go_sem,meths];exact PostF.rs (v0:=.str s) (.inr rfl)
theorem zG9{F:SF}{L nx:Nat}:Con Tryz.prog 91 [.bool true] F L nx nx (.tup []) [] []:=by
 refine bdy Tryz.f91 ?_;intro F3 hF1 hF2;simp only[Tryz.f91,go_sem,meths];exact po0 (.tup []) trivial
theorem zGP{F:SF}{L:Nat}:DCon Tryz.prog chM 91 [.bool false] F L [] []:=by
 refine DCon.body (zAg (L+1)) rfl rfl (fn:=Tryz.f91) (c:=Tryz.f91.body.getD .skip) (by kernel_rfl) (by rfl) (by kernel_rfl) rfl (by simp) ?_;intro F3 hF1 hF2;simp only[Tryz.f91,go_sem,meths];apply panicK.intro (ty:=204);·rfl
 ·rfl
 ·rfl
 ·exact .dead (ns:=[]) (by simp) (by simp[UpdAll])
theorem zMs{F:SF}{L nx:Nat}(s:List UInt8)(hs:s.length≤7):Con Tryz.prog 124 [.str s] F L nx nx (.int .i64 (zBW s)) [] []:=by
 refine bdy Tryz.f124 ?_;intro F3 hF1 hF2;have e1:List.map (fun b:UInt8=>[PV.int .u8 b.toNat]) s=s.map zBY:=rfl;simp only[Tryz.f124,go_sem,meths];refine ⟨by omega,?_⟩;refine loopK.intro _ _ (I:=fun i:Nat=>⟨[none,none,none,some (.int .i64 (zBW (s.take i))),none,none,none,some (.sl ⟨L+1,96⟩ 0 s.length),some (.int .i64 s.length),some (.int .i64 i)]++oz 10,[(⟨L+1,96⟩,.rows 5 1 true true (s.map zBY))],1000*(i+1)⟩) (pre:=fun i=>i≤s.length) (μ:=fun i=>s.length-i) 0 (by omega) ?_ ?_;·exact Sub.of (hfz hF2) (by simp[zAf,zBW]) (by simp[zAi,Tx.look]) (by simp[zAs,keys]) (by simp)
 ·intro i hi;by_cases hlt:i<s.length
  ·have f1:decide ((i:Int)<(s.length:Int))=true:=dT (by omega);have r0:(s.map zBY).getD i []=zBY (s.getD i 0):=by simp[hlt,zE]
   simp only[f1,r0,zBY,zG,go_sem];have hci:=(s.getD i 0).toNat_lt;have hg:zBW (s.take i)<256^6:=vD (zIW _) (uI (by omega) (by simp;omega));have e3:Sx.zFU .or .i64 (IntKind.i64.wrap ((zBW (s.take i):Nat)*2^min 8 64)) ((s.getD i 0).toNat:Int)=((zBW (s.take (i+1)):Nat):Int):=by
    rw[zQL hg,zJA s hlt]
   repeat refine sd1 ?_
   rw[e3];exact ⟨i+1,by omega,by omega,Sub.of (hfz hF2) (by simp[zAf]) (by simp[zAi,Tx.look]) (by simp[zAs,keys]) (by simp;omega)⟩
  ·have f1:decide ((i:Int)<(s.length:Int))=false:=dF (by omega);have e2:s.take i=s:=zQ (by omega);simp only[f1,e2,go_sem];exact PostF.rs (v0:=.int .i64 (zBW s)) (.inr rfl)
theorem zKD{F:SF}{L nx:Nat}(s:List UInt8)(p n m:Int)(h0:0≤p)(hn:0≤n)(hm:n≤m)(hp:p+n≤s.length)(hl:s.length≤1000000):Con Tryz.prog 141 [rdP s p,.int .i64 n,.int .i64 0,.int .i64 m,.fn (.func 142) [] []] F L nx nx (.tup [.str ((s.drop p.toNat).take n.toNat),rdP s (p+n),.int .i64 0]) [] []:=by
 refine bdy Tryz.f141 ?_;intro F3 hF1 hF2;have f1:decide (n<0)=false:=dF (by omega);have f2:decide (n>m)=false:=dF (by omega);have f3:decide ((s.length:Int)-p<n)=false:=dF (by omega);have e1:(p+n).toNat-p.toNat=n.toNat:=by omega
 simp only[Tryz.f141,rdP,go_sem,meths];refine CallVC.pure (args2:=[rdP s p]) (by simp[Wk,WkL,rdP]) (zIX s p h0 (by omega)) (by simp[zBC,zBv,rdP]) ?_;simp only[f1,f2,f3,rdP,go_sem];repeat refine sd1 ?_
 refine zUQ (zMr _) rfl ?_;simp only[e1,go_sem];repeat refine sd1 ?_
 exact PostF.rs (v0:=.tup [.str ((s.drop p.toNat).take n.toNat),.agg [.str s,.int .i64 (p+n)],.int .i64 0]) (.inr rfl)
theorem zKE{F:SF}{L nx:Nat}(s:List UInt8)(p n m:Int)(h0:0≤p)(hn:1≤n)(hm:n≤m)(h7:m≤7)(hp:p+n≤s.length)(hl:s.length≤1000000):Con Tryz.prog 123 [rdP s p,.int .i64 n,.int .i64 1,.int .i64 m,.fn (.func 124) [] []] F L nx nx (.tup [.int .i64 (zBW ((s.drop p.toNat).take n.toNat)),rdP s (p+n),.int .i64 0]) [] []:=by
 refine bdy Tryz.f123 ?_;intro F3 hF1 hF2;have f1:decide (n<1)=false:=dF (by omega);have f2:decide (n>m)=false:=dF (by omega);have f3:decide ((s.length:Int)-p<n)=false:=dF (by omega);have e1:(p+n).toNat-p.toNat=n.toNat:=by omega
 simp only[Tryz.f123,rdP,go_sem,meths];refine CallVC.pure (args2:=[rdP s p]) (by simp[Wk,WkL,rdP]) (zIX s p h0 (by omega)) (by simp[zBC,zBv,rdP]) ?_;simp only[f1,f2,f3,rdP,go_sem];repeat refine sd1 ?_
 refine zUQ (zMs _ (by simp;omega)) rfl ?_;simp only[e1,go_sem];repeat refine sd1 ?_
 exact PostF.rs (v0:=.tup [.int .i64 (zBW ((s.drop p.toNat).take n.toNat)),.agg [.str s,.int .i64 (p+n)],.int .i64 0]) (.inr rfl)
theorem zHX{F:SF}{L nx:Nat}(s:List UInt8)(p n m:Int)(h0:0≤p)(hps:p≤s.length)(hn:1≤n)(hm:n≤m)(hp:s.length<p+n)(hl:s.length≤1000000):Con Tryz.prog 123 [rdP s p,.int .i64 n,.int .i64 1,.int .i64 m,.fn (.func 124) [] []] F L nx nx (.tup [.int .i64 0,rdP [] 0,.int .i64 7]) [] []:=by
 refine bdy Tryz.f123 ?_;intro F3 hF1 hF2;have f1:decide (n<1)=false:=dF (by omega);have f2:decide (n>m)=false:=dF (by omega);have f3:decide ((s.length:Int)-p<n)=true:=dT (by omega);simp only[Tryz.f123,rdP,go_sem,meths];refine CallVC.pure (args2:=[rdP s p]) (by simp[Wk,WkL,rdP]) (zIX s p h0 (by omega)) (by simp[zBC,zBv,rdP]) ?_;simp only[f1,f2,f3,rdP,go_sem];repeat refine sd1 ?_
 exact PostF.rs (v0:=.tup [.int .i64 0,.agg [.str [],.int .i64 0],.int .i64 7]) (.inr rfl)
theorem zKr{F:SF}{L nx:Nat}(s:List UInt8)(p n:Int)(h0:0≤p)(hn:1≤n)(h7:n≤7)(hp:p+n≤s.length)(hl:s.length≤1000000):Con Tryz.prog 92 [rdP s p,.int .i64 n] F L nx nx (.tup [.int .i64 (zBW ((s.drop p.toNat).take n.toNat)),rdP s (p+n),.int .i64 0]) [] []:=by
 refine bdy Tryz.f92 ?_;intro F3 hF1 hF2;simp only[Tryz.f92,rdP,go_sem,meths];repeat refine sd1 ?_
 refine zUQ (zKE s p n 7 h0 hn (by omega) (by omega) hp hl) (by simp[zBC,zBv,rdP]) ?_;simp only[rdP,go_sem];repeat refine sd1 ?_
 exact PostF.rs (v0:=.tup [.int .i64 (zBW ((s.drop p.toNat).take n.toNat)),.agg [.str s,.int .i64 (p+n)],.int .i64 0]) (.inr rfl)
theorem zKF{F:SF}{L nx:Nat}(s:List UInt8)(p n:Int)(h0:0≤p)(hps:p≤s.length)(hn:1≤n)(h7:n≤7)(hp:s.length<p+n)(hl:s.length≤1000000):Con Tryz.prog 92 [rdP s p,.int .i64 n] F L nx nx (.tup [.int .i64 0,rdP [] 0,.int .i64 7]) [] []:=by
 refine bdy Tryz.f92 ?_;intro F3 hF1 hF2;simp only[Tryz.f92,rdP,go_sem,meths];repeat refine sd1 ?_
 refine zUQ (zHX s p n 7 h0 hps hn (by omega) hp hl) (by simp[zBC,zBv,rdP]) ?_;simp only[rdP,go_sem];repeat refine sd1 ?_
 exact PostF.rs (v0:=.tup [.int .i64 0,.agg [.str [],.int .i64 0],.int .i64 7]) (.inr rfl)
theorem zOm{F:SF}{L nx:Nat}(s:List UInt8)(p n:Int)(h0:0≤p)(hn:0≤n)(hp:p+n≤s.length)(hl:s.length≤1000000):Con Tryz.prog 125 [rdP s p,.int .i64 n] F L nx nx (.tup [.str ((s.drop p.toNat).take n.toNat),rdP s (p+n),.int .i64 0]) [] []:=by
 refine bdy Tryz.f125 ?_;intro F3 hF1 hF2;have fm:max n 0=n:=by omega
 simp only[Tryz.f125,rdP,fm,go_sem,meths];repeat refine sd1 ?_
 refine zUQ (zKD s p n n h0 hn (by omega) hp hl) (by simp[zBC,zBv,rdP]) ?_;simp only[rdP,go_sem];repeat refine sd1 ?_
 exact PostF.rs (v0:=.tup [.str ((s.drop p.toNat).take n.toNat),.agg [.str s,.int .i64 (p+n)],.int .i64 0]) (.inr rfl)
theorem zBx{F:SF}{L nx:Nat}(r:Nm)(hr:r.l≤L)(s:List UInt8)(p n:Nat)(k:Int)(hk:k=n)(h1:1≤n)(h7:n≤7)(hp:p+n≤s.length)(hl:s.length≤1000000)(hF:F r=some (rdB s p)):Con Tryz.prog 47 [.ptr r 0 0,.int .i64 k] F L nx nx (.int .i64 (zBW ((s.drop p).take n))) [(r,rdB s (p+n))] [r]:=by
 subst hk;refine bdy Tryz.f47 (hrd:=(by simp;omega)) ?_;intro F3 hF1 hF2;have hF3:F3 r=some (.rows 178 2 true true [[.str s,.int .i64 p]]):=(hF1 r (by simp)).trans hF;have n1:∀k,(r=(⟨L+1,k⟩:Nm))=False:=zAI hr;have n2:∀k,((⟨L+1,k⟩:Nm)=r)=False:=zAF hr;simp only[Tryz.f47,hF3,go_sem,meths];repeat refine sd1 ?_
 refine zUQ (zKr s p n (by omega) (by omega) (by omega) (by omega) hl) (by simp[zBC,zBv,rdP]) ?_;simp only[rdP,go_sem];repeat refine sd1 ?_
 refine zUQ zG9 rfl ?_;simp only[n1,hF3,go_sem];repeat refine sd1 ?_
 exact po0 (.int .i64 (zBW ((s.drop p).take n))) ⟨hr,by simp[BW,Tx.look,rdB,n1],trivial⟩
theorem zC7{F:SF}{L:Nat}(r:Nm)(hr:r.l≤L)(s:List UInt8)(p n:Nat)(k:Int)(hk:k=n)(h1:1≤n)(h7:n≤7)(hps:p≤s.length)(hp:s.length<p+n)(hl:s.length≤1000000)(hF:F r=some (rdB s p)):DCon Tryz.prog chM 47 [.ptr r 0 0,.int .i64 k] F L [(r,.dead)] [r]:=by
 subst hk;refine DCon.body (zAg (L+1)) rfl rfl (fn:=Tryz.f47) (c:=Tryz.f47.body.getD .skip) (by kernel_rfl) (by rfl) (by kernel_rfl) rfl (by simp;omega) ?_;intro F3 hF1 hF2;have hF3:F3 r=some (.rows 178 2 true true [[.str s,.int .i64 p]]):=(hF1 r (by simp)).trans hF;have n1:∀k,(r=(⟨L+1,k⟩:Nm))=False:=zAI hr;have n2:∀k,((⟨L+1,k⟩:Nm)=r)=False:=zAF hr;simp only[Tryz.f47,hF3,go_sem,meths];repeat refine sd1 ?_
 refine CallVD.live (zUQ (zKF s p n (by omega) (by omega) (by omega) (by omega) (by omega) hl) (by simp[zBC,zBv,rdP]) ?_);simp only[rdP,go_sem];repeat refine sd1 ?_
 refine CallVD.same rfl zGP ?_;exact .dead (ns:=[r]) (by simpa using hr) (by simp[UpdAll,zAl])
theorem zOn{F:SF}{L nx:Nat}(r:Nm)(hr:r.l≤L)(s:List UInt8)(p n:Nat)(k:Int)(hk:k=n)(hp:p+n≤s.length)(hl:s.length≤1000000)(hF:F r=some (rdB s p)):Con Tryz.prog 93 [.ptr r 0 0,.int .i64 k] F L nx nx (.str ((s.drop p).take n)) [(r,rdB s (p+n))] [r]:=by
 subst hk;refine bdy Tryz.f93 (hrd:=(by simp;omega)) ?_;intro F3 hF1 hF2;have hF3:F3 r=some (.rows 178 2 true true [[.str s,.int .i64 p]]):=(hF1 r (by simp)).trans hF;have n1:∀k,(r=(⟨L+1,k⟩:Nm))=False:=zAI hr;have n2:∀k,((⟨L+1,k⟩:Nm)=r)=False:=zAF hr;simp only[Tryz.f93,hF3,go_sem,meths];repeat refine sd1 ?_
 refine zUQ (zOm s p n (by omega) (by omega) (by omega) hl) (by simp[zBC,zBv,rdP]) ?_;simp only[rdP,go_sem];repeat refine sd1 ?_
 refine zUQ zG9 rfl ?_;simp only[n1,hF3,go_sem];repeat refine sd1 ?_
 exact po0 (.str ((s.drop p).take n)) ⟨hr,by simp[BW,Tx.look,rdB,n1],trivial⟩
end Go.Proofs.YtifhjhbfhdcahaaGreat
end
