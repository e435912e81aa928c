/- Lemmas for the walk: GK85, GK91, GK92, GK93. -/
import Derived.Test.YtifhjhbfhdcahaaGreatP15
import Derived.Test.YtifhjhbfhdcahaaGreatP14
import Derived.Test.YtifhjhbfhdcahaaGreatP13
import Derived.Test.YtifhjhbfhdcahaaGreatP12
set_option linter.all false
section
namespace Go.Proofs.YtifhjhbfhdcahaaGreat
open Go.Tx
set_option maxRecDepth 100000
set_option maxHeartbeats 16000000
def zFl(key:List UInt8)(c:UInt8)(i:Nat):List UInt8:=(List.range 64).map fun j=>if j<i then key.getD j 0 ^^^ c else key.getD j 0
theorem zGU(key:List UInt8)(c:UInt8)(i:Nat):(zFl key c i).length=64:=by simp[zFl]
theorem zKy(key:List UInt8)(c:UInt8){i:Nat}(hi:i<64):(zFl key c i).getD i 0=key.getD i 0:=by
 unfold zFl;rw[zE,wE,qF hi];simp
theorem zKz(key:List UInt8)(c:UInt8){i:Nat}(hi:i<64):(zFl key c i).set i (key.getD i 0 ^^^ c)=zFl key c (i+1):=by
 apply uQ (by simp[zFl]);intro k h1 h2;have hk:k<64:=by simpa[zFl] using h2
 rw[List.getElem_set];simp only[zFl,qE,List.getElem_range];by_cases e:i=k;·subst e;simp
 ·rw[if_neg e];have:(k<i)=(k<i+1):=by apply propext;omega
  simp only[this]
theorem zK0(key:List UInt8)(c:UInt8):zFl key c 64=zEV key c:=by
 apply uQ (by simp[zFl,zEV]);intro k h1 h2;have hk:k<64:=by simpa[zFl] using h1
 simp[zFl,zEV,hk]
theorem zJL{key:List UInt8}(c:UInt8)(h:key.length≤64):key++(List.replicate 64 (0:UInt8)).drop key.length=zFl key c 0:=by
 apply uQ (by simp[zFl];omega);intro k h1 h2;have hk:k<64:=by simpa[zFl] using h2
 simp only[zFl,qE,List.getElem_range,Nat.not_lt_zero,if_false];rw[List.getElem_append];by_cases hkl:k<key.length;·rw[dif_pos hkl];simp[zE,hkl]
 ·rw[dif_neg hkl,List.getElem_drop,List.getElem_replicate];simp[zE,hkl]
theorem zFI(l:List UInt8)(i:Nat)(v:UInt8):(l.map zBY).set i [.int .u8 ((v.toNat:Nat):Int)]=(l.set i v).map zBY:=by rw[List.map_set];rfl
theorem zJM(l:List UInt8){i:Nat}(h:i<l.length):(l.map zBY).getD i []=[.int .u8 (((l.getD i 0).toNat:Nat):Int)]:=by
 simp[zE,h,zBY]
theorem zR6(a b:UInt8):Sx.zFU .xor .u8 ((a.toNat:Nat):Int) ((b.toNat:Nat):Int)=(((a ^^^ b).toNat:Nat):Int):=by
 rw[zUA a.toNat_lt b.toNat_lt,UInt8.toNat_xor]
theorem zJN{F:SF}{L nx:Nat}(q:Nm)(hq:q.l≤L)(o pu:Bool)(key:List UInt8)(hk:key.length≤64)(c:UInt8)(hF:F q=some (.rows 9 1 o pu [[.str key]])):Con Tryz.prog 145 [.int .u8 ((c.toNat:Nat):Int),.ptr q 0 0] F L nx nx (.str (zEV key c)) [] [q]:=by
 have z0:([[.int .u8 0],[.int .u8 0],[.int .u8 0],[.int .u8 0],[.int .u8 0],[.int .u8 0],[.int .u8 0],[.int .u8 0],[.int .u8 0],[.int .u8 0],[.int .u8 0],[.int .u8 0],[.int .u8 0],[.int .u8 0],[.int .u8 0],[.int .u8 0],[.int .u8 0],[.int .u8 0],[.int .u8 0],[.int .u8 0],[.int .u8 0],[.int .u8 0],[.int .u8 0],[.int .u8 0],[.int .u8 0],[.int .u8 0],[.int .u8 0],[.int .u8 0],[.int .u8 0],[.int .u8 0],[.int .u8 0],[.int .u8 0],[.int .u8 0],[.int .u8 0],[.int .u8 0],[.int .u8 0],[.int .u8 0],[.int .u8 0],[.int .u8 0],[.int .u8 0],[.int .u8 0],[.int .u8 0],[.int .u8 0],[.int .u8 0],[.int .u8 0],[.int .u8 0],[.int .u8 0],[.int .u8 0],[.int .u8 0],[.int .u8 0],[.int .u8 0],[.int .u8 0],[.int .u8 0],[.int .u8 0],[.int .u8 0],[.int .u8 0],[.int .u8 0],[.int .u8 0],[.int .u8 0],[.int .u8 0],[.int .u8 0],[.int .u8 0],[.int .u8 0],[.int .u8 0]]:List (List PV))=(List.replicate 64 (0:UInt8)).map zBY:=by rw[List.map_replicate];rfl
 have e0:(key.map fun b:UInt8=>[PV.int .u8 ((b.toNat:Nat):Int)])=key.map zBY:=rfl;have e1:key.map zBY++List.drop key.length ((List.replicate 64 (0:UInt8)).map zBY)=(zFl key c 0).map zBY:=by
  rw[←List.map_drop,←wQ,zJL c hk]
 have m1:∀k,(q=(⟨L+1,k⟩:Nm))=False:=zAI hq;have m2:∀k,((⟨L+1,k⟩:Nm)=q)=False:=zAF hq;refine bdy Tryz.f145 (hrd:=(by simp;omega)) ?_;intro F3 hF1 hF2;have kq:F3 q=some (.rows 9 1 o pu [[.str key]]):=(hF1 q (by simp)).trans hF;have hml:∀i,((zFl key c i).map zBY).length=64:=fun i=>by rw[zG,zGU]
 simp only[Tryz.f145,kq,m1,go_sem];repeat refine sd2 ?_
 rw[z0,e0,zG,e1];refine ⟨hk,?_⟩;refine loopK.intro _ _ (I:=fun i:Nat=>⟨[some (.int .u8 ((c.toNat:Nat):Int)),some (.ptr q 0 0),none,none,some (.sl ⟨L+1,32⟩ 0 64),none,none,none,none,none,none,some (.int .i64 64),some (.int .i64 i)]++oz 12,[(⟨L+1,32⟩,.rows 5 1 true true ((zFl key c i).map zBY))],10000*(i+1)⟩)
  (pre:=fun i=>i≤64) (μ:=fun i=>64-i) 0 (by omega) ?_ ?_
 ·refine Sub.of (hfz hF2) (by simp only[go_sem,zAf,and_self,zW];try trivial) ?_ (by simp[zAs,keys]) (by simp);simp[zAi,Tx.look]
 intro i hi;by_cases hlt:i<64
 ·have g1:decide ((i:Int)<64)=true:=dT (by omega);have gd:=zJM (zFl key c i) (i:=i) (by rw[zGU];omega);rw[zKy key c hlt]at gd;have hx:=zR6 (key.getD i 0) c;have hs:=zFI (zFl key c i) i (key.getD i 0 ^^^ c);rw[zKz key c hlt]at hs;simp only[g1,gd,hx,hs,hml,zA,go_sem];repeat refine sd2 ?_
  refine ⟨i+1,by omega,by omega,?_⟩;refine Sub.of (hfz hF2) (by simp only[go_sem,zAf,and_self,zY];try trivial) ?_ (by simp[zAs,keys]) (by simp only[];omega);simp only[zAi,Tx.look,if_true,and_true]
 ·have g1:decide ((i:Int)<64)=false:=dF (by omega);obtain rfl:i=64:=by omega
  have hb:=zBK (zEV key c);have ht:List.take 64 ((zEV key c).map zBY)=(zEV key c).map zBY:=zQ (by simp[zEV]);rw[zK0];have hl:((zEV key c).map zBY).length=64:=by simp[zEV]
  simp only[g1,ht,hb,hl,go_sem];refine ⟨zEN _,?_⟩;exact ps0
theorem zRE:W8 hT:=by
 rw[zRp];exact W8.cons (by decide) (by decide) (by decide) (by decide) (by decide) (by decide) (by decide) (by decide)
theorem zJO:kT.length=64:=by rw[kT,zG,zOt]
theorem zR7(i:Nat):kT.getD i 0<M32:=by
 by_cases h:i<kT.length
 ·rw[zE,zS h,vT];simp only[kT,qE];exact vE _ (by decide)
 ·rw[zE,uA (by omega)];decide
theorem zQi{F:SF}{L nx:Nat}(m:Nm)(hm:m.l≤L)(o p:Bool)(ls:List (List UInt8))(hl:ls.length≤100)(hs:∀s∈ls,s.length≤10000)(hF:F m=some (.rows 9 1 o p (ls.map fun s=>[.str s]))):
  Con Tryz.prog 144 [.agg (hT.map eW++kT.map eW),.sl m 0 ls.length] F L nx nx (.str (zJE kT hT ls.flatten)) [] [m]:=by
 have h:=zR5 (F:=F) (L:=L) (nx:=nx) hT kT zRE zJO zR7 m hm o p ls hl hs hF;rw[zQh]at h;exact h
theorem zIe:∀l:List Nat,(zGR l).length=4*l.length:=by
 intro l;induction l with
 |nil=>rfl
 |cons a l ih=>simp only[zGR,uW,zU,vC,zAL]at ih ⊢;omega
theorem zK1(s:List UInt8):(zJE kT hT s).length=32:=by
 unfold zJE;rw[zIe,(zD2 zRE _ _ _).1]
theorem zK2(key:List UInt8)(c:UInt8):(zEV key c).length=64:=by simp[zEV]
theorem zIf(key s:List UInt8):(zN5 kT hT key s).length=32:=zK1 _
theorem zO0{F:SF}{L nx:Nat}(m:Nm)(hm:m.l≤L)(o:Bool)(key:List UInt8)(hk:key.length≤64)(ls:List (List UInt8))(hl:ls.length≤90)(hs:∀s∈ls,s.length≤10000)(hF:F m=some (.rows 9 1 o true (ls.map fun s=>[.str s]))):
  Con Tryz.prog 129 [.agg (hT.map eW++kT.map eW),.str key,.sl m 0 ls.length] F L nx nx (.str (zN5 kT hT key ls.flatten)) [] [m]:=by
 have w1:=fun(q:Nm) (hq:q.l≤L+1) (F:SF) (nx:Nat) (hF:F q=_)=>zJN (F:=F) (L:=L+1) (nx:=nx) q hq true true key hk 92 hF
 have w2:=fun(q:Nm) (hq:q.l≤L+1) (F:SF) (nx:Nat) (hF:F q=_)=>zJN (F:=F) (L:=L+1) (nx:=nx) q hq true true key hk 54 hF
 have l1:(hT.map eW++kT.map eW).length=72:=by rw[zU,zG,zG,zJO,zRE.1]
 have n1:nfl (hT.map eW++kT.map eW)=true:=by rw[zHH,zFk,zFk];rfl
 have su:=fun(q:Nm) (hq:q.l≤L+1) (F:SF) (nx:Nat) (ls:List (List UInt8)) (hl:ls.length≤100) (hs:∀s∈ls,s.length≤10000) (hF:F q=_)=>zQi (F:=F) (L:=L+1) (nx:=nx) q hq true true ls hl hs hF
 have hk5:=zK2 key 54;have hk9:=zK2 key 92;obtain ⟨k5,e5⟩:∃k,k=zEV key 54:=⟨_,rfl⟩;obtain ⟨k9,e9⟩:∃k,k=zEV key 92:=⟨_,rfl⟩;have hin:=zK1 (k5++ls.flatten);have hmac:zN5 kT hT key ls.flatten=zJE kT hT (k9++zJE kT hT (k5++ls.flatten)):=by rw[e5,e9];rfl
 rw[←e5]at hk5 w2;rw[←e9]at hk9 w1;obtain ⟨mk,hmk⟩:∃mk,mk=hT.map eW++kT.map eW:=⟨_,rfl⟩;rw[←hmk]at l1 n1 su ⊢;rw[hmac];refine bdy Tryz.f129 (hrd:=(by simp;omega)) ?_;intro F3 hF1 hF2;have kq:F3 m=some (.rows 9 1 o true (ls.map fun s=>[.str s])):=(hF1 m (by simp)).trans hF;have m1:∀k,(m=(⟨L+1,k⟩:Nm))=False:=zAI hm;have m2:∀k,((⟨L+1,k⟩:Nm)=m)=False:=zAF hm;have b1:∀k,((⟨L+1,k⟩:Nm)==m)=false:=fun k=>by rw[beq_eq_false_iff_ne];intro h;rw[m2 k]at h;exact h
 have tl:List.take ls.length (ls.map fun s=>[PV.str s])=ls.map fun s=>[PV.str s]:=zQ (by simp)
 have hll:(ls.map fun s=>[PV.str s]).length=ls.length:=zG ..;have f1:decide ((key.length:Int)>64)=false:=dF (by omega);have f1':decide ((64:Int)<(key.length:Int))=false:=dF (by omega);simp only[Tryz.f129,l1,n1,f1,go_sem];repeat refine sd2 ?_
 refine CallVC.same (w1 ⟨L+1,32⟩ (by simp) _ _ (by simp[Tx.look])) ?_;simp only[go_sem];repeat refine sd2 ?_
 refine CallVC.same (w2 ⟨L+1,32⟩ (by simp) _ _ (by simp[Tx.look])) ?_;simp only[kq,m1,b1,tl,hll,go_sem];repeat refine sd2 ?_
 have s1:=su ⟨L+1,448⟩ (by simp);have q1:=fun(F:SF) (nx:Nat) (hF:F _=_)=>s1 F nx (k5::ls) (by simp;omega) (by intro s hm;rcases List.mem_cons.1 hm with rfl|hm;omega;exact hs s hm) hF
 rw[vC,Nat.add_comm ls.length 1]at q1;refine CallVC.same (q1 _ _ (by simp[Tx.look])) ?_;simp only[List.flatten_cons,go_sem];repeat refine sd2 ?_
 have s2:=su ⟨L+1,480⟩ (by simp);have q2:=fun(F:SF) (nx:Nat) (hF:F _=_)=>s2 F nx [k9,zJE kT hT (k5++ls.flatten)] (by simp) (by intro s hm;simp only[wP,uC,or_false]at hm;rcases hm with rfl|rfl<;>omega) hF
 refine CallVC.same (q2 _ _ (by simp[Tx.look])) ?_;simp only[List.flatten_cons,List.flatten_nil,go_sem];repeat refine sd2 ?_
 refine ⟨zEG m2,?_⟩;exact ps0
theorem zQj{F:SF}{L nx:Nat}(key s:List UInt8)(hk:key.length≤64)(hs:s.length≤4096):Con Tryz.prog 96 [.str key,.str s] F L nx nx (.tup [.str (zN5 kT hT key s),.int .i64 0]) [] []:=by
 have lo:=fun(q:Nm) (hq:q.l≤L+1) (F:SF) (nx:Nat) (hF:F q=_)=>zQc (F:=F) (L:=L+1) (nx:=nx) q hq true true [key,s] (by simp) (by intro x hx;simp only[wP,uC,or_false]at hx;rcases hx with rfl|rfl<;>omega) hF
 have mm:=fun(q:Nm) (hq:q.l≤L+1) (F:SF) (nx:Nat) (hF:F q=_)=>zO0 (F:=F) (L:=L+1) (nx:=nx) q hq true key hk [s] (by simp) (by intro x hx;simp only[wP,uC,or_false]at hx;subst hx;omega) hF
 have md:=fun(F:SF) (nx:Nat)=>zQb (F:=F) (L:=L+1) (nx:=nx)
 have l1:(hT.map eW++kT.map eW).length=72:=by rw[zU,zG,zG,zJO,zRE.1]
 have n1:nfl (hT.map eW++kT.map eW)=true:=by rw[zHH,zFk,zFk];rfl
 obtain ⟨mk,hmk⟩:∃mk,mk=hT.map eW++kT.map eW:=⟨_,rfl⟩;rw[←hmk]at l1 n1;simp only[←hmk]at mm md;refine bdy Tryz.f96 ?_;intro F3 hF1 hF2;simp only[Tryz.f96,go_sem];repeat refine sd2 ?_
 refine CallVC.same (lo ⟨L+1,128⟩ (by simp) _ _ (by simp[Tx.look])) ?_;simp only[go_sem];repeat refine sd2 ?_
 refine CallVC.same (md _ _) ?_;simp only[go_sem];repeat refine sd2 ?_
 refine CallVC.same (mm ⟨L+1,224⟩ (by simp) _ _ (by simp[Tx.look])) ?_;simp only[List.flatten_cons,List.flatten_nil,zK,go_sem];repeat refine sd2 ?_
 exact ps0 (hf:=by simp[Tx.nf,nfl,uP])
def zFJ(ps:List (Nat×Nat)):List UInt8:=ps.flatMap fun p=>zAa p.1 p.2
def zIg(ps:List (Nat×Nat)):List (List PV):=ps.flatMap fun p=>[[.int .i64 (p.1:Int)],[.int .i64 (p.2:Int)]]
theorem zNM(ps:List (Nat×Nat)):(zIg ps).length=2*ps.length:=by
 induction ps with
 |nil=>rfl
 |cons p ps ih=>simp only[zIg,uW,zU,vC,wW]at ih ⊢;omega
theorem zNN(ps:List (Nat×Nat)):∀{i:Nat} (h:i<ps.length),(zIg ps).getD (2*i) []=[.int .i64 ((ps.getD i (0,0)).1:Int)]∧(zIg ps).getD (2*i+1) []=[.int .i64 ((ps.getD i (0,0)).2:Int)]:=by
 induction ps with
 |nil=>intro i h;simp at h
 | cons p ps ih=>
  intro i h;cases i with
  |zero=>exact ⟨rfl,rfl⟩
  |succ i=>
   have:=ih (i:=i) (by simpa using h);simp only[zIg,uW,zJ,zF]at this ⊢;rw[show 2*(i+1)=2*i+1+1 by omega];simp only[uF];exact this
theorem zJP:∀ps:List (Nat×Nat),(∀q∈ps,1≤q.1∧q.1≤7∧q.2<256^q.1)→(zFJ ps).length≤7*ps.length
 | [],_=>by simp[zFJ]
 |p::ps,h=>by
  have h1:=zJP ps fun q hq=>h q (by simp[hq])
  have h2:=(h p (by simp)).2.1;simp only[zFJ,uW,zU,zAL,vC]at h1 ⊢;omega
theorem zHx{F:SF}{L nx:Nat}(m:Nm)(hm:m.l≤L)(o p:Bool)(ps:List (Nat×Nat))(hl:ps.length≤10)(hs:∀q∈ps,1≤q.1∧q.1≤7∧q.2<256^q.1)(hF:F m=some (.rows 3 1 o p (zIg ps))):
  Con Tryz.prog 95 [.sl m 0 (2*ps.length)] F L nx nx (.str (zFJ ps)) [] [m]:=by
 have hrl:=zNM ps;have m1:∀k,(m=(⟨L+1,k⟩:Nm))=False:=zAI hm;have m2:∀k,((⟨L+1,k⟩:Nm)=m)=False:=zAF hm;refine bdy Tryz.f95 (hrd:=(by simp;omega)) ?_;intro F3 hF1 hF2;have kq:F3 m=some (.rows 3 1 o p (zIg ps)):=(hF1 m (by simp)).trans hF;simp only[Tryz.f95,go_sem];repeat refine sd2 ?_
 refine loopK.intro _ _ (I:=fun i:Nat=>⟨[some (.sl m 0 (2*ps.length)),none,none,some (.str (zFJ (ps.take i))),some (.int .i64 (2*i))]++oz 26,[],10000*(i+1)⟩)
  (pre:=fun i=>i≤ps.length) (μ:=fun i=>ps.length-i) 0 (by omega) ?_ ?_
 ·refine Sub.of (hfz hF2) (by simp only[go_sem,zAf,and_self,zW,zFJ,uG,List.flatMap_nil,Int.mul_zero];try trivial) ?_ (by simp[zAs]) (by simp);simp[zAi]
 intro i hi;by_cases hlt:i<ps.length
 ·have g1:decide ((2*(i:Int)+1)<((2*ps.length:Nat):Int))=true:=dT (by omega);have t1:(2*(i:Int)).toNat=2*i:=by omega
  have t2:(2*(i:Int)+1).toNat=2*i+1:=by omega
  obtain ⟨r1,r2⟩:=zNN ps hlt;have hq:=hs _ (uH hlt);have hg:ps.getD i (0,0)=ps[i]:=by simp[zE,hlt]
  rw[hg]at r1 r2;have hj:zFJ (ps.take (i+1))=zFJ (ps.take i)++zAa ps[i].1 ps[i].2:=by
   rw[uX hlt,zFJ,zFJ,List.flatMap_append,uW,List.flatMap_nil,zK]
  obtain ⟨⟨a,b⟩,hab⟩:∃q,q=ps[i]:=⟨_,rfl⟩;rw[←hab]at r1 r2 hq hj;simp only at r1 r2 hq hj;have hp:=fun F L nx=>zMq (F:=F) (L:=L) (nx:=nx) a b hq.1 hq.2.1 hq.2.2
  simp only[g1,kq,t1,t2,r1,r2,hrl,zA,go_sem];repeat refine sd2 ?_
  refine CallVC.same (hp _ _ _) ?_;simp only[zA,go_sem];repeat refine sd2 ?_
  have hj2:=zJP (ps.take i) fun q hq=>hs q (vR hq)
  have hj3:(ps.take i).length≤10:=by rw[wI];omega
  refine ⟨zAA (fun _=>0) (by simp only[zA0,List.map];kernel_rfl),by rw[zAL];omega,⟨by omega,by omega⟩,i+1,by omega,by omega,?_⟩;rw[hj];refine Sub.of (hfz hF2) (by simp only[go_sem,zAf,and_self,zY,show 2*((i:Int)+1)=2*(i:Int)+2 by omega];try trivial) ?_ (by simp[zAs]) (by simp only[];omega);simp[zAi]
 ·obtain rfl:i=ps.length:=by omega
  have g1:decide ((2*(ps.length:Int)+1)<((2*ps.length:Nat):Int))=false:=dF (by omega);rw[qI];simp only[g1,zA,go_sem];repeat refine sd2 ?_
  exact ps0
def Gx.mrow(g:Gx)(now:Int)(o:PV):List PV:=g.row++[.int .i64 now,o]
theorem zFm{F:SF}{L nx:Nat}(m:Nm)(hm:m.l≤L)(ow:Bool)(g:Gx)(now:Int)(u:PV)(body:List UInt8)(t:Nat)(ht:t<256^6)(hb:body.length≤1000)(h1:0≤g.own.tag∧g.own.tag<4294967296)(h2:0≤g.fr∧g.fr<65536)(h3:0≤g.tt∧g.tt<65536)(hs:g.sec.length≤64)(hF:F m=some (.rows 123 22 ow true [g.mrow now u])):
  Con Tryz.prog 52 [.ptr m 0 0,.str body,.int .i64 t] F L nx nx (.str (ckS g body t)) [] [m]:=by
 obtain ⟨tg,htg⟩:∃x:Nat,g.own.tag=x:=⟨g.own.tag.toNat,by omega⟩;obtain ⟨fr,hfr⟩:∃x:Nat,g.fr=x:=⟨g.fr.toNat,by omega⟩;obtain ⟨tt,htt⟩:∃x:Nat,g.tt=x:=⟨g.tt.toNat,by omega⟩;have j1:=fun(q:Nm) (hq:q.l≤L+1) (F:SF) (nx:Nat) (hF:F q=_)=>zHx (F:=F) (L:=L+1) (nx:=nx) q hq true true [(6,t)] (by simp) (by intro q hq;simp only[wP,uC,or_false]at hq;subst hq;exact ⟨by simp,by simp,ht⟩) hF
 have j2:=fun(q:Nm) (hq:q.l≤L+1) (F:SF) (nx:Nat) (hF:F q=_)=>zHx (F:=F) (L:=L+1) (nx:=nx) q hq true true [(4,tg),(2,fr),(2,tt)] (by simp) (by
  intro q hq;simp only[wP,uC,or_false]at hq;rcases hq with rfl|rfl|rfl;·exact ⟨by simp,by simp,by simp only[];omega⟩
  ·exact ⟨by simp,by simp,by simp only[];omega⟩
  ·exact ⟨by simp,by simp,by simp only[];omega⟩) hF
 have e1:zFJ [(6,t)]=zAa 6 t:=by simp[zFJ]
 have e2:zFJ [(4,tg),(2,fr),(2,tt)]=zAa 4 tg++(zAa 2 fr++zAa 2 tt):=by simp[zFJ]
 rw[e1]at j1;rw[e2]at j2;obtain ⟨s,hs9⟩:∃s,s=zAa 6 t++body++(zAa 4 tg++(zAa 2 fr++zAa 2 tt)):=⟨_,rfl⟩;have hsl:s.length=body.length+14:=by rw[hs9];simp only[zU,zAL];omega
 have hmac:=fun F L nx=>zQj (F:=F) (L:=L) (nx:=nx) g.sec s hs (by omega)
 have hml:=zIf g.sec s;have hck:ckS g body t=s++zN5 kT hT g.sec s:=by
  unfold ckS;rw[htg,hfr,htt];simp only[qL,hs9,vO]
 rw[hck];obtain ⟨mc,hmc⟩:∃x,x=zN5 kT hT g.sec s:=⟨_,rfl⟩;rw[←hmc]at hml ⊢;simp only[←hmc]at hmac;have m1:∀k,(m=(⟨L+1,k⟩:Nm))=False:=zAI hm;have m2:∀k,((⟨L+1,k⟩:Nm)=m)=False:=zAF hm;simp only[Gx.mrow,Gx.row,htg,hfr,htt]at hF;refine bdy Tryz.f52 (hrd:=(by simp;omega)) ?_;intro F3 hF1 hF2;have kq:=(hF1 m (by simp)).trans hF;simp only[Tryz.f52,go_sem];repeat refine sd2 ?_
 refine CallVC.same (j1 ⟨L+1,64⟩ (by simp) _ _ (by simp[zIg])) ?_;simp only[kq,m1,go_sem];repeat refine sd2 ?_
 refine ⟨by rw[zAL];omega,CallVC.same (j2 ⟨L+1,672⟩ (by simp) _ _ (by simp[zIg])) ?_⟩;simp only[kq,m1,go_sem];repeat refine sd2 ?_
 have hs8:zAa 6 t++body++(zAa 4 tg++(zAa 2 fr++zAa 2 tt))=s:=hs9.symm;refine ⟨by simp only[zU,zAL];omega,zEG m2,?_⟩;simp only[hs8,go_sem];repeat refine sd2 ?_
 refine CallVC.same (hmac _ _ _) ?_;simp only[go_sem];repeat refine sd2 ?_
 exact ps0
theorem zIh(g:Gx)(body:List UInt8)(t:Int):(ckS g body t).length=body.length+46:=by
 unfold ckS;simp only[zU,zAL,zIf];omega
theorem zUy{g:Gx}(h:g.ok=true):g.hd=true:=by
 unfold Gx.ok at h;simp only[zC]at h;exact h.1.1
theorem zNO{n:Int}(h:zA2 32 n=true):0≤n∧n<4294967296:=by
 unfold zA2 at h;simp at h;omega
theorem zBz{d:Ini}(h:zAZ d=true):d.ok=true∧d.ck=[]:=by
 unfold zAZ at h;simp only[zC,beq_iff_eq]at h;exact h
theorem zUh{d:Ini}(h:d.ok=true):0<d.tag∧d.tag<4294967296:=by
 unfold Ini.ok at h;simp only[zC,decide_eq_true_eq]at h;have:=zNO h.1.1;omega
theorem zBk(t:Int):zEg t=true↔0≤t∧t≤1099511627776:=by unfold zEg;simp
def zFn(g:Gx)(d:Ini)(now:Int):List UInt8×Int:=if g.ok=false then ([],330) else if zAZ d=false∨zEg now=false then ([],2) else (ckS g d.oct now,0)
theorem zHy{F:SF}{L nx:Nat}(g:Gx)(d:Ini)(now:Int):Con Tryz.prog 23 [.agg g.row,.agg d.row,.int .i64 now] F L nx nx (.tup [.str (zFn g d now).1,.int .i64 (zFn g d now).2]) [] []:=by
 have hC:=fun F L nx=>zCO (F:=F) (L:=L) (nx:=nx) g
 have hP:=fun F L nx=>zHG (F:=F) (L:=L) (nx:=nx) d
 have hT:=fun F L nx=>zGS (F:=F) (L:=L) (nx:=nx) now
 have hI:=fun F L nx=>zC8 (F:=F) (L:=L) (nx:=nx) d
 unfold zFn;cases h1:g.ok
 ·rw[if_pos rfl];rw[h1,if_neg (by simp)]at hC;simp only[Gx.row,Ini.row]at hC ⊢;refine bdy Tryz.f23 ?_;intro F3 hF1 hF2;have e1:((330:Int) !=0)=true:=rfl;simp only[Tryz.f23,go_sem];repeat refine sd2 ?_
  refine CallVC.same (hC _ _ _) ?_;simp only[e1,go_sem];repeat refine sd2 ?_
  exact ps0 (hf:=by simp[Tx.nf,nfl,uP])
 rw[if_neg (by simp)];have hh:=zUy h1;rw[zUR]at hh;have e0:((0:Int) !=0)=false:=rfl;cases h2:zAZ d
 ·rw[if_pos (.inl rfl)];rw[h1,if_pos rfl]at hC;rw[h2]at hP;simp only[Gx.row,Ini.row]at hC hP ⊢;refine bdy Tryz.f23 ?_;intro F3 hF1 hF2;simp only[Tryz.f23,go_sem];repeat refine sd2 ?_
  refine CallVC.same (hC _ _ _) ?_;simp only[e0,go_sem];repeat refine sd2 ?_
  refine CallVC.same (hP _ _ _) ?_;simp only[go_sem];repeat refine sd2 ?_
  exact ps0 (hf:=by simp[Tx.nf,nfl,uP])
 cases h3:zEg now
 ·rw[if_pos (.inr rfl)];rw[h1,if_pos rfl]at hC;rw[h2]at hP;rw[h3]at hT;simp only[Gx.row,Ini.row]at hC hP ⊢;refine bdy Tryz.f23 ?_;intro F3 hF1 hF2;simp only[Tryz.f23,go_sem];repeat refine sd2 ?_
  refine CallVC.same (hC _ _ _) ?_;simp only[e0,go_sem];repeat refine sd2 ?_
  refine CallVC.same (hP _ _ _) ?_;simp only[go_sem];repeat refine sd2 ?_
  refine CallVC.same (hT _ _ _) ?_;simp only[go_sem];repeat refine sd2 ?_
  exact ps0 (hf:=by simp[Tx.nf,nfl,uP])
 rw[if_neg (by simp)];obtain ⟨hd,hk⟩:=zBz h2;rw[h1,if_pos rfl]at hC;rw[h2]at hP;rw[h3]at hT;rw[hd,if_pos rfl]at hI;rw[zBk]at h3;have hoc:d.oct.length=16:=by unfold Ini.oct zJd;rw[hk];simp only[zU,zAL,wW]
 obtain ⟨t,rfl⟩:∃t:Nat,now=t:=⟨now.toNat,by omega⟩;have hg:=(zBz hh.2.2.2.2.2.1).1;have htg:=zUh hg;have hM:=fun(q:Nm) (hq:q.l≤L+1) (F:SF) (nx:Nat) (hF:F q=_)=>zFm (F:=F) (L:=L+1) (nx:=nx) q hq true g 0 .nilS d.oct t (by omega) (by omega) ⟨by omega,by omega⟩ ⟨by omega,by omega⟩ ⟨by omega,by omega⟩ (by omega) hF
 simp only[Gx.mrow,Gx.row,zJ,zF]at hM;simp only[Gx.row,Ini.row]at hC hP hI ⊢;refine bdy Tryz.f23 ?_;intro F3 hF1 hF2;simp only[Tryz.f23,go_sem];repeat refine sd2 ?_
 refine CallVC.same (hC _ _ _) ?_;simp only[e0,go_sem];repeat refine sd2 ?_
 refine CallVC.same (hP _ _ _) ?_;simp only[go_sem];repeat refine sd2 ?_
 refine CallVC.same (hT _ _ _) ?_;simp only[go_sem];repeat refine sd2 ?_
 refine CallVC.same (hI _ _ _) ?_;simp only[go_sem];repeat refine sd2 ?_
 refine CallVC.same (hM ⟨L+1,736⟩ (by simp) _ _ (by simp[Tx.look])) ?_;simp only[go_sem];repeat refine sd2 ?_
 exact ps0 (hf:=by simp[Tx.nf,nfl,uP])
theorem zGV(p:Pkx):zAV [p]= .fs 4 [(pR p)]:=rfl
theorem zEO{F:SF}{L nx:Nat}(m:Nm)(hm:m.l≤L)(g:Gx)(now tag:Int)(c:Ckx)(hF:F m=some (.rows 123 22 true true [g.mrow now .nilS])):
  Con Tryz.prog 130 [.ptr m 0 0,.int .i64 tag,.agg c.row] F L nx nx (.tup []) [(m,.rows 123 22 true true [g.mrow now (zAV (zA9 g tag c))])] [m]:=by
 have m1:∀k,(m=(⟨L+1,k⟩:Nm))=False:=zAI hm;have m2:∀k,((⟨L+1,k⟩:Nm)=m)=False:=zAF hm;simp only[Gx.mrow,Gx.row,Ckx.row,zJ,zF]at hF ⊢;show Con _ _ _ F L nx (nx+0) _ _ _;refine zUf (zAg (L+1)) rfl rfl (fn:=Tryz.f130) (c:=Tryz.f130.body.getD .skip) (by kernel_rfl) (by rfl) (by kernel_rfl) rfl (by simp;omega) ?_;intro F3 hF1 hF2;have kq:=(hF1 m (by simp)).trans hF;refine vcu ⟨[some (.ptr m 0 0),some (.int .i64 tag),none,none,none,some (.ptr ⟨L+1,0⟩ 0 0)]++oz 23,[(⟨L+1,0⟩,.rows 73 3 true true [c.row])],10000⟩ ?_ ?_
 ·simp only[Tryz.f130,go_sem];repeat refine sd2 ?_
  refine ⟨(),(so0 hF2 (h2:=by simp[zAi,Tx.look,Ckx.row]))⟩
 refine VT.of (zAg (L+1)) ?_;simp only[Tryz.f130,kq,m1,Ckx.row,go_sem];repeat refine sd2 ?_
 refine ⟨zEG m2,?_⟩;refine ⟨_,(zUb ⟨L+1,10640⟩ (e:=38) (wd:=4) (o:=true) (p:=false) (row:=[.int .i64 g.fr,.int .i64 g.tt,.int .i64 tag,.sl ⟨L+1,10544⟩ 0 1]) [.int .i64 g.fr,.int .i64 g.tt,.int .i64 tag,.fs 3 [[.int .i64 c.kd,.int .i64 c.fl,.str c.bd]]] (by simp[Tx.look]) rfl (by simp[Wk,WkL,Tx.look]) (by simp[zAt,wkN]) (by simp[nfl,Tx.nf])).trans
  (zUb m (e:=123) (wd:=22) (o:=true) (p:=false) (row:=(gR g [.int .i64 now,.sl ⟨L+1,10640⟩ 0 1])) (gR g [.int .i64 now,.fs 4 [[.int .i64 g.fr,.int .i64 g.tt,.int .i64 tag,.fs 3 [[.int .i64 c.kd,.int .i64 c.fl,.str c.bd]]]]]) (by simp[Tx.look,zAl,setH,unown,zAt,wkN,m1]) rfl (by simp[Wk,WkL,Tx.look,zAl,setH,unown,zAt,wkN]) (by simp[zAt,wkN,m1]) (by simp[nfl,Tx.nf])),?_⟩
 simp only[Tx.look,zAl,setH,unown,zAt,wkN,m1,m2,zJ,zF,zGV,zA9,List.map,Ckx.row,go_sem];refine .val [] (.inl rfl) (by simp) (p:=True) (v0:=.tup []) ?_ trivial ?_ ?_ ⟨hm,?_,trivial⟩ ?_;·simp only[go_sem]
 ·simp[nmA,zDf]
 ·simp[Tx.rn,Tx.rnL]
 ·rw[zF3];exact .pure (by simp[Tx.look,m1])
 ·simp[UpdAll,keys]
theorem zD3{F:SF}{L nx:Nat}(m:Nm)(hm:m.l≤L)(g:Gx)(now:Int)(u:PV)(s:Int)(hn:0≤now∧now≤1099511627776)(hF:F m=some (.rows 123 22 true true [g.mrow now u])):
  Con Tryz.prog 97 [.ptr m 0 0,.int .i64 s] F L nx nx (.tup []) [(m,.rows 123 22 true true [(zAG g s now).mrow now u])] [m]:=by
 have m1:∀k,(m=(⟨L+1,k⟩:Nm))=False:=zAI hm;have m2:∀k,((⟨L+1,k⟩:Nm)=m)=False:=zAF hm;simp only[Gx.mrow,Gx.row,zAG,zJ,zF]at hF ⊢;refine bdy Tryz.f97 (hrd:=(by simp;omega)) ?_;intro F3 hF1 hF2;have kq:=(hF1 m (by simp)).trans hF;simp only[Tryz.f97,kq,go_sem];repeat refine sd2 ?_
 exact po0 (.tup []) ⟨hm,by simp[Tx.look,BW],trivial⟩
theorem zCH{F:SF}{L nx:Nat}(m:Nm)(hm:m.l≤L)(g:Gx)(now:Int)(u:PV)(s:Int)(hF:F m=some (.rows 123 22 true true [g.mrow now u])):
  Con Tryz.prog 100 [.ptr m 0 0,.int .i64 s] F L nx nx (.tup []) [(m,.rows 123 22 true true [(zAT g s).mrow now u])] [m]:=by
 have m1:∀k,(m=(⟨L+1,k⟩:Nm))=False:=zAI hm;have m2:∀k,((⟨L+1,k⟩:Nm)=m)=False:=zAF hm;simp only[Gx.mrow,Gx.row,zAT,zJ,zF]at hF ⊢;refine bdy Tryz.f100 (hrd:=(by simp;omega)) ?_;intro F3 hF1 hF2;have kq:=(hF1 m (by simp)).trans hF;simp only[Tryz.f100,kq,go_sem];repeat refine sd2 ?_
 exact po0 (.tup []) ⟨hm,by simp[Tx.look,BW],trivial⟩
theorem zCl{F:SF}{L nx:Nat}(m:Nm)(hm:m.l≤L)(g:Gx)(now k:Int)(hF:F m=some (.rows 123 22 true true [g.mrow now .nilS])):
  Con Tryz.prog 99 [.ptr m 0 0,.int .i64 k] F L nx nx (.tup []) [(m,.rows 123 22 true true [g.mrow now (zAV (zAh g k))])] [m]:=by
 have m1:∀k,(m=(⟨L+1,k⟩:Nm))=False:=zAI hm;have m2:∀k,((⟨L+1,k⟩:Nm)=m)=False:=zAF hm;have hc:=fun(F:SF) (nx:Nat) (hF:F m=_)=>zEO (F:=F) (L:=L+1) (nx:=nx) m (by omega) g now g.peer.tag ⟨k,0,[]⟩ hF
 unfold zAh;obtain ⟨o,ho⟩:∃o,o=zAV (zA9 g g.peer.tag ⟨k,0,[]⟩):=⟨_,rfl⟩;rw[←ho];simp only[←ho]at hc;simp only[Gx.mrow,Gx.row,Ckx.row,zJ,zF]at hF hc ⊢;refine bdy Tryz.f99 (hrd:=(by simp;omega)) ?_;intro F3 hF1 hF2;have kq:=(hF1 m (by simp)).trans hF;simp only[Tryz.f99,kq,go_sem];repeat refine sd2 ?_
 refine CallVC.same (hc _ _ (by simp[kq])) ?_;simp only[go_sem];repeat refine sd2 ?_
 exact po0 (.tup []) ⟨hm,by simp[Tx.look,BW],trivial⟩
theorem zCe{F:SF}{L nx:Nat}(m:Nm)(hm:m.l≤L)(g:Gx)(now:Int)(hg:g.own.ok=true∧g.own.ck=[])(hF:F m=some (.rows 123 22 true true [g.mrow now .nilS])):
  Con Tryz.prog 98 [.ptr m 0 0] F L nx nx (.tup []) [(m,.rows 123 22 true true [g.mrow now (zAV (zAj g))])] [m]:=by
 have m1:∀k,(m=(⟨L+1,k⟩:Nm))=False:=zAI hm;have m2:∀k,((⟨L+1,k⟩:Nm)=m)=False:=zAF hm;unfold zAj;by_cases h2:g.st=2
 ·rw[if_pos h2];have hI:=fun F L nx=>zC8 (F:=F) (L:=L) (nx:=nx) g.own
  rw[hg.1,if_pos rfl,hg.2,show zCq []=1 from rfl]at hI;have hc:=fun(F:SF) (nx:Nat) (hF:F m=_)=>zEO (F:=F) (L:=L+1) (nx:=nx) m (by omega) g now 0 ⟨1,0,g.own.oct⟩ hF
  obtain ⟨o,ho⟩:∃o,o=zAV (zA9 g 0 ⟨1,0,g.own.oct⟩):=⟨_,rfl⟩;rw[←ho];simp only[←ho]at hc;have s2:(g.st==2)=true:=by simp;omega
  simp only[Gx.mrow,Gx.row,Ckx.row,Ini.row,zJ,zF]at hF hc hI ⊢;refine bdy Tryz.f98 (hrd:=(by simp;omega)) ?_;intro F3 hF1 hF2;have kq:=(hF1 m (by simp)).trans hF;simp only[Tryz.f98,kq,s2,go_sem];repeat refine sd2 ?_
  refine CallVC.same (hI _ _ _) ?_;simp only[go_sem];repeat refine sd2 ?_
  refine CallVC.same (hc _ _ (by simp[kq,m1])) ?_;simp only[m1,go_sem];repeat refine sd2 ?_
  exact po0 (.tup []) ⟨hm,by simp[Tx.look,BW,m1],trivial⟩
 rw[if_neg h2];have s2:(g.st==2)=false:=by simp;omega
 by_cases h3:g.st=3
 ·rw[if_pos h3];have hc:=fun(F:SF) (nx:Nat) (hF:F m=_)=>zEO (F:=F) (L:=L+1) (nx:=nx) m (by omega) g now g.peer.tag ⟨10,0,g.ck⟩ hF
  obtain ⟨o,ho⟩:∃o,o=zAV (zA9 g g.peer.tag ⟨10,0,g.ck⟩):=⟨_,rfl⟩;rw[←ho];simp only[←ho]at hc;have s3:(g.st==3)=true:=by simp;omega
  simp only[Gx.mrow,Gx.row,Ckx.row,zJ,zF]at hF hc ⊢;refine bdy Tryz.f98 (hrd:=(by simp;omega)) ?_;intro F3 hF1 hF2;have kq:=(hF1 m (by simp)).trans hF;simp only[Tryz.f98,kq,s2,s3,go_sem];repeat refine sd2 ?_
  refine CallVC.same (hc _ _ (by simp[kq])) ?_;simp only[go_sem];repeat refine sd2 ?_
  refine ⟨zAA (fun _=>0) (by simp only[zA0,List.map];kernel_rfl),?_⟩;exact po0 (.tup []) ⟨hm,by simp[Tx.look,BW],trivial⟩
 rw[if_neg h3];have s3:(g.st==3)=false:=by simp;omega
 by_cases h5:g.st=5
 ·rw[if_pos h5];have hc:=fun(F:SF) (nx:Nat) (hF:F m=_)=>zCl (F:=F) (L:=L+1) (nx:=nx) m (by omega) g now 7 hF
  obtain ⟨o,ho⟩:∃o,o=zAV (zAh g 7):=⟨_,rfl⟩;rw[←ho];simp only[←ho]at hc;have s5:(g.st==5)=true:=by simp;omega
  simp only[Gx.mrow,Gx.row,zJ,zF]at hF hc ⊢;refine bdy Tryz.f98 (hrd:=(by simp;omega)) ?_;intro F3 hF1 hF2;have kq:=(hF1 m (by simp)).trans hF;simp only[Tryz.f98,kq,s2,s3,s5,go_sem];repeat refine sd2 ?_
  refine CallVC.same (hc _ _ (by simp[kq])) ?_;simp only[go_sem];repeat refine sd2 ?_
  exact po0 (.tup []) ⟨hm,by simp[Tx.look,BW],trivial⟩
 rw[if_neg h5];have s5:(g.st==5)=false:=by simp;omega
 by_cases h6:g.st=6
 ·rw[if_pos h6];have hc:=fun(F:SF) (nx:Nat) (hF:F m=_)=>zCl (F:=F) (L:=L+1) (nx:=nx) m (by omega) g now 8 hF
  obtain ⟨o,ho⟩:∃o,o=zAV (zAh g 8):=⟨_,rfl⟩;rw[←ho];simp only[←ho]at hc;have s6:(g.st==6)=true:=by simp;omega
  simp only[Gx.mrow,Gx.row,zJ,zF]at hF hc ⊢;refine bdy Tryz.f98 (hrd:=(by simp;omega)) ?_;intro F3 hF1 hF2;have kq:=(hF1 m (by simp)).trans hF;simp only[Tryz.f98,kq,s2,s3,s5,s6,go_sem];repeat refine sd2 ?_
  refine CallVC.same (hc _ _ (by simp[kq])) ?_;simp only[go_sem];repeat refine sd2 ?_
  exact po0 (.tup []) ⟨hm,by simp[Tx.look,BW],trivial⟩
 rw[if_neg h6];have s6:(g.st==6)=false:=by simp;omega
 simp only[Gx.mrow,Gx.row,zJ,zF,zAV]at hF ⊢;refine bdy Tryz.f98 (hrd:=(by simp;omega)) ?_;intro F3 hF1 hF2;have kq:=(hF1 m (by simp)).trans hF;simp only[Tryz.f98,kq,s2,s3,s5,s6,go_sem];repeat refine sd2 ?_
 exact po0 (.tup []) ⟨hm,by simp[Tx.look,BW,kq],trivial⟩
theorem zNP{F:SF}{L nx:Nat}(m:Nm)(hm:m.l≤L)(g:Gx)(now:Int)(p:Pkx)(h1:g.st≠1)(hF:F m=some (.rows 123 22 true true [g.mrow now .nilS])):
  Con Tryz.prog 53 [.ptr m 0 0,.agg p.row] F L nx nx (.bool false) [] [m]:=by
 have m1:∀k,(m=(⟨L+1,k⟩:Nm))=False:=zAI hm;have m2:∀k,((⟨L+1,k⟩:Nm)=m)=False:=zAF hm;have s1:(g.st !=1)=true:=by simp;omega
 simp only[Gx.mrow,Gx.row,Pkx.row,zJ,zF]at hF ⊢;refine bdy Tryz.f53 (hrd:=(by simp;omega)) ?_;intro F3 hF1 hF2;have kq:=(hF1 m (by simp)).trans hF;simp only[Tryz.f53,kq,m1,s1,go_sem];repeat refine sd2 ?_
 exact po0 (.bool false) trivial
theorem zO1{F:SF}{L nx:Nat}(m:Nm)(hm:m.l≤L)(g:Gx)(now:Int)(p:Pkx)(h1:g.st=1)(hn:0≤now∧now≤1099511627776)(ho:g.own.ok=true∧g.own.ck=[])(hF:F m=some (.rows 123 22 true true [g.mrow now .nilS])):
  Con Tryz.prog 53 [.ptr m 0 0,.agg p.row] F L nx nx (.bool true) [(m,.rows 123 22 true true [(zAG g 2 now).mrow now (zAV (zAj (zAG g 2 now)))])] [m]:=by
 have m1:∀k,(m=(⟨L+1,k⟩:Nm))=False:=zAI hm;have m2:∀k,((⟨L+1,k⟩:Nm)=m)=False:=zAF hm;have s1:(g.st !=1)=false:=by simp;omega
 have hb:=fun(F:SF) (nx:Nat) (hF:F m=_)=>zD3 (F:=F) (L:=L+1) (nx:=nx) m (by omega) g now .nilS 2 hn hF
 have ha:=fun(F:SF) (nx:Nat) (hF:F m=_)=>zCe (F:=F) (L:=L+1) (nx:=nx) m (by omega) (zAG g 2 now) now ho hF
 obtain ⟨o,hoo⟩:∃o,o=zAV (zAj (zAG g 2 now)):=⟨_,rfl⟩;rw[←hoo];simp only[←hoo]at ha;simp only[Gx.mrow,Gx.row,Pkx.row,zAG,zJ,zF]at hF ha hb ⊢;refine bdy Tryz.f53 (hrd:=(by simp;omega)) ?_;intro F3 hF1 hF2;have kq:=(hF1 m (by simp)).trans hF;simp only[Tryz.f53,kq,m1,s1,go_sem];repeat refine sd2 ?_
 refine CallVC.same (hb _ _ (by simp[kq,m1])) ?_;simp only[m1,go_sem];repeat refine sd2 ?_
 refine CallVC.same (ha _ _ (by simp[m1])) ?_;simp only[m1,go_sem];repeat refine sd2 ?_
 exact po0 (.bool true) ⟨hm,by simp[Tx.look,BW,m1],trivial⟩ (by simp[UpdAll,keys,m2])
theorem zLs{F:SF}{L nx:Nat}(m:Nm)(hm:m.l≤L)(g:Gx)(now:Int)(p:Pkx)(h1:g.st≠4)(hF:F m=some (.rows 123 22 true true [g.mrow now .nilS])):
  Con Tryz.prog 54 [.ptr m 0 0,.agg p.row] F L nx nx (.bool false) [] [m]:=by
 have m1:∀k,(m=(⟨L+1,k⟩:Nm))=False:=zAI hm;have m2:∀k,((⟨L+1,k⟩:Nm)=m)=False:=zAF hm;have s1:(g.st !=4)=true:=by simp;omega
 simp only[Gx.mrow,Gx.row,Pkx.row,zJ,zF]at hF ⊢;refine bdy Tryz.f54 (hrd:=(by simp;omega)) ?_;intro F3 hF1 hF2;have kq:=(hF1 m (by simp)).trans hF;simp only[Tryz.f54,kq,m1,s1,go_sem];repeat refine sd2 ?_
 exact po0 (.bool false) trivial
theorem zNQ{F:SF}{L nx:Nat}(m:Nm)(hm:m.l≤L)(g:Gx)(now:Int)(p:Pkx)(h1:g.st=4)(hn:0≤now∧now≤1099511627776)(ho:g.own.ok=true∧g.own.ck=[])(hF:F m=some (.rows 123 22 true true [g.mrow now .nilS])):
  Con Tryz.prog 54 [.ptr m 0 0,.agg p.row] F L nx nx (.bool true) [(m,.rows 123 22 true true [(zAG g 5 now).mrow now (zAV (zAj (zAG g 5 now)))])] [m]:=by
 have m1:∀k,(m=(⟨L+1,k⟩:Nm))=False:=zAI hm;have m2:∀k,((⟨L+1,k⟩:Nm)=m)=False:=zAF hm;have s1:(g.st !=4)=false:=by simp;omega
 have hb:=fun(F:SF) (nx:Nat) (hF:F m=_)=>zD3 (F:=F) (L:=L+1) (nx:=nx) m (by omega) g now .nilS 5 hn hF
 have ha:=fun(F:SF) (nx:Nat) (hF:F m=_)=>zCe (F:=F) (L:=L+1) (nx:=nx) m (by omega) (zAG g 5 now) now ho hF
 obtain ⟨o,hoo⟩:∃o,o=zAV (zAj (zAG g 5 now)):=⟨_,rfl⟩;rw[←hoo];simp only[←hoo]at ha;simp only[Gx.mrow,Gx.row,Pkx.row,zAG,zJ,zF]at hF ha hb ⊢;refine bdy Tryz.f54 (hrd:=(by simp;omega)) ?_;intro F3 hF1 hF2;have kq:=(hF1 m (by simp)).trans hF;simp only[Tryz.f54,kq,m1,s1,go_sem];repeat refine sd2 ?_
 refine CallVC.same (hb _ _ (by simp[kq,m1])) ?_;simp only[m1,go_sem];repeat refine sd2 ?_
 refine CallVC.same (ha _ _ (by simp[m1])) ?_;simp only[m1,go_sem];repeat refine sd2 ?_
 exact po0 (.bool true) ⟨hm,by simp[Tx.look,BW,m1],trivial⟩ (by simp[UpdAll,keys,m2])
theorem zLt{F:SF}{L nx:Nat}(m:Nm)(hm:m.l≤L)(g:Gx)(now:Int)(p:Pkx)(h1:g.st=1∨g.st=7)(hF:F m=some (.rows 123 22 true true [g.mrow now .nilS])):
  Con Tryz.prog 55 [.ptr m 0 0,.agg p.row] F L nx nx (.bool false) [] [m]:=by
 have m1:∀k,(m=(⟨L+1,k⟩:Nm))=False:=zAI hm;have m2:∀k,((⟨L+1,k⟩:Nm)=m)=False:=zAF hm;simp only[Gx.mrow,Gx.row,Pkx.row,zJ,zF]at hF ⊢;rcases h1 with h1|h1
 ·have s1:(g.st==1)=true:=by simp;omega
  refine bdy Tryz.f55 (hrd:=(by simp;omega)) ?_;intro F3 hF1 hF2;have kq:=(hF1 m (by simp)).trans hF;simp only[Tryz.f55,kq,m1,s1,go_sem];repeat refine sd2 ?_
  exact po0 (.bool false) trivial
 ·have s1:(g.st==1)=false:=by simp;omega
  have s7:(g.st==7)=true:=by simp;omega
  refine bdy Tryz.f55 (hrd:=(by simp;omega)) ?_;intro F3 hF1 hF2;have kq:=(hF1 m (by simp)).trans hF;simp only[Tryz.f55,kq,m1,s1,s7,go_sem];repeat refine sd2 ?_
  exact po0 (.bool false) trivial
theorem zLu{F:SF}{L nx:Nat}(m:Nm)(hm:m.l≤L)(g:Gx)(now:Int)(p:Pkx)(h1:g.st=2)(hF:F m=some (.rows 123 22 true true [g.mrow now .nilS])):
  Con Tryz.prog 55 [.ptr m 0 0,.agg p.row] F L nx nx (.bool true) [(m,.rows 123 22 true true [(zAT g 7).mrow now .nilS])] [m]:=by
 have m1:∀k,(m=(⟨L+1,k⟩:Nm))=False:=zAI hm;have m2:∀k,((⟨L+1,k⟩:Nm)=m)=False:=zAF hm;have s1:(g.st==1)=false:=by simp;omega
 have s7:(g.st==7)=false:=by simp;omega
 have s2:(g.st==2)=true:=by simp;omega
 have hr:=fun(F:SF) (nx:Nat) (hF:F m=_)=>zCH (F:=F) (L:=L+1) (nx:=nx) m (by omega) g now .nilS 7 hF
 simp only[Gx.mrow,Gx.row,Pkx.row,zAT,zJ,zF]at hF hr ⊢;refine bdy Tryz.f55 (hrd:=(by simp;omega)) ?_;intro F3 hF1 hF2;have kq:=(hF1 m (by simp)).trans hF;simp only[Tryz.f55,kq,m1,s1,s7,s2,go_sem];repeat refine sd2 ?_
 refine CallVC.same (hr _ _ (by simp[kq,m1])) ?_;simp only[m1,go_sem];repeat refine sd2 ?_
 exact po0 (.bool true) ⟨hm,by simp[Tx.look,BW,m1],trivial⟩ (by simp[UpdAll,keys,m2])
theorem zNR{F:SF}{L nx:Nat}(m:Nm)(hm:m.l≤L)(g:Gx)(now:Int)(p:Pkx)(h1:g.st≠1∧g.st≠2∧g.st≠7)(hF:F m=some (.rows 123 22 true true [g.mrow now .nilS])):
  Con Tryz.prog 55 [.ptr m 0 0,.agg p.row] F L nx nx (.bool true) [(m,.rows 123 22 true true [(zAT g 7).mrow now (zAV (zAh g 6))])] [m]:=by
 have m1:∀k,(m=(⟨L+1,k⟩:Nm))=False:=zAI hm;have m2:∀k,((⟨L+1,k⟩:Nm)=m)=False:=zAF hm;have s1:(g.st==1)=false:=by simp;omega
 have s7:(g.st==7)=false:=by simp;omega
 have s2:(g.st==2)=false:=by simp;omega
 have ht:=fun(F:SF) (nx:Nat) (hF:F m=_)=>zCl (F:=F) (L:=L+1) (nx:=nx) m (by omega) g now 6 hF
 have hr:=fun(F:SF) (nx:Nat) (hF:F m=_)=>zCH (F:=F) (L:=L+1) (nx:=nx) m (by omega) g now (zAV (zAh g 6)) 7 hF
 obtain ⟨o,hoo⟩:∃o,o=zAV (zAh g 6):=⟨_,rfl⟩;rw[←hoo];simp only[←hoo]at ht hr;simp only[Gx.mrow,Gx.row,Pkx.row,zAT,zJ,zF]at hF ht hr ⊢;refine bdy Tryz.f55 (hrd:=(by simp;omega)) ?_;intro F3 hF1 hF2;have kq:=(hF1 m (by simp)).trans hF;simp only[Tryz.f55,kq,m1,s1,s7,s2,go_sem];repeat refine sd2 ?_
 refine CallVC.same (ht _ _ (by simp[kq,m1])) ?_;simp only[m1,go_sem];repeat refine sd2 ?_
 refine CallVC.same (hr _ _ (by simp[m1])) ?_;simp only[m1,go_sem];repeat refine sd2 ?_
 exact po0 (.bool true) ⟨hm,by simp[Tx.look,BW,m1],trivial⟩ (by simp[UpdAll,keys,m2])
theorem zNS{F:SF}{L nx:Nat}(m:Nm)(hm:m.l≤L)(g:Gx)(now:Int)(p:Pkx)(h1:g.due<0∨now<g.due)(hF:F m=some (.rows 123 22 true true [g.mrow now .nilS])):
  Con Tryz.prog 56 [.ptr m 0 0,.agg p.row] F L nx nx (.bool true) [(m,.rows 123 22 true true [g.mrow now .nilS])] [m]:=by
 have m1:∀k,(m=(⟨L+1,k⟩:Nm))=False:=zAI hm;have m2:∀k,((⟨L+1,k⟩:Nm)=m)=False:=zAF hm;simp only[Gx.mrow,Gx.row,Pkx.row,zJ,zF]at hF ⊢;by_cases h2:g.due<0
 ·have d1:decide (g.due<0)=true:=dT (by omega);refine bdy Tryz.f56 (hrd:=(by simp;omega)) ?_;intro F3 hF1 hF2;have kq:=(hF1 m (by simp)).trans hF;simp only[Tryz.f56,kq,m1,d1,go_sem];repeat refine sd2 ?_
  refine ⟨zAA (fun _=>0) (by simp only[zA0,List.map];kernel_rfl),?_⟩;exact po0 (.bool true) ⟨hm,by simp[Tx.look,BW,m1,kq],trivial⟩ (by simp[UpdAll,keys,m2])
 ·have d1:decide (g.due<0)=false:=dF (by omega);have d2:decide (g.due>now)=true:=dT (by omega);have d2':decide (now<g.due)=true:=dT (by omega);refine bdy Tryz.f56 (hrd:=(by simp;omega)) ?_;intro F3 hF1 hF2;have kq:=(hF1 m (by simp)).trans hF;simp only[Tryz.f56,kq,m1,d1,d2,go_sem];repeat refine sd2 ?_
  refine ⟨zAA (fun _=>0) (by simp only[zA0,List.map];kernel_rfl),?_⟩;exact po0 (.bool true) ⟨hm,by simp[Tx.look,BW,m1,kq],trivial⟩ (by simp[UpdAll,keys,m2])
theorem zNT{F:SF}{L nx:Nat}(m:Nm)(hm:m.l≤L)(g:Gx)(now:Int)(p:Pkx)(h1:0≤g.due∧g.due≤now)(h2:g.tr=8)(hF:F m=some (.rows 123 22 true true [g.mrow now .nilS])):
  Con Tryz.prog 56 [.ptr m 0 0,.agg p.row] F L nx nx (.bool true) [(m,.rows 123 22 true true [(zAT g 7).mrow now .nilS])] [m]:=by
 have m1:∀k,(m=(⟨L+1,k⟩:Nm))=False:=zAI hm;have m2:∀k,((⟨L+1,k⟩:Nm)=m)=False:=zAF hm;have d1:decide (g.due<0)=false:=dF (by omega);have d2:decide (g.due>now)=false:=dF (by omega);have d2':decide (now<g.due)=false:=dF (by omega);have s8:(g.tr==8)=true:=by simp;omega
 have hr:=fun(F:SF) (nx:Nat) (hF:F m=_)=>zCH (F:=F) (L:=L+1) (nx:=nx) m (by omega) g now .nilS 7 hF
 simp only[Gx.mrow,Gx.row,Pkx.row,zAT,zJ,zF]at hF hr ⊢;refine bdy Tryz.f56 (hrd:=(by simp;omega)) ?_;intro F3 hF1 hF2;have kq:=(hF1 m (by simp)).trans hF;simp only[Tryz.f56,kq,m1,d1,d2,s8,go_sem];repeat refine sd2 ?_
 refine ⟨zAA (fun _=>0) (by simp only[zA0,List.map];kernel_rfl),?_⟩;refine CallVC.same (hr _ _ (by simp[kq,m1])) ?_;simp only[m1,go_sem];repeat refine sd2 ?_
 exact po0 (.bool true) ⟨hm,by simp[Tx.look,BW,m1],trivial⟩ (by simp[UpdAll,keys,m2])
theorem zQk{n:Nat}(h8:n<9):min (IntKind.i64.wrap (400*2^min n 64)) 6400=wtS (n:Int):=by
 have h:∀n:Nat,n<9→min (IntKind.i64.wrap (400*2^min n 64)) 6400=wtS (n:Int):=by decide
 exact h n h8
theorem zNU(n:Int):0≤wtS n∧wtS n≤6400:=by
 unfold wtS;have:(0:Int)<2^n.toNat:=Int.pow_pos (by decide);omega
theorem zO2{F:SF}{L nx:Nat}(m:Nm)(hm:m.l≤L)(g:Gx)(now:Int)(p:Pkx)(h1:0≤g.due∧g.due≤now)(h2:1≤g.tr∧g.tr<8)(hn:now≤1099511627776)(ho:g.own.ok=true∧g.own.ck=[])(hF:F m=some (.rows 123 22 true true [g.mrow now .nilS])):
  Con Tryz.prog 56 [.ptr m 0 0,.agg p.row] F L nx nx (.bool true) [(m,.rows 123 22 true true [({g with due:=now+wtS g.tr,tr:=g.tr+1}:Gx).mrow now (zAV (zAj g))])] [m]:=by
 have m1:∀k,(m=(⟨L+1,k⟩:Nm))=False:=zAI hm;have m2:∀k,((⟨L+1,k⟩:Nm)=m)=False:=zAF hm;have d1:decide (g.due<0)=false:=dF (by omega);have d2:decide (g.due>now)=false:=dF (by omega);have d2':decide (now<g.due)=false:=dF (by omega);have s8:(g.tr==8)=false:=by simp;omega
 have ha:=fun(F:SF) (nx:Nat) (hF:F m=_)=>zCe (F:=F) (L:=L+1) (nx:=nx) m (by omega) g now ho hF
 obtain ⟨o,hoo⟩:∃o,o=zAV (zAj g):=⟨_,rfl⟩;rw[←hoo];simp only[←hoo]at ha;obtain ⟨n,hn9⟩:∃n:Nat,g.tr=n:=⟨g.tr.toNat,by omega⟩;rw[hn9]at h2 s8;simp only[Gx.mrow,Gx.row,Pkx.row,zJ,zF]at hF ha ⊢;simp only[hn9]at hF ha ⊢;refine bdy Tryz.f56 (hrd:=(by simp;omega)) ?_;intro F3 hF1 hF2;have kq:=(hF1 m (by simp)).trans hF;simp only[Tryz.f56,kq,m1,d1,d2,s8,go_sem];repeat refine sd2 ?_
 refine ⟨zAA (fun _=>0) (by simp only[zA0,List.map];kernel_rfl),?_⟩;refine CallVC.same (ha _ _ (by simp[kq,m1])) ?_;simp only[kq,m1,go_sem];repeat refine sd2 ?_
 have hw:=zQk (n:=n) (by omega);have hwl:=zNU (n:Int);rw[hw];refine ⟨⟨by omega,by omega⟩,zAA (fun _=>0) (by simp only[zA0,List.map];kernel_rfl),⟨by omega,by omega⟩,?_⟩;exact po0 (.bool true) ⟨hm,by simp[Tx.look,BW,m1],trivial⟩ (by simp[UpdAll,keys,m2])
end Go.Proofs.YtifhjhbfhdcahaaGreat
end
