/- Lemmas for the walk: U15, U16, T9g, U16c, U17. -/
import Derived.Test.YtifhjhbfhdcahaaGreatP06
import Derived.LoopIn
set_option linter.all false
section
namespace Go.Tx
open Go.Sx (zAB)
def zDi(f:Nat→Option PV):Operand→Option PV
 | .tmp i=>f i
 | .const v=>ofV v
 | .func f=>some (.fn (.func f) [] [])
 | .global _=>none
structure TRelF (w:World) (Z:Nat→Prop) (E:Env) (f:Nat→Option PV) (m:Nat) (a:Array Value):Prop where
 size:a.size=m
 val:∀(i:Nat) (v:PV),f i=some v→∃v',a[i]?=some v'∧VR w Z E v v'
theorem TRelF.mono{w w':World}{Z Z':Nat→Prop}{E E':Env}{f:Nat→Option PV}{m:Nat}{a:Array Value}(h:TRelF w Z E f m a)(hX:Ext E w Z E' w' Z'):TRelF w' Z' E' f m a:=
 ⟨h.size,fun i v hv=>let ⟨v',h1,h2⟩:=h.val i v hv;⟨v',h1,VR.mono hX _ _ h2⟩⟩
theorem TRelF.eval{w:World}{Z:Nat→Prop}{E:Env}{f:Nat→Option PV}{m:Nat}{a:Act}(h:TRelF w Z E f m a.tmps):zJp w Z E (zDi f) a.eval:=by
 intro x v hx;cases x with
 |tmp i=>
  obtain ⟨v',h1,h2⟩:=h.val i v hx;simp[Act.eval,h1,h2]
 |const u=>exact zMA u v hx
 |func f=>
  simp only[zDi,zZ]at hx;subst hx;simp only[VR,VRl,Act.eval];exact ⟨[],[],rfl,rfl,rfl⟩
 |global g=>cases hx
def zAq(ops:List Oper)(f:Nat→Option PV)(j:Nat):Option PV:=
 match ops[j]? with
 |some o=>match o.dst with|some d=>f d|none=>none
 |none=>none
def Off(v:Option PV)(want:Bool):Prop:=v=some (.bool (!want))∨v=some zAN
def OpFact(P:Program)(ρ:Operand→Option PV)(F:SF)(L nx top:Nat)(o:Oper)(r:Res):Prop:=
 (∀c,o.op≠ .defer c)∧nx≤top∧∀(ρ2:Operand→Option PV) (F2:SF),(∀x∈o.op.operands.toList,ρ2 x=ρ x)→(∀n∈r.rd,F2 n=F n)→
  ∀(E:Env) (w:World) (ρ':Operand→Value),HRel E F2 w→(∀k,nx≤k→k<top→E ⟨L,k⟩=none)→(∀n:Nm,L<n.l→E n=none)→zJp w (Zn E F2 w) E ρ2 ρ'→
   zES P (fun v' w'=>∃E',VR w' (Zn E' (F2.upd r.upd) w') E' r.v v'∧StepR E F2 w E' (F2.upd r.upd) w'∧∀n,E n=none→E' n≠none→n.l=L∧nx≤n.i∧n.i<top) ((execOp ρ' o).run P w)
theorem zFZ{P:Program}{T:Tys}(hT:T.Ok P)(hA:zDp T){wr:Bool}{ρ:Operand→Option PV}{F:SF}{L nx:Nat}{o:Oper}{r:Res}(hs:zCy T wr ρ F ⟨L,nx⟩ o.op=some r)(hv:r.vc):OpFact P ρ F L nx (nx+32) o r:=by
 refine ⟨zIE hs,by omega,fun ρ2 F2 hρ2 hF2 E w ρ' hR hfr _ hρ=>?_⟩;have h1:zCy T wr ρ2 F2 ⟨L,nx⟩ o.op=some r:=by rw[zOD hρ2];exact zRH hs hF2
 exact zN9 hT hA hR (hfr nx (zH _) (by omega)) hρ h1 hv
def tw(o:Oper)(r:Option Res):List (Nat×PV):=
 match o.dst with
 |some d=>[(d,match r with|some r=>r.v|none=>zAN)]
 |none=>[]
def twL:List Oper→List (Option Res)→List (List (Nat×PV))
 |o::l,r::rs=>tw o r::twL l rs
 |_,_=>[]
def hw(r:Option Res):List (Nm×SBlk):=match r with|some r=>r.upd|none=>[]
theorem zA6:∀(l:List (Nm×SBlk)) (F:SF),F.upd l=zAX F l
 | [],_=>rfl
 |(n,b)::l,F=>by simp only[SF.upd,zAX];exact zA6 l _
theorem zEn{κ:Type}[DecidableEq κ]{α:Type}{i:Nat}{ws:List (List (κ×α))}{f:κ→Option α}:zA4 (fun n=>decide (n<i)) i ws f=f:=by
 funext k;refine zC0 ws ?_;intro j x _ hs;simp at hs;omega
theorem zCb{κ:Type}[DecidableEq κ]{α:Type}{i j:Nat}{x:List (κ×α)}{ws:List (List (κ×α))}{f:κ→Option α}:zA4 (fun n=>decide (n<i+(j+1))) i (x::ws) f=zA4 (fun n=>decide (n<i+1+j)) (i+1) ws (zAX f x):=by
 simp only[zA4];rw[if_pos (by simp),show i+(j+1)=i+1+j by omega]
def W(r:Option Nat):Fence:={Fence.wide with round:=r}
theorem zEC{P:Program}{K:Value→World→Prop}{res:Result Next}{r:Option Nat}{n:Nat}{o:Oper}{a:Act}{next:Act→World→Prop}{Q:Exit→Act→World→Prop}
  (h:zES P K res)(hK:∀v w',K v w'→next (a.put o.dst v) w'):o.uponIn (W r) n P a next Q res:=by
 unfold zES Sx.zES at h;split at h;·exact hK _ _ h
 ·exact hK _ _ h
 ·rename_i f args w';refine ⟨(fun hd=>by cases hd),?_⟩;have h1:CallsIn Fence.wide (n-1) P f args w' fun e w''=>∃v,e= .returned v∧K v w'':=callsIn_wide.2 h
  have h2:CallsIn (W r) (n-1) P f args w' fun e w''=>∃v,e= .returned v∧K v w'':=h1
  refine h2.mono fun e w'' ⟨v,he,hk⟩=>?_
  subst he;exact hK _ _ hk
 ·exact h.elim
inductive Tr (P:Program) (ops:List Oper) (L m:Nat):List Oper→(Nat→Option PV)→SF→Nat→List (Option Res)→List Nat→(Nat→Option PV)→SF→Nat→Prop
 |nil (f:Nat→Option PV) (F:SF) (nx:Nat):Tr P ops L m [] f F nx [] [] f F nx
 | run {o:Oper} {l:List Oper} {f f':Nat→Option PV} {F F':SF} {nx top nx':Nat} {r:Res} {rs:List (Option Res)} {ls:List Nat}
   (hg:∀j want,o.guard=some (j,want)→zAq ops f j=some (.bool want)) (hf:OpFact P (zDi f) F L nx top o r)
   (h:Tr P ops L m l (zAX f (tw o (some r))) (F.upd r.upd) top rs ls f' F' nx'):Tr P ops L m (o::l) f F nx (some r::rs) (nx::ls) f' F' nx'
 | skip {o:Oper} {l:List Oper} {f f':Nat→Option PV} {F F':SF} {nx nx':Nat} {rs:List (Option Res)} {ls:List Nat} {j:Nat} {want:Bool}
   (hg:o.guard=some (j,want)) (hb:Off (zAq ops f j) want)
   (h:Tr P ops L m l (zAX f (tw o none)) F nx rs ls f' F' nx'):Tr P ops L m (o::l) f F nx (none::rs) (nx::ls) f' F' nx'
def lo(ls:List Nat)(e i:Nat):Nat:=ls.getD i e
theorem zJv{P:Program}{ops:List Oper}{L m:Nat}:∀{l:List Oper} {f f':Nat→Option PV} {F F':SF} {nx nx':Nat} {rs:List (Option Res)} {ls:List Nat},Tr P ops L m l f F nx rs ls f' F' nx'→
  ls.length=l.length∧lo ls nx' 0=nx∧∀i,lo ls nx' i≤lo ls nx' (i+1):=by
 intro l f f' F F' nx nx' rs ls h;induction h with
 |nil f F nx=>exact ⟨rfl,rfl,fun i=>by simp[lo]⟩
 |run hg hf h ih=>
  obtain ⟨h1,h2,h3⟩:=ih;refine ⟨by simp[h1],rfl,fun i=>?_⟩;cases i with
  |zero=>simp only[lo,qT,uF]at *;rw[h2];exact hf.2.1
  |succ i=>simpa only[lo,uF] using h3 i
 |skip hg hb h ih=>
  obtain ⟨h1,h2,h3⟩:=ih;refine ⟨by simp[h1],rfl,fun i=>?_⟩;cases i with
  |zero=>simp only[lo,qT,uF]at *;rw[h2];exact zH _
  |succ i=>simpa only[lo,uF] using h3 i
theorem zCQ{ls:List Nat}{e:Nat}(h:∀i,lo ls e i≤lo ls e (i+1)):∀{i j:Nat},i≤j→lo ls e i≤lo ls e j:=by
 intro i j hij;induction hij with
 |refl=>exact zH _
 |step _ ih=>exact vP ih (h _)
theorem zRI{P:Program}{ops:List Oper}{L m:Nat}:∀{l:List Oper} {i:Nat} {f f':Nat→Option PV} {F F':SF} {nx nx':Nat} {rs:List (Option Res)} {ls:List Nat},Tr P ops L m l f F nx rs ls f' F' nx'→
  l.length=rs.length∧f'=zA4 (fun _=>true) i (twL l rs) f∧F'=zA4 (fun _=>true) i (rs.map hw) F∧
  ∀ (j:Nat) (o:Oper) (r:Option Res),l[j]?=some o→rs[j]?=some r→
   match r with
   | some r=>OpFact P (zDi (zA4 (fun n=>decide (n<i+j)) i (twL l rs) f)) (zA4 (fun n=>decide (n<i+j)) i (rs.map hw) F) L (lo ls nx' j) (lo ls nx' (j+1)) o r∧
     ∀q want,o.guard=some (q,want)→zAq ops (zA4 (fun n=>decide (n<i+j)) i (twL l rs) f) q=some (.bool want)
   |none=>∃q want,o.guard=some (q,want)∧Off (zAq ops (zA4 (fun n=>decide (n<i+j)) i (twL l rs) f) q) want:=by
 intro l i f f' F F' nx nx' rs ls hTr;induction hTr generalizing i with
 |nil f F nx=>exact ⟨rfl,rfl,rfl,by intro j o r h;cases h⟩
 | @run o l f f' F F' nx top nx' r rs ls hg hf htr ih=>
  obtain ⟨h1,h2,h3,h5⟩:=ih (i:=i+1);have hlo:=(zJv htr).2.1;refine ⟨by simp[h1],?_,?_,?_⟩;·rw[h2];simp[twL,zA4]
  ·rw[h3];simp[zA4,hw,zA6]
  ·intro j o' r' ho' hr';cases j with
   |zero=>
    simp at ho' hr';subst ho';subst hr';simp only[wH,zEn];refine ⟨?_,fun q want hq=>hg q want hq⟩;have e0:lo (nx::ls) nx' 0=nx:=rfl;have e1:lo (nx::ls) nx' (0+1)=top:=hlo;rw[e0,e1];exact hf
   |succ j=>
    have:=h5 j o' r' (by simpa using ho') (by simpa using hr');simp only[twL,zL,zCb];rw[zA6]at this;exact this
 | @skip o l f f' F F' nx nx' rs ls q0 want0 hg hb htr ih=>
  obtain ⟨h1,h2,h3,h5⟩:=ih (i:=i+1);refine ⟨by simp[h1],?_,?_,?_⟩;·rw[h2];simp[twL,zA4]
  ·rw[h3];simp[zA4,hw,zAX]
  ·intro j o' r' ho' hr';cases j with
   |zero=>
    simp at ho' hr';subst ho';subst hr';simp only[wH,zEn];exact ⟨q0,want0,hg,hb⟩
   |succ j=>
    have:=h5 j o' r' (by simpa using ho') (by simpa using hr');simp only[twL,zL,zCb];exact this
def zKf(o:Op):List Nat:=o.operands.toList.filterMap fun| .tmp t=>some t|_=>none
def looks(ops:List Oper)(o:Oper):List Nat:=
 o.dst.toList++zKf o.op++(match o.guard with|some (j,_)=>((ops[j]?).bind (·.dst)).toList|none=>[])
def zET(ops:List Oper)(i j:Nat):Bool:=!(i==j)&& !(ord ops i j)&& !(ord ops j i)
def zOE{κ:Type}[DecidableEq κ](a b:List κ):Bool:=a.all fun x=>!(b.contains x)
def zA7(ops:List Oper)(m:Nat):Bool:=
 zC2 ops&&ops.all (fun o=>o.dst.all (fun d=>decide (d<m)))&&
 ops.zipIdx.all fun x=>ops.zipIdx.all fun y=>!zET ops x.2 y.2||zOE x.1.dst.toList (looks ops y.1)
def zIF(r:Option Res):List Nm:=match r with|some r=>r.rd|none=>[]
def zFa(ops:List Oper)(fps:List (List Nm×List Nm)):Bool:=
 fps.zipIdx.all fun x=>fps.zipIdx.all fun y=>!zET ops x.2 y.2||zOE x.1.2 (y.1.1++y.1.2)
def zDE(r:Option Res):List Nm×List Nm:=(zIF r,keys (hw r))
theorem TRelF.putR{w:World}{Z:Nat→Prop}{E:Env}{f:Nat→Option PV}{m:Nat}{a:Act}(h:TRelF w Z E f m a.tmps){o:Oper}{r:Option Res}{v':Value}(hv:VR w Z E (match r with|some r=>r.v|none=>zAN) v')(hd:∀x,o.dst=some x→x<m):
  TRelF w Z E (zAX f (tw o r)) m (a.put o.dst v').tmps:=by
 unfold tw;cases hdo:o.dst with
 |none=>exact h
 |some d=>
  refine ⟨by simp[Act.put,h.size],fun i u hu=>?_⟩;simp only[zAX]at hu;simp only[Act.put];rw[Array.getElem?_setIfInBounds];split at hu
  ·rename_i hi;subst hi;injection hu with hu;subst hu;exact ⟨v',by simp[h.size,hd i hdo],hv⟩
  ·rename_i hi;rw[if_neg (fun e=>hi e.symm)];exact h.val i u hu
theorem zBu{w:World}{Z:Nat→Prop}{E:Env}{ops:List Oper}{f:Nat→Option PV}{m:Nat}{a:Act}(hT:TRelF w Z E f m a.tmps){o:Oper}{j:Nat}{want b:Bool}(hg:o.guard=some (j,want))(hb:zAq ops f j=some (.bool b)):
  Region.wanted o (yielded ops.toArray a.tmps)=(b==want):=by
 unfold zAq at hb;cases hoj:ops[j]? with
 |none=>rw[hoj]at hb;cases hb
 | some oj=>
  rw[hoj]at hb;simp only at hb;cases hd:oj.dst with
  |none=>rw[hd]at hb;cases hb
  |some d=>
   rw[hd]at hb;simp only at hb;obtain ⟨v',h1,h2⟩:=hT.val d _ hb;simp only[VR]at h2;subst h2;simp[Region.wanted,hg,yielded,hoj,hd,h1]
theorem zFb{w:World}{Z:Nat→Prop}{E:Env}{ops:List Oper}{f:Nat→Option PV}{m:Nat}{a:Act}(hT:TRelF w Z E f m a.tmps){o:Oper}{j:Nat}{want:Bool}(hg:o.guard=some (j,want))(hb:Off (zAq ops f j) want):
  Region.wanted o (yielded ops.toArray a.tmps)=false:=by
 rcases hb with hb|hb
 ·rw[zBu hT hg hb];cases want<;>rfl
 unfold zAq at hb;cases hoj:ops[j]? with
 |none=>rw[hoj]at hb;cases hb
 | some oj=>
  rw[hoj]at hb;simp only at hb;cases hd:oj.dst with
  |none=>rw[hd]at hb;cases hb
  |some d=>
   rw[hd]at hb;simp only at hb;obtain ⟨v',h1,h2⟩:=hT.val d _ hb;simp only[zAN,VR,VRl]at h2;obtain ⟨_,rfl,rfl⟩:=h2;simp[Region.wanted,hg,yielded,hoj,hd,h1]
theorem zKg{ops:List Oper}(hE:zC2 ops=true):∀(j i:Nat),ord ops i j=true→i<j:=by
 have hdown:=fun j k (hd:zC1 ops j k)=>zCE hE hd
 have hspec:=zGr ops ops [] [] rfl rfl (by simp) (by simp) hdown;intro j;induction j using Nat.strongRecOn with
 |_ j ih=>
  intro i hi;obtain ⟨k,h1,h2⟩:=hspec j i hi;have:=hdown j k h1;rcases h2 with rfl|h2;·exact this
  ·have:=ih k this i h2;omega
theorem zC3{κ:Type}[DecidableEq κ]{a b:List κ}(h:zOE a b=true){x:κ}(ha:x∈a)(hb:x∈b):False:=by
 unfold zOE at h;rw[wK]at h;have:=h x ha;simp[hb]at this
theorem zBF{ops:List Oper}{m:Nat}(h:zA7 ops m=true):zC2 ops=true∧(∀o∈ops,∀d,o.dst=some d→d<m)∧
  ∀i j oi oj,ops[i]?=some oi→ops[j]?=some oj→zET ops i j=true→∀d,oi.dst=some d→d∈looks ops oj→False:=by
 unfold zA7 at h;simp only[zC]at h;obtain ⟨⟨h1,h2⟩,h3⟩:=h;refine ⟨h1,?_,?_⟩
 ·intro o ho d hd;rw[wK]at h2;have:=h2 o ho;rw[hd]at this;simpa using this
 ·intro i j oi oj hi hj hu d hd hl;rw[wK]at h3;have h4:=h3 (oi,i) (by rw[uL];exact hi);rw[wK]at h4;have h5:=h4 (oj,j) (by rw[uL];exact hj);simp only[hu,zT,Bool.false_or]at h5;exact zC3 h5 (by simp[hd]) hl
def DynOk(ops:List Oper)(rs:List (Option Res)):Prop:=
 ∀(i j:Nat) (ri rj:Option Res),rs[i]?=some ri→rs[j]?=some rj→zET ops i j=true→∀k,k∈keys (hw ri)→(k∈zIF rj∨k∈keys (hw rj))→False
theorem zFc{ops:List Oper}{rs:List (Option Res)}(h:DynOk ops rs){i j:Nat}{ri rj:Option Res}(hi:rs[i]?=some ri)(hj:rs[j]?=some rj)(hu:zET ops i j=true){k:Nm}
  (hk:k∈keys (hw ri))(hl:k∈zIF rj∨k∈keys (hw rj)):False:=h i j ri rj hi hj hu k hk hl
def zIy(ops:List Oper)(rs:List (Option Res))(X:Option (Nat×Nat)):Prop:=
 (∀(i j:Nat) (ri rj:Option Res),rs[i]?=some ri→rs[j]?=some rj→zET ops i j=true→∀k,k∈keys (hw ri)→((k∈zIF rj→X=some (i,j))∧k∉keys (hw rj)))∧
 ∀i0 j0,X=some (i0,j0)→i0<j0∧∀q rq rj,i0<q→q<j0→rs[q]?=some rq→rs[j0]?=some rj→∀k,k∈keys (hw rq)→k∉zIF rj
theorem DynOk.x{ops:List Oper}{rs:List (Option Res)}(h:DynOk ops rs):zIy ops rs none:=
 ⟨fun i j ri rj hi hj hu k hk=>⟨fun hl=>(h i j ri rj hi hj hu k hk (.inl hl)).elim,fun hl=>h i j ri rj hi hj hu k hk (.inr hl)⟩,fun _ _ h=>by cases h⟩
theorem zFd:∀{l:List Oper} {rs:List (Option Res)} {q:Nat} {x:List (Nat×PV)},(twL l rs)[q]?=some x→∃o r,l[q]?=some o∧rs[q]?=some r∧x=tw o r
 | [],rs,q,x,h=>by simp[twL]at h
 |o::l,[],q,x,h=>by simp[twL]at h
 | o::l,r::rs,q,x,h=>by
  cases q with
  |zero=>simp[twL]at h;exact ⟨o,r,by simp,by simp,h.symm⟩
  |succ q=>
   simp only[twL,List.getElem?_cons_succ]at h;obtain ⟨o',r',h1,h2,h3⟩:=zFd h;exact ⟨o',r',by simpa using h1,by simpa using h2,h3⟩
theorem zIG:∀{l:List Oper} {rs:List (Option Res)} {q:Nat} {o:Oper} {r:Option Res},l[q]?=some o→rs[q]?=some r→(twL l rs)[q]?=some (tw o r)
 | [],_,_,_,_,h,_=>by simp at h
 |_::_,[],_,_,_,_,h=>by simp at h
 |a::l,b::rs,q,o,r,h1,h2=>by
  cases q with
  |zero=>simp at h1 h2;subst h1;subst h2;rfl
  |succ q=>simp only[twL,List.getElem?_cons_succ];exact zIG (by simpa using h1) (by simpa using h2)
theorem zFe{o:Oper}{r:Option Res}{k:Nat}(h:k∈keys (tw o r)):o.dst=some k:=by
 unfold tw at h;cases hd:o.dst with
 |none=>rw[hd]at h;cases h
 |some d=>rw[hd]at h;simp[keys]at h;rw[h]
section
variable {P : Program} {E0 : Env} {F0 : SF} {w0 : World}
structure DInv (E0:Env) (F0:SF) (w0:World) (lev:Nat) (ls:List Nat) (ez m:Nat) (ds:List Deferred) (ops:List Oper) (rs:List (Option Res)) (f0:Nat→Option PV) (G0:SF) (L:Nat→Bool) (E:Env) (a:Act) (w:World):Prop where
 step:StepR E0 F0 w0 E (zA4 L 0 (rs.map hw) G0) w
 tmps:TRelF w (Zn E (zA4 L 0 (rs.map hw) G0) w) E (zA4 L 0 (twL ops rs) f0) m a.tmps
 defers:a.defers=ds
 fresh:∀k,lo ls ez 0≤k→k<ez→E ⟨lev,k⟩≠none→∃i,L i=true∧lo ls ez i≤k∧k<lo ls ez (i+1)
 news:∀n,E0 n=none→E n≠none→n.l=lev∧lo ls ez 0≤n.i∧n.i<ez
 deep:∀n:Nm,lev<n.l→E n=none
theorem OpFact.congr{P:Program}{ρ:Operand→Option PV}{F F':SF}{L nx top:Nat}{o:Oper}{r:Res}(h:OpFact P ρ F L nx top o r)(hF:∀n∈r.rd,F' n=F n):OpFact P ρ F' L nx top o r:=
 ⟨h.1,h.2.1,fun ρ2 F2 hρ2 hF2=>h.2.2 ρ2 F2 hρ2 fun n hn=>(hF2 n hn).trans (hF n hn)⟩
def XFact(P:Program)(ops:List Oper)(lev:Nat)(t0:Nat→Option PV)(H0:SF)(rs:List (Option Res))(ls:List Nat)(ez:Nat)(X:Option (Nat×Nat)):Prop:=
 ∀i0 j0,X=some (i0,j0)→∀(o:Oper) (r:Res),ops[j0]?=some o→rs[j0]?=some (some r)→OpFact P (zDi (zA4 (fun q=>decide (q<j0)) 0 (twL ops rs) t0)) (zA4 (fun q=>decide (q<i0)) 0 (rs.map hw) H0) lev (lo ls ez j0) (lo ls ez (j0+1)) o r
theorem XFact.none{P:Program}{ops:List Oper}{lev:Nat}{t0:Nat→Option PV}{H0:SF}{rs:List (Option Res)}{ls:List Nat}{ez:Nat}:XFact P ops lev t0 H0 rs ls ez .none:=fun _ _ h=>by cases h
theorem zMP{ops:List Oper}{lev ez base m:Nat}{ds:List Deferred}{ro:Option Nat}{n:Nat}{Q:Exit→Act→World→Prop}{t0 tz:Nat→Option PV}{H0 Hz:SF}{rs:List (Option Res)}{ls:List Nat}
  (hTr:Tr P ops lev m ops t0 H0 base rs ls tz Hz ez)(hst:zA7 ops m=true){X:Option (Nat×Nat)}(hdy:zIy ops rs X)(hX:XFact P ops lev t0 H0 rs ls ez X){L L':Nat→Bool}{E:Env}{a:Act}{w:World}{j:Nat}{o:Oper}
  (hInv:DInv E0 F0 w0 lev ls ez m ds ops rs t0 H0 L E a w)(hcl:∀q k,L q=true→zC1 ops q k→L k=true)(hpre:∀k,zC1 ops j k→L k=true)(hoj:ops[j]?=some o)(hLj:L j=false)
  (hL'j:L' j=true)(hL':∀i,i≠j→L' i=L i){K:Act→World→Prop}(hK:∀E' a' w',DInv E0 F0 w0 lev ls ez m ds ops rs t0 H0 L' E' a' w'→K a' w'):
  wpOpIn (W ro) n P ops.toArray Q j K a w:=by
 obtain ⟨s1,s2,s3⟩:=zBF hst;obtain ⟨hlen,_,_,hat⟩:=zRI (i:=0) hTr;obtain ⟨hls,_,hmon⟩:=zJv hTr;have hez:lo ls ez ops.length=ez:=by simp[lo,←hls]
 have hjz:lo ls ez (j+1)≤ez:=by have:=zCQ hmon (show j+1≤ops.length from zAB hoj);rw[hez]at this;exact this
 simp only[zP]at hat;have hjl:=zAB hoj;obtain ⟨r,hrj⟩:∃r,rs[j]?=some r:=⟨_,zS (by omega)⟩;have hd:∀x,o.dst=some x→x<m:=s2 o (zO hoj);have hordj:∀i,ord ops i j=true→L i=true:=zEB s1 hcl j hpre;have hordq:∀q i,L q=true→ord ops i q=true→L i=true:=fun q i hq=>zEB s1 hcl q (fun k hk=>hcl q k hq hk) i
 have hun1:∀q,j<q→L q=true→zET ops q j=true:=by
  intro q hq hL;have h1:ord ops q j=false:=by
   cases h:ord ops q j with
   |false=>rfl
   |true=>have:=zKg s1 j q h;omega
  have h2:ord ops j q=false:=by
   cases h:ord ops j q with
   |false=>rfl
   |true=>have:=hordq q j hL h;rw[hLj]at this;cases this
  simp[zET,h1,h2];omega
 have hun2:∀q,q<j→L q=false→zET ops q j=true:=by
  intro q hq hL;have h1:ord ops j q=false:=by
   cases h:ord ops j q with
   |false=>rfl
   |true=>have:=zKg s1 q j h;omega
  have h2:ord ops q j=false:=by
   cases h:ord ops q j with
   |false=>rfl
   |true=>have:=hordj q h;rw[hL]at this;cases this
  simp[zET,h1,h2];omega
 have hslot:∀k,k∈looks ops o→zA4 L 0 (twL ops rs) t0 k=zA4 (fun q=>decide (q<j)) 0 (twL ops rs) t0 k:=by
  intro k hk;refine zBZ _ rfl ?_;intro q x hx hkx;simp only[zP];obtain ⟨oq,rq,h1,h2,rfl⟩:=zFd hx;have hdq:=zFe hkx;rcases uZ q j with hq|hq|hq
  ·have:L q=true:=by
    cases h:L q with
    |true=>rfl
    |false=>exact (s3 q j oq o h1 hoj (hun2 q hq h) k hdq hk).elim
   simp[this,hq]
  ·subst hq;simp[hLj]
  ·have:L q=false:=by
    cases h:L q with
    |false=>rfl
    |true=>exact (s3 q j oq o h1 hoj (hun1 q hq h) k hdq hk).elim
   simp[this];omega
 have hname:(X=none∨(∀i,X≠some (i,j))∨∃i,X=some (i,j)∧L i=true)→∀k:Nm,k∈zIF r→zA4 L 0 (rs.map hw) H0 k=zA4 (fun q=>decide (q<j)) 0 (rs.map hw) H0 k:=by
  intro hx k hk;refine zBZ _ rfl ?_;intro q x hx' hkx;simp only[zP];rw[wE]at hx';cases hrq:rs[q]? with
  |none=>rw[hrq]at hx';cases hx'
  | some rq=>
   rw[hrq]at hx';simp only[wJ,zZ]at hx';subst hx';rcases uZ q j with hq|hq|hq
   ·have:L q=true:=by
     cases h:L q with
     |true=>rfl
     |false=>
      have hX':=(hdy.1 q j rq r hrq hrj (hun2 q hq h) k hkx).1 hk;rcases hx with hx|hx|⟨i,hx,hi⟩;·rw[hx]at hX';cases hX'
      ·exact absurd hX' (hx q)
      ·rw[hx]at hX';injection hX' with hX';injection hX' with e _;subst e;rw[h]at hi;cases hi
    simp[this,hq]
   ·subst hq;simp[hLj]
   ·have:L q=false:=by
     cases h:L q with
     |false=>rfl
     |true=>
      have hX':=(hdy.1 q j rq r hrq hrj (hun1 q hq h) k hkx).1 hk;have:=(hdy.2 q j hX').1;omega
    simp[this];omega
 have hname2:∀i0,X=some (i0,j)→L i0=false→∀k:Nm,k∈zIF r→zA4 L 0 (rs.map hw) H0 k=zA4 (fun q=>decide (q<i0)) 0 (rs.map hw) H0 k:=by
  intro i0 hx hi0 k hk;obtain ⟨hlt,hmid⟩:=hdy.2 i0 j hx;refine zBZ _ rfl ?_;intro q x hx' hkx;simp only[zP];rw[wE]at hx';cases hrq:rs[q]? with
  |none=>rw[hrq]at hx';cases hx'
  | some rq=>
   rw[hrq]at hx';simp only[wJ,zZ]at hx';subst hx';rcases uZ q i0 with hq|hq|hq
   ·have:L q=true:=by
     cases h:L q with
     |true=>rfl
     |false=>
      have hX':=(hdy.1 q j rq r hrq hrj (hun2 q (by omega) h) k hkx).1 hk;rw[hx]at hX';injection hX' with hX';injection hX' with e _;omega
    simp[this,hq]
   ·subst hq;simp[hi0]
   ·rcases uZ q j with hq2|hq2|hq2;·exact absurd hk (hmid q rq r hq hq2 hrq hrj k hkx)
    ·subst hq2;simp[hLj];omega
    ·have:L q=false:=by
      cases h:L q with
      |false=>rfl
      |true=>
       have hX':=(hdy.1 q j rq r hrq hrj (hun1 q hq2 h) k hkx).1 hk;have:=(hdy.2 q j hX').1;omega
     simp[this];omega
 have hinsT:zA4 L' 0 (twL ops rs) t0=zAX (zA4 L 0 (twL ops rs) t0) (tw o r):=by
  refine zDR (zIG hoj hrj) hL'j hL' ?_;intro q y hq hy hLq k hk hky;obtain ⟨oq,rq,h1,_,rfl⟩:=zFd hy;exact s3 q j oq o h1 hoj (hun1 q hq hLq) k (zFe hky) (by simp[looks,zFe hk])
 have hinsH:zA4 L' 0 (rs.map hw) H0=zAX (zA4 L 0 (rs.map hw) H0) (hw r):=by
  refine zDR (by simp[hrj]) hL'j hL' ?_;intro q y hq hy hLq k hk hky;rw[wE]at hy;cases hrq:rs[q]? with
  |none=>rw[hrq]at hy;cases hy
  |some rq=>
   rw[hrq]at hy;simp only[wJ,zZ]at hy;subst hy;exact (hdy.1 q j rq r hrq hrj (hun1 q hq hLq) k hky).2 hk
 have hguard:∀q want,o.guard=some (q,want)→zAq ops (zA4 L 0 (twL ops rs) t0) q=zAq ops (zA4 (fun q=>decide (q<j)) 0 (twL ops rs) t0) q:=by
  intro q want hg;unfold zAq;cases hoq:ops[q]? with
  |none=>rfl
  | some oq=>
   simp only;cases hdq:oq.dst with
   |none=>rfl
   |some d=>
    simp only;exact hslot d (by simp[looks,hg,hoq,hdq])
 have hfr:∀k,lo ls ez j≤k→k<lo ls ez (j+1)→E ⟨lev,k⟩=none:=by
  intro k h1 h2;cases hek:E ⟨lev,k⟩ with
  |none=>rfl
  | some x=>
   obtain ⟨i,hi,h3,h4⟩:=hInv.fresh k (vP (zCQ hmon (uM j)) h1) (by omega) (by rw[hek];simp);have:i=j:=by
    rcases uZ i j with hl|hl|hl;·have:=zCQ hmon (show i+1≤j from hl);omega
    ·exact hl
    ·have:=zCQ hmon (show j+1≤i from hl);omega
   subst this;rw[hLj]at hi;cases hi
 have hdef:∀v,(a.put o.dst v).defers=ds:=by intro v;cases hdd:o.dst<;>simp[Act.put,hInv.defers]
 have hfresh':∀E':Env,(∀n,E n=none→E' n≠none→n.l=lev∧lo ls ez j≤n.i∧n.i<lo ls ez (j+1))→∀k,lo ls ez 0≤k→k<ez→E' ⟨lev,k⟩≠none→∃i,L' i=true∧lo ls ez i≤k∧k<lo ls ez (i+1):=by
  intro E' hF k hk hkz hne;cases hek:E ⟨lev,k⟩ with
  |none=>
   obtain ⟨_,h1,h2⟩:=hF ⟨lev,k⟩ hek hne;exact ⟨j,hL'j,h1,h2⟩
  |some x=>
   obtain ⟨i,hi,h3⟩:=hInv.fresh k hk hkz (by rw[hek];simp);refine ⟨i,?_,h3⟩;by_cases hij:i=j;·rw[hij];exact hL'j
   ·rw[hL' i hij];exact hi
 have hnews':∀E':Env,(∀n,E n=none→E' n≠none→n.l=lev∧lo ls ez j≤n.i∧n.i<lo ls ez (j+1))→∀n,E0 n=none→E' n≠none→n.l=lev∧lo ls ez 0≤n.i∧n.i<ez:=by
  intro E' hF k hk hne;cases hek:E k with
  |none=>
   obtain ⟨h0,h1,h2⟩:=hF k hek hne;have:=zCQ hmon (uM j);exact ⟨h0,by omega,by omega⟩
  |some x=>exact hInv.news k hk (by rw[hek];simp)
 have hdeep':∀E':Env,(∀n,E n=none→E' n≠none→n.l=lev∧lo ls ez j≤n.i∧n.i<lo ls ez (j+1))→∀n:Nm,lev<n.l→E' n=none:=by
  intro E' hF n hn;cases he:E' n with
  |none=>rfl
  |some x=>have:=(hF n (hInv.deep n hn) (by rw[he];simp)).1;omega
 unfold wpOpIn;rw[wR,hoj];simp only;have hj:=hat j o r hoj hrj;cases r with
 | some r=>
  simp only at hj;obtain ⟨hfact,hg⟩:=hj;have hfact:OpFact P (zDi (zA4 (fun q=>decide (q<j)) 0 (twL ops rs) t0)) (zA4 L 0 (rs.map hw) H0) lev (lo ls ez j) (lo ls ez (j+1)) o r:=by
   by_cases hx:∃i0,X=some (i0,j)∧L i0=false
   ·obtain ⟨i0,hx,hi0⟩:=hx;exact (hX i0 j hx o r hoj hrj).congr (hname2 i0 hx hi0)
   ·refine hfact.congr (hname ?_);by_cases hy:∃i0,X=some (i0,j)
    ·obtain ⟨i0,hy⟩:=hy;refine .inr (.inr ⟨i0,hy,?_⟩);cases h:L i0 with
     |true=>rfl
     |false=>exact absurd ⟨i0,hy,h⟩ hx
    ·exact .inr (.inl fun i h=>hy ⟨i,h⟩)
  obtain ⟨hnd,_,hs⟩:=hfact;have hw':Region.wanted o (yielded ops.toArray a.tmps)=true:=by
   cases hgd:o.guard with
   |none=>simp[Region.wanted,hgd]
   |some jw=>
    obtain ⟨q,want⟩:=jw;rw[zBu hInv.tmps hgd (by rw[hguard q want hgd];exact hg q want hgd)];simp
  rw[if_pos hw'];refine ⟨fun _ _=>trivial,?_⟩;rw[Oper.semAt_eq (W ro).round a.eval o hnd];have hL:=hs (zDi (zA4 L 0 (twL ops rs) t0)) (zA4 L 0 (rs.map hw) H0) (fun x hx=>by
    cases x with
    |tmp i=>exact hslot i (by simp only[looks,zKf,vS,List.mem_filterMap];exact .inl (.inr ⟨.tmp i,hx,rfl⟩))
    |_=>rfl) (fun k hk=>rfl) E w a.eval hInv.step.rel hfr hInv.deep hInv.tmps.eval
  refine zEC hL ?_
  rintro v w' ⟨E',hv',hstep,hfi⟩
  rw[zA6]at hstep hv';refine hK E' _ w' ⟨?_,?_,hdef v,hfresh' E' hfi,hnews' E' hfi,hdeep' E' hfi⟩;·rw[hinsH];exact hInv.step.trans hstep
  ·rw[hinsT,hinsH];exact (hInv.tmps.mono hstep.ext).putR (r:=some r) hv' hd
 | none=>
  simp only at hj;obtain ⟨q,want,hg,hb⟩:=hj;have hw':Region.wanted o (yielded ops.toArray a.tmps)=false:=by
   exact zFb hInv.tmps hg (by rw[hguard q want hg];exact hb)
  rw[hw'];simp only[wC,if_false];refine ⟨fun _ _=>trivial,hK E _ w ⟨?_,?_,hdef undef,hfresh' E (fun k h1 h2=>absurd h1 h2),hInv.news,hInv.deep⟩⟩;·rw[hinsH];exact hInv.step
  ·rw[hinsT,hinsH];exact hInv.tmps.putR (r:=none) zBr hd
theorem zGs{p p':Nat→Bool}:∀{l:List Nat},(∀x∈l,p' x=true→p x=true)→∀{j:Nat},j∈l→p j=true→p' j=false→l.countP p'<l.countP p
 | [],_,j,hj,_,_=>by cases hj
 | x::l,h,j,hj,h1,h2=>by
  have hle:∀{l:List Nat},(∀x∈l,p' x=true→p x=true)→l.countP p'≤l.countP p:=fun h=>List.countP_mono_left h
  simp only[List.countP_cons];rcases List.mem_cons.1 hj with rfl|hj
  ·have:=hle (l:=l) (fun y hy=>h y (by simp[hy]));simp[h1,h2];omega
  ·have:=zGs (fun y hy=>h y (by simp[hy])) hj h1 h2;have hx:=h x (by simp);cases hp':p' x with
   |false=>simp;split<;>omega
   |true=>simp[hx hp'];omega
theorem zPs{ops:List Oper}{lev ez base m:Nat}{ds:List Deferred}{ro:Option Nat}{n:Nat}{Q:Exit→Act→World→Prop}{t0 tz:Nat→Option PV}{H0 Hz:SF}{rs:List (Option Res)}{ls:List Nat}
  (hTr:Tr P ops lev m ops t0 H0 base rs ls tz Hz ez)(hst:zA7 ops m=true){X:Option (Nat×Nat)}(hdy:zIy ops rs X)(hX:XFact P ops lev t0 H0 rs ls ez X)
  (hQ:∀E a w,StepR E0 F0 w0 E Hz w→TRelF w (Zn E Hz w) E tz m a.tmps→a.defers=ds→(∀n,E0 n=none→E n≠none→n.l=lev∧base≤n.i∧n.i<ez)→Q .normal a w):
  ∀(fuel:Nat) (listed:Array Bool) (E:Env) (a:Act) (w:World),listed.size=ops.length→(List.range ops.length).countP (fun i=>!listed.getD i false)≤fuel→
   (∀q k,listed.getD q false=true→zC1 ops q k→listed.getD k false=true)→DInv E0 F0 w0 lev ls ez m ds ops rs t0 H0 (fun i=>listed.getD i false) E a w→
   wpAnyIn (W ro) n P .any ops.toArray Q fuel listed a w:=by
 obtain ⟨s1,s2,_⟩:=zBF hst;obtain ⟨hlen,hz1,hz3,_⟩:=zRI (i:=0) hTr;obtain ⟨hls,hlo0,hmon⟩:=zJv hTr;have hend:∀(listed:Array Bool) (E:Env) (a:Act) (w:World),(∀i,i<ops.length→listed.getD i false=true)→DInv E0 F0 w0 lev ls ez m ds ops rs t0 H0 (fun i=>listed.getD i false) E a w→(∀i,listed.getD i false=true→i<ops.length)→Q .normal a w:=by
  intro listed E a w hall hI hb;have e1:zA4 (fun i=>listed.getD i false) 0 (twL ops rs) t0=tz:=by
   rw[hz1];funext k;refine zBZ _ rfl ?_;intro q x hx _;obtain ⟨o,r,h1,_,_⟩:=zFd hx;simp only[zP];exact hall q (zAB h1)
  have e2:zA4 (fun i=>listed.getD i false) 0 (rs.map hw) H0=Hz:=by
   rw[hz3];funext k;refine zBZ _ rfl ?_;intro q x hx _;have:=zAB hx;simp only[zG]at this;simp only[zP];exact hall q (by omega)
  refine hQ E a w (by rw[←e2];exact hI.step) (by rw[←e1,←e2];exact hI.tmps) hI.defers ?_;rw[←hlo0];exact hI.news
 have hlt:∀(listed:Array Bool),listed.size=ops.length→∀i,listed.getD i false=true→i<ops.length:=by
  intro listed hs i hi;rcases wT i listed.size with h|h;·omega
  ·simp[Array.getD,Nat.not_lt.2 h]at hi
 have hready:∀(listed:Array Bool),listed.size=ops.length→Region.ready .any ops.toArray listed=[]→∀i,i<ops.length→listed.getD i false=true:=by
  intro listed hs hr i;induction i using Nat.strongRecOn with
  | _ i ih=>
   intro hi;cases hli:listed.getD i false with
   |true=>rfl
   | false=>
    exfalso;have:i∈Region.ready .any ops.toArray listed:=by
     rw[mem_ready];have ho:ops[i]?=some ops[i]:=zS hi;refine ⟨?_,ops[i],by simp[ho],?_⟩
     ·simp only[Array.getD]at hli ⊢;rw[dif_pos (by omega)]at hli ⊢;exact hli
     ·intro e he hb;have hd:zC1 ops i e.on:=⟨ops[i],ho,e,by simpa using he,hb,rfl⟩;have:=zCE s1 hd;exact ih e.on this (by omega)
    rw[hr]at this;cases this
 intro fuel;induction fuel with
 | zero=>
  intro listed E a w hs hc hcl hI;have hall:∀i,i<ops.length→listed.getD i false=true:=by
   intro i hi;cases hli:listed.getD i false with
   |true=>rfl
   |false=>
    have:0<(List.range ops.length).countP (fun i=>!listed.getD i false):=List.countP_pos_iff.2 ⟨i,by simpa using hi,by simp[hli]⟩;omega
  refine ⟨?_,hend listed E a w hall hI (hlt listed hs)⟩;apply List.eq_nil_iff_forall_not_mem.2;intro j hj;rw[mem_ready]at hj;obtain ⟨h1,o,h2,_⟩:=hj;rw[wR]at h2;have hjl:=zAB h2;have:=hall j hjl;simp only[Array.getD]at h1 this;rw[dif_pos (by omega)]at h1 this;rw[this]at h1;cases h1
 | succ fuel ih=>
  intro listed E a w hs hc hcl hI;refine ⟨fun hr=>hend listed E a w (hready listed hs hr) hI (hlt listed hs),?_⟩;intro j hj;rw[mem_ready]at hj;obtain ⟨h1,o,h2,h3⟩:=hj;rw[wR]at h2;have hjl:=zAB h2;have hLj:listed.getD j false=false:=by
   simp only[Array.getD]at h1 ⊢;rw[dif_pos (by omega)]at h1 ⊢;exact h1
  have hL'j:(listed.setIfInBounds j true).getD j false=true:=by
   simp only[Array.getD];rw[dif_pos (by simp;omega)];simp
  have hL':∀i,i≠j→(listed.setIfInBounds j true).getD i false=listed.getD i false:=fun i hi=>getD_set_ne false (fun e=>hi e.symm)
  have hpre:∀k,zC1 ops j k→listed.getD k false=true:=by
   rintro k ⟨o',ho',e,he,hb,rfl⟩
   rw[h2]at ho';injection ho' with ho';subst ho';exact h3 e (by simpa using he) hb
  refine zMP hTr hst hdy hX (L:=fun i=>listed.getD i false) (L':=fun i=>(listed.setIfInBounds j true).getD i false) hI hcl hpre h2 hLj hL'j hL' ?_;intro E' a' w' hI';refine ih _ E' a' w' (by simpa using hs) ?_ ?_ hI'
  ·have:=zGs (p:=fun i=>!listed.getD i false) (p':=fun i=>!(listed.setIfInBounds j true).getD i false) (l:=List.range ops.length) (fun x _ hx=>by
    by_cases hxj:x=j;·subst hxj;simp[hL'j]at hx
    ·simpa[hL' x hxj] using hx) (j:=j) (by simpa using hjl) (by simp[hLj]) (by simp[hL'j])
   omega
  ·intro q k hq hd;by_cases hqj:q=j
   ·subst hqj;have:=hpre k hd;by_cases hk:k=q;·rw[hk];exact hL'j
    ·rw[hL' k hk];exact this
   ·rw[hL' q hqj]at hq;by_cases hk:k=j;·rw[hk];exact hL'j
    ·rw[hL' k hk];exact hcl q k hq hd
end
end Go.Tx
end
section
namespace Go.Tx
mutual
def Wk(F:SF):PV→PV→Prop
 | .nilS,.fs wd rs=>rs=[]∧0<wd
 | .sl n r l,.fs wd rs=>match F n with|some (.rows _ wd' _ true rs')=>wd'=wd∧r+l≤rs'.length∧rs=(rs'.drop r).take l|_=>False
 | .mp n,.fm ks vs=>match F n with|some (.map _ true ks' vs')=>ks=ks'∧vs=vs'|_=>False
 | .agg l,.agg l'=>WkL F l l'
 | .tup l,.tup l'=>WkL F l l'
 | .ifc t v,.ifc t' v'=>t=t'∧Wk F v v'
 |x,y=>x=y
def WkL(F:SF):List PV→List PV→Prop
 | [],[]=>True
 |x::l,y::l'=>Wk F x y∧WkL F l l'
 |_,_=>False
end
mutual
def wkN:PV→PV→List Nm
 | .sl n _ _,.fs _ _=>[n]
 | .mp n,.fm _ _=>[n]
 | .agg l,.agg l'=>zAt l l'
 | .tup l,.tup l'=>zAt l l'
 | .ifc _ v,.ifc _ v'=>wkN v v'
 |_,_=>[]
def zAt:List PV→List PV→List Nm
 |x::l,y::l'=>wkN x y++zAt l l'
 |_,_=>[]
end
section
variable {P : Program} {E : Env} {F F' : SF} {w : World}
theorem zMQ(h:HRel E F w)(hs:SLe F' F){n:Nm}{b:SBlk}{i:BI}(hF:F n=some b)(hl:b.live=true)(hi:E n=some i)(hz:i.z=false)(hno:∀c,F' n=some c→c.own=false):Zn E F' w i.b:=by
 refine ⟨(h.blk n b hF).lt hl hi hz,fun m c j hm ho hj hjz he=>?_⟩;by_cases hmn:m=n;·subst hmn;rw[hno c hm]at ho;cases ho
 ·exact h.sep m n c b j i (hs.own hm ho) hF hmn ho hl hj hi hjz hz he
theorem zJw(h:HRel E F w)(hs:SLe F' F):∀(x y:PV) (v:Value),Wk F x y→(∀n∈wkN x y,∀c,F' n=some c→c.own=false)→VR w (Zn E F w) E x v→VR w (Zn E F' w) E y v:=by
  have hX:Ext E w (Zn E F w) E w (Zn E F' w):=(zUS h hs).ext;have same:∀(x y:PV) (v:Value),VR w (Zn E F w) E x v→x=y→VR w (Zn E F' w) E y v:=fun x y v hv e=>by subst e;exact VR.mono hX _ _ hv
  intro x;induction x using PV.rec (motive_3:=fun x=>∀(y:List PV) (v:List Value),WkL F x y→(∀n∈zAt x y,∀c,F' n=some c→c.own=false)→VRl w (Zn E F w) E x v→VRl w (Zn E F' w) E y v) (motive_2:=fun _=>True) with
  | nilS=>
    intro y v hw hno hv;cases y<;>simp only[Wk]at hw<;>first|exact same _ _ _ hv rfl|exact same _ _ _ hv hw|skip
    obtain ⟨rfl,h0⟩:=hw;simp only[VR]at hv ⊢;subst hv;exact ⟨none,0,rfl,zH _,by simp[maxLen],h0,by simp,.inl trivial⟩
  | sl n r l=>
    intro y v hw hno hv;cases y<;>simp only[Wk]at hw<;>first|exact same _ _ _ hv hw|skip
    rename_i wd rs;split at hw;rotate_left
    ·exact hw.elim
    rename_i e wd' own rs' hF;obtain ⟨rfl,hle,rfl⟩:=hw;simp only[VR]at hv ⊢;obtain ⟨i,hi,hor⟩:=hv;have hlen:((rs'.drop r).take l).length=l:=by simp;omega
    rcases hor with ⟨hz,rfl,rfl⟩|⟨hz,rfl⟩
    · obtain ⟨j,hj,hor⟩:=h.blk _ _ hF
      rw[hi]at hj;injection hj with hj;subst hj;rcases hor with ⟨_,rfl,q3,q4⟩|⟨q,_⟩
      ·exact ⟨i.za,0,by simp,by simp,by simp[maxLen],by omega,by simp,.inl (by simp)⟩
      ·rw[hz]at q;cases q
    · have hR:=zAJ h hF hi hz
      obtain ⟨cs,fz,b1,b2,b3,b4⟩:=hR.cells;have hl':∀row∈(rs'.drop r).take l,row.length=wd':=fun row hr=>hR.len row (uE (vR hr))
      have hle2:=hR.le;have hcap:=hR.cap;by_cases hl0:l=0
      ·exact ⟨_,i.n-r,by rw[hlen],by rw[hlen];omega,by omega,hR.wd_pos,hl',.inl (by simp[hl0])⟩
      rw[zDF (by omega)];refine ⟨some ⟨i.b,i.o+r*i.wd,none⟩,i.n-r,by rw[hlen],by rw[hlen];omega,by omega,hR.wd_pos,hl',.inr ⟨i.b,i.o+r*i.wd,cs,e,fz,rfl,?_,b1,?_⟩⟩
      ·exact zMQ h hs hF rfl hi hz (hno n (by simp[wkN]))
      · rw[hR.wd_eq]
        exact VRr.mono ⟨Env.le.refl _,hX.zone,hX.heap⟩ _ _ _ (VRr.drop hR.len b4)
  | mp n=>
    intro y v hw hno hv;cases y<;>simp only[Wk]at hw<;>first|exact same _ _ _ hv hw|skip
    rename_i ks vs;split at hw;rotate_left
    ·exact hw.elim
    rename_i own ks' vs' hF;obtain ⟨rfl,rfl⟩:=hw;simp only[VR]at hv ⊢;obtain ⟨i,hi,hz,rfl⟩:=hv;obtain ⟨j,hj,_,ents,clk,hb,hm⟩:=h.blk _ _ hF;rw[hi]at hj;injection hj with hj;subst hj;have hX0:Ext Env.no w (Zn E F w) Env.no w (Zn E F' w):=hX.no;exact ⟨i.b,ents,clk,rfl,zMQ h hs hF rfl hi hz (hno n (by simp[wkN])),hb,VRl.mono hX0 _ _ hm.1,VRl.mono hX0 _ _ hm.2⟩
  | agg l ih=>
    intro y v hw hno hv;cases y<;>simp only[Wk]at hw<;>first|exact same _ _ _ hv hw|skip
    simp only[VR]at hv ⊢;obtain ⟨l',rfl,h1,h2⟩:=hv;exact ⟨l',rfl,h1,ih _ l' hw (by simpa[wkN] using hno) h2⟩
  | tup l ih=>
    intro y v hw hno hv;cases y<;>simp only[Wk]at hw<;>first|exact same _ _ _ hv hw|skip
    simp only[VR]at hv ⊢;obtain ⟨l',rfl,h2⟩:=hv;exact ⟨l',rfl,ih _ l' hw (by simpa[wkN] using hno) h2⟩
  | ifc t u ih=>
    intro y v hw hno hv;cases y<;>simp only[Wk]at hw<;>first|exact same _ _ _ hv hw|skip
    obtain ⟨rfl,hw⟩:=hw;simp only[VR]at hv ⊢;obtain ⟨u',rfl,h2⟩:=hv;exact ⟨u',rfl,ih _ u' hw (by simpa[wkN] using hno) h2⟩
  | _=>
    first
    |trivial
    |(intro y v hw hno hv;cases y<;>simp only[Wk]at hw<;>first|exact same _ _ _ hv rfl|exact same _ _ _ hv hw)
    | (intro y v hw hno hv
       cases y with
       |nil=>simpa only[VRl] using hv
       |cons _ _=>simp only[WkL]at hw)
    | (rename_i x l ihx ihl
       intro y v hw hno hv;cases y with
       |nil=>simp only[WkL]at hw
       | cons y l'=>
         simp only[WkL]at hw;simp only[zAt,vS]at hno;simp only[VRl]at hv ⊢;obtain ⟨u,t,rfl,h1,h2⟩:=hv;exact ⟨u,t,rfl,ihx y u hw.1 (fun n hn=>hno n (.inl hn)) h1,ihl l' t hw.2 (fun n hn=>hno n (.inr hn)) h2⟩)
theorem zKh(h:HRel E F w)(hs:SLe F' F):∀(x y:List PV) (v:List Value),WkL F x y→(∀n∈zAt x y,∀c,F' n=some c→c.own=false)→VRl w (Zn E F w) E x v→VRl w (Zn E F' w) E y v
 | [],[],v,_,_,hv=>by simpa only[VRl] using hv
 |x::l,y::l',v,hw,hno,hv=>by
  simp only[WkL]at hw;simp only[zAt,vS]at hno;simp only[VRl]at hv ⊢;obtain ⟨u,t,rfl,h1,h2⟩:=hv;exact ⟨u,t,rfl,zJw h hs x y u hw.1 (fun n hn=>hno n (.inl hn)) h1,zKh h hs l l' t hw.2 (fun n hn=>hno n (.inr hn)) h2⟩
 | [],_::_,_,hw,_,_=>by simp[WkL]at hw
 |_::_,[],_,hw,_,_=>by simp[WkL]at hw
def unown(F:SF):List Nm→List (Nm×SBlk)
 | []=>[]
 |n::l=>(match F n with
  |some (.rows e wd true p rs)=>[(n,.rows e wd false p rs)]
  |some (.map true p ks vs)=>[(n,.map false p ks vs)]
  |_=>[])++unown F l
theorem zDu{F:SF}{m:Nm}{b:SBlk}:∀{l:List Nm},(m,b)∈unown F l→
  (∃e wd p rs,F m=some (.rows e wd true p rs)∧b= .rows e wd false p rs)∨(∃p ks vs,F m=some (.map true p ks vs)∧b= .map false p ks vs)
 | [],h=>by cases h
 | n::l,h=>by
  simp only[unown,vS]at h;rcases h with h|h
  ·split at h
   ·rename_i e wd p rs hF;simp only[qP,wL]at h;obtain ⟨rfl,rfl⟩:=h;exact .inl ⟨e,wd,p,rs,hF,rfl⟩
   ·rename_i p ks vs hF;simp only[qP,wL]at h;obtain ⟨rfl,rfl⟩:=h;exact .inr ⟨p,ks,vs,hF,rfl⟩
   ·cases h
  ·exact zDu h
theorem zBa{κ α:Type}[DecidableEq κ]:∀(l:List (κ×α)) (f:κ→Option α) (k:κ),zAX f l k=f k∨∃v,(k,v)∈l∧zAX f l k=some v
 | [],f,k=>.inl rfl
 | (n,v)::l,f,k=>by
  simp only[zAX];rcases zBa l (fun q=>if q=n then some v else f q) k with h|⟨u,h1,h2⟩
  ·rw[h];by_cases hk:k=n;·subst hk;simp only[if_true];exact .inr ⟨v,by simp,rfl⟩
   ·simp only[if_neg hk];exact .inl trivial
  ·exact .inr ⟨u,by simp[h1],h2⟩
theorem zED(F:SF)(l:List Nm):SLe (F.upd (unown F l)) F:=by
 intro n b hb;rw[zA6]at hb;rcases zBa (unown F l) F n with h|⟨v,h1,h2⟩;·rw[h]at hb;exact .inr (.inl hb)
 ·rw[h2]at hb;injection hb with hb;subst hb;exact .inr (.inr (zDu h1))
theorem zDv{F:SF}{l:List Nm}{n:Nm}(hn:n∈l){c:SBlk}(hc:(F.upd (unown F l)) n=some c):c.own=false:=by
 rw [zA6]at hc;have key:∀(l:List Nm),n∈l→(∃b,F n=some b∧b.own=true)→n∈keys (unown F l):=by
  intro l;induction l with
  |nil=>intro h;cases h
  | cons m l ih=>
   intro h hF;simp only[unown,keys,wQ,vS];rcases List.mem_cons.1 h with rfl|h
   ·obtain ⟨b,h1,h2⟩:=hF;left;rw[h1];cases b with
    |rows e wd own p rs=>simp only[SBlk.own]at h2;subst h2;simp
    |map own p ks vs=>simp only[SBlk.own]at h2;subst h2;simp
    |dead=>cases h2
    |cap _ _=>cases h2
   ·exact .inr (ih h hF)
 rcases zBa (unown F l) F n with h|⟨v,h1,h2⟩
 ·rw [h]at hc;cases ho:c.own with
  |false=>rfl
  | true=>
   have hk:=key l hn ⟨c,hc,ho⟩;have:∃v,(n,v)∈unown F l∧zAX F (unown F l) n=some v:=by
    have gen:∀(x:List (Nm×SBlk)) (f:SF),n∈keys x→∃v,(n,v)∈x∧zAX f x n=some v:=by
     intro x;induction x with
     |nil=>intro f h;cases h
     | cons a x ih=>
      intro f h;obtain ⟨m,u⟩:=a;simp only[zAX];by_cases hx:n∈keys x
      ·obtain ⟨v,q1,q2⟩:=ih (fun q=>if q=m then some u else f q) hx;exact ⟨v,by simp[q1],q2⟩
      ·simp only[keys,zL,wP]at h;rcases h with h|h;·subst h;exact ⟨u,by simp,by rw[zAc hx];simp⟩
       ·exact absurd h hx
    exact gen _ _ hk
   obtain ⟨v,q1,q2⟩:=this;rw[h,hc]at q2;injection q2 with q2;subst q2;rcases zDu q1 with ⟨_,_,_,_,_,rfl⟩|⟨_,_,_,_,rfl⟩<;>cases ho
 ·rw[h2]at hc;injection hc with hc;subst hc;rcases zDu h1 with ⟨_,_,_,_,_,rfl⟩|⟨_,_,_,_,rfl⟩<;>rfl
def zBH(E:Env)(F:SF)(w:World)(L nx top:Nat)(v:PV)(upd:List (Nm×SBlk))(v':Value)(w':World):Prop:=
 ∃E',VR w' (Zn E' (F.upd upd) w') E' v v'∧StepR E F w E' (F.upd upd) w'∧∀n,E n=none→E' n≠none→n.l=L∧nx≤n.i∧n.i<top
def Con(P:Program)(f:FuncId)(args:List PV)(F:SF)(L nx top:Nat)(v:PV)(upd:List (Nm×SBlk))(rd:List Nm):Prop:=
 nx≤top∧∀(F2:SF),(∀n∈rd,F2 n=F n)→∀(E:Env) (w:World) (args':List Value),HRel E F2 w→(∀k,nx≤k→k<top→E ⟨L,k⟩=none)→(∀n:Nm,L<n.l→E n=none)→
  VRl w (Zn E F2 w) E args args'→zES P (zBH E F2 w L nx top v upd) ((callFunc f args'.toArray).run P w)
theorem zIH{Z:Nat→Prop}{ρ:Operand→Option PV}{ρ':Operand→Value}(hρ:zJp w Z E ρ ρ'){o:Oper}{f:Operand}{args:Array Operand}{ats:Array TypeId}(ho:o.op= .call ⟨.value f,args,ats⟩)
  {g:FuncId}{fl cl asx:List PV}(hv:ρ f=some (.fn (.func g) fl cl))(has:vals ρ args.toList=some asx):
  ∃args',(execOp ρ' o).run P w=(callFunc g args'.toArray).run P w∧VRl w Z E (fl++asx++cl) args':=by
 have hd:=hρ _ _ hv;simp only[VR]at hd;obtain ⟨fl',cl',he,e1,e2⟩:=hd;have e3:=zDQ hρ has;refine ⟨fl'++args.toList.map ρ'++cl',?_,VRl.append (VRl.append e1 e3) e2⟩;unfold execOp;rw[ho];simp only[resolve,he,Deferred.ofValue,zB,zI,zD,invoke];congr 2;apply vG;simp
theorem zOG{F F2:SF}:∀(x y:PV),(∀n∈wkN x y,F2 n=F n)→Wk F x y→Wk F2 x y:=by
  intro x;induction x using PV.rec (motive_3:=fun l=>∀l',(∀n∈zAt l l',F2 n=F n)→WkL F l l'→WkL F2 l l') (motive_2:=fun _=>True) with
  |sl n r l=>intro y hn hw;cases y<;>simp only[Wk]at hw ⊢ <;>first|exact hw|(rw[hn n (by simp[wkN])];exact hw)
  |mp n=>intro y hn hw;cases y<;>simp only[Wk]at hw ⊢ <;>first|exact hw|(rw[hn n (by simp[wkN])];exact hw)
  |agg l ih=>intro y hn hw;cases y<;>simp only[Wk]at hw ⊢ <;>first|exact hw|exact ih _ (by simpa[wkN] using hn) hw
  |tup l ih=>intro y hn hw;cases y<;>simp only[Wk]at hw ⊢ <;>first|exact hw|exact ih _ (by simpa[wkN] using hn) hw
  |ifc t v ih=>intro y hn hw;cases y<;>simp only[Wk]at hw ⊢ <;>first|exact hw|exact ⟨hw.1,ih _ (by simpa[wkN] using hn) hw.2⟩
  | _=>
    first
    |trivial
    |(intro y hn hw;cases y<;>simp only[Wk]at hw ⊢ <;>exact hw)
    |(intro y hn hw;cases y<;>first|trivial|(simp only[Wk]at hw ⊢;done)|(simp only[Wk]at hw ⊢;exact hw))
    | (intro l' _ hw
       cases l' with
       |nil=>exact hw
       |cons _ _=>simp only[WkL]at hw)
    | (rename_i x l ihx ihl
       intro l' hn hw;cases l' with
       |nil=>simp only[WkL]at hw
       | cons y l'=>
         simp only[WkL]at hw ⊢;simp only[zAt,vS]at hn;exact ⟨ihx y (fun n hn'=>hn n (.inl hn')) hw.1,ihl l' (fun n hn'=>hn n (.inr hn')) hw.2⟩)
theorem zLW{F F2:SF}:∀(l l':List PV),(∀n∈zAt l l',F2 n=F n)→WkL F l l'→WkL F2 l l':=by
 intro l;induction l with
 |nil=>
  intro l' _ hw;cases l' with
  |nil=>exact hw
  |cons _ _=>simp only[WkL]at hw
 | cons x l ih=>
  intro l' hn hw;cases l' with
  |nil=>simp only[WkL]at hw
  |cons y l'=>
   simp only[WkL]at hw ⊢;simp only[zAt,vS]at hn;exact ⟨zOG x y (fun n hn'=>hn n (.inl hn')) hw.1,ih l' (fun n hn'=>hn n (.inr hn')) hw.2⟩
theorem zE7{F F2:SF}{l l':List PV}(h:WkL F l l')(hn:∀n∈zAt l l',F2 n=F n):WkL F2 l l':=zLW l l' hn h
def zHj(P:Program)(ρ:Operand→Option PV)(o:Oper)(f:FuncId)(asx:List PV):Prop:=
 (∀c,o.op≠ .defer c)∧∀(ρ2:Operand→Option PV),(∀x∈o.op.operands,ρ2 x=ρ x)→∀(E:Env) (w:World) (Z:Nat→Prop) (ρ':Operand→Value),zJp w Z E ρ2 ρ'→
  ∃args',(execOp ρ' o).run P w=(callFunc f args'.toArray).run P w∧VRl w Z E asx args'
theorem zCi{ρ:Operand→Option PV}{o:Oper}{fo:Operand}{args:Array Operand}{ats:Array TypeId}(ho:o.op= .call ⟨.value fo,args,ats⟩){f:FuncId}{xs ys asx:List PV}
  (hv:ρ fo=some (.fn (.func f) xs ys))(has:vals ρ args.toList=some asx):zHj P ρ o f (xs++asx++ys):=by
 refine ⟨(by rw[ho];intro c hc;cases hc),fun ρ2 hρ2 E w Z ρ' hρ=>?_⟩;rw[ho]at hρ2;simp only[Op.operands,Call.operands]at hρ2;exact zIH (P:=P) hρ ho (by rw[hρ2 fo (by simp)];exact hv) (by rw[zCz (fun x hx=>hρ2 x (by simp;exact .inr (by simpa using hx)))];exact has)
abbrev Meths:=List (TypeId×String×FuncId)
def Meths.get(ms:Meths)(t:TypeId)(n:String):Option FuncId:=
 match ms with
 | []=>none
 |(t',n',f)::l=>if t'=t∧n'=n then some f else Meths.get l t n
def Meths.Ok(P:Program)(ms:Meths):Prop:=∀t n f,ms.get t n=some f→∀(v:Value) (w:World),(method (P.types.size+Made.depth) t v n).run P w= .ok (f,v) w
theorem zDS{ms:Meths}(hms:ms.Ok P){ρ:Operand→Option PV}{o:Oper}{x:Operand}{name:String}{args:Array Operand}{ats:Array TypeId}(ho:o.op= .call ⟨.invoke x name,args,ats⟩)
  {t:TypeId}{v:PV}{asx:List PV}{g:FuncId}(hv:ρ x=some (.ifc t v))(has:vals ρ args.toList=some asx)(hg:ms.get t name=some g):zHj P ρ o g (v::asx):=by
 refine ⟨(by rw[ho];intro c hc;cases hc),fun ρ2 hρ2 E w Z ρ' hρ=>?_⟩;rw[ho]at hρ2;simp only[Op.operands,Call.operands]at hρ2;have hv2:ρ2 x=some (.ifc t v):=by rw[hρ2 x (by simp)];exact hv
 have has2:vals ρ2 args.toList=some asx:=by rw[zCz (fun x hx=>hρ2 x (by simp;exact .inr (by simpa using hx)))];exact has
 have hd:=hρ _ _ hv2;simp only[VR]at hd;obtain ⟨v',he,e1⟩:=hd;have e3:=zDQ hρ has2;refine ⟨v'::args.toList.map ρ',?_,by simp only[VRl];exact ⟨_,_,rfl,e1,e3⟩⟩;unfold execOp;rw[ho];have hm:=hms t name g hg v' w;have hextr:(#[ρ' x]++args.map ρ').extract 1 (#[ρ' x]++args.map ρ').size=args.map ρ':=by
  apply vG;simp[zQ]
 have h0:(#[ρ' x]++args.map ρ')[0]?=some (ρ' x):=by
  rw[uR (by simp)];rfl
 have h1:∀r:Array Value,r[0]?=some (ρ' x)→r.extract 1 r.size=args.map ρ'→(invoke (.fn (.method name) #[]) r).run P w=(callFunc g (v'::args.toList.map ρ').toArray).run P w:=by
  intro r h0 h1;simp only[invoke,h0,h1,callMethod,he];simp only[program,zB,Sem.run,zD,hm];congr 2;apply vG;simp
 simp only[resolve,zB,zI,zD];exact h1 _ h0 hextr
theorem zGt{ρ:Operand→Option PV}{F:SF}{L nx top:Nat}{o:Oper}{f:FuncId}{asx args2:List PV}(ho:zHj P ρ o f asx)(hw:WkL F asx args2){v:PV}{upd:List (Nm×SBlk)}{rd:List Nm}
  (hc:Con P f args2 (F.upd (unown F (zAt asx args2))) L nx top v upd rd):
  OpFact P ρ F L nx top o ⟨True,v,unown F (zAt asx args2)++upd,zAt asx args2++rd⟩:=by
 generalize hns:zAt asx args2=ns at hc ⊢;refine ⟨ho.1,hc.1,fun ρ2 F2 hρ2 hF2 E w ρ' hR hfr hdp hρ=>?_⟩;obtain ⟨args',h1,h2⟩:=ho.2 ρ2 (fun x hx=>hρ2 x (by simpa using hx)) E w _ ρ' hρ;rw[h1];have hFn:∀n∈ns,F2 n=F n:=fun n hn=>hF2 n (by simp[hn])
 have hu:unown F2 ns=unown F ns:=by
  have:∀l:List Nm,(∀n∈l,F2 n=F n)→unown F2 l=unown F l:=by
   intro l;induction l with
   |nil=>intro _;rfl
   |cons m l ih=>intro h;simp only[unown,h m (by simp),ih (fun n hn=>h n (by simp[hn]))]
  exact this ns hFn
 have hwF:WkL F2 asx args2:=zE7 hw (by rw[hns];exact hFn);have hle:SLe (F2.upd (unown F2 ns)) F2:=zED F2 ns;have hS:=zUS hR hle;have hv2:=zKh hR hle _ _ _ hwF (by rw[hns];exact fun n hn c hc=>zDv hn hc) h2;rw[hu]at hS hv2;have hL:=hc.2 (F2.upd (unown F ns)) (fun n hn=>by rw[zA6,zA6];exact zGq (hF2 n (by simp[hn]))) E w args' hS.rel hfr hdp hv2;have hup:∀G:SF,G.upd (unown F ns++upd)=(G.upd (unown F ns)).upd upd:=by
  intro G;have:∀(l:List (Nm×SBlk)) (G:SF),G.upd (l++upd)=(G.upd l).upd upd:=by
   intro l;induction l with
   |nil=>intro G;rfl
   |cons a l ih=>intro G;obtain ⟨n,b⟩:=a;exact ih _
  exact this _ G
 have conv:∀v' w',zBH E (F2.upd (unown F ns)) w L nx top v upd v' w'→∃E',VR w' (Zn E' (F2.upd (unown F ns++upd)) w') E' v v'∧StepR E F2 w E' (F2.upd (unown F ns++upd)) w'∧∀n,E n=none→E' n≠none→n.l=L∧nx≤n.i∧n.i<top:=by
  rintro v' w' ⟨E',q1,q2,q3⟩
  rw[hup];exact ⟨E',q1,hS.trans q2,q3⟩
 unfold zES Sx.zES at hL ⊢;split at hL;·exact conv _ _ hL
 ·exact conv _ _ hL
 ·intro cs;obtain ⟨e,w',fr,⟨v',he,hK⟩,hrest⟩:=hL cs;exact ⟨e,w',fr,⟨v',he,conv _ _ hK⟩,hrest⟩
 ·exact hL
def Dies(P:Program)(ch:List PanicEntry)(K:World→Prop):Result Next→Prop
 | .ok (.enter f args) w'=>Calls P f args w' fun e w''=>e= .panicked ch∧K w''
 | .halt (.panic v) w'=>ch=[{v,recovered:=false}]∧K w'
 |_=>False
theorem Dies.mono{ch:List PanicEntry}{K K':World→Prop}{r:Result Next}(h:Dies P ch K r)(hk:∀w',K w'→K' w'):Dies P ch K' r:=by
 unfold Dies at h ⊢;split at h
 ·intro cs;obtain ⟨e,w',fr,⟨he,hK⟩,hrest⟩:=h cs;exact ⟨e,w',fr,⟨he,hk _ hK⟩,hrest⟩
 ·exact ⟨h.1,hk _ h.2⟩
 ·exact h
theorem zIz{ch:List PanicEntry}{K:World→Prop}{res:Result Next}{r:Option Nat}{n:Nat}{o:Oper}{a:Act}{next:Act→World→Prop}{Q:Exit→Act→World→Prop}
  (h:Dies P ch K res)(hK:∀w',K w'→Q (.panic ch) a w'):o.uponIn (W r) n P a next Q res:=by
 unfold Dies at h;split at h
 ·rename_i f args w';refine ⟨(fun hd=>by cases hd),?_⟩;have h1:CallsIn Fence.wide (n-1) P f args w' fun e w''=>e= .panicked ch∧K w'':=callsIn_wide.2 h
  have h2:CallsIn (W r) (n-1) P f args w' fun e w''=>e= .panicked ch∧K w'':=h1
  refine h2.mono fun e w'' ⟨he,hk⟩=>?_
  subst he;exact hK _ hk
 ·obtain ⟨rfl,hk⟩:=h;exact hK _ hk
 ·exact h.elim
def DGives(E:Env)(F:SF)(w:World)(upd:List (Nm×SBlk))(w':World):Prop:=
 ∃E',StepR E F w E' (F.upd upd) w'∧∀n,E n=none→E' n=none
def DCon(P:Program)(ch:List PanicEntry)(f:FuncId)(args:List PV)(F:SF)(L:Nat)(upd:List (Nm×SBlk))(rd:List Nm):Prop:=
 ∀(F2:SF),(∀n∈rd,F2 n=F n)→∀(E:Env) (w:World) (args':List Value),HRel E F2 w→(∀n:Nm,L<n.l→E n=none)→
  VRl w (Zn E F2 w) E args args'→Dies P ch (DGives E F2 w upd) ((callFunc f args'.toArray).run P w)
def zLX(P:Program)(ch:List PanicEntry)(ρ:Operand→Option PV)(F:SF)(L:Nat)(o:Oper)(upd:List (Nm×SBlk))(rd:List Nm):Prop:=
 (∀c,o.op≠ .defer c)∧∀(ρ2:Operand→Option PV) (F2:SF),(∀x∈o.op.operands.toList,ρ2 x=ρ x)→(∀n∈rd,F2 n=F n)→
  ∀(E:Env) (w:World) (ρ':Operand→Value),HRel E F2 w→(∀n:Nm,L<n.l→E n=none)→zJp w (Zn E F2 w) E ρ2 ρ'→Dies P ch (DGives E F2 w upd) ((execOp ρ' o).run P w)
theorem zHk{ch:List PanicEntry}{ρ:Operand→Option PV}{F:SF}{L:Nat}{o:Oper}{f:FuncId}{asx args2:List PV}(ho:zHj P ρ o f asx)(hw:WkL F asx args2){upd:List (Nm×SBlk)}{rd:List Nm}
  (hc:DCon P ch f args2 (F.upd (unown F (zAt asx args2))) L upd rd):zLX P ch ρ F L o (unown F (zAt asx args2)++upd) (zAt asx args2++rd):=by
 generalize hns:zAt asx args2=ns at hc ⊢;refine ⟨ho.1,fun ρ2 F2 hρ2 hF2 E w ρ' hR hdp hρ=>?_⟩;obtain ⟨args',h1,h2⟩:=ho.2 ρ2 (fun x hx=>hρ2 x (by simpa using hx)) E w _ ρ' hρ;rw[h1];have hFn:∀n∈ns,F2 n=F n:=fun n hn=>hF2 n (by simp[hn])
 have hu:unown F2 ns=unown F ns:=by
  have:∀l:List Nm,(∀n∈l,F2 n=F n)→unown F2 l=unown F l:=by
   intro l;induction l with
   |nil=>intro _;rfl
   |cons m l ih=>intro h;simp only[unown,h m (by simp),ih (fun n hn=>h n (by simp[hn]))]
  exact this ns hFn
 have hwF:WkL F2 asx args2:=zE7 hw (by rw[hns];exact hFn);have hle:SLe (F2.upd (unown F2 ns)) F2:=zED F2 ns;have hS:=zUS hR hle;have hv2:=zKh hR hle _ _ _ hwF (by rw[hns];exact fun n hn c hc=>zDv hn hc) h2;rw[hu]at hS hv2;have hL:=hc (F2.upd (unown F ns)) (fun n hn=>by rw[zA6,zA6];exact zGq (hF2 n (by simp[hn]))) E w args' hS.rel hdp hv2;have hup:F2.upd (unown F ns++upd)=(F2.upd (unown F ns)).upd upd:=by
  have:∀(l:List (Nm×SBlk)) (G:SF),G.upd (l++upd)=(G.upd l).upd upd:=by
   intro l;induction l with
   |nil=>intro G;rfl
   |cons a l ih=>intro G;obtain ⟨n,b⟩:=a;exact ih _
  exact this _ F2
 refine hL.mono fun w' ⟨E',q1,q2⟩=>⟨E',?_,q2⟩
 rw[hup];exact hS.trans q1
theorem zJx{ρ:Operand→Option PV}{F:SF}{L:Nat}{o:Oper}{x:Operand}(ho:o.op= .panic x){ty:TypeId}(hv:ρ x=some (.ifc ty (.agg []))){ch:List PanicEntry}(hch:ch=[{v:=.iface ty (.agg #[]),recovered:=false}]):
  zLX P ch ρ F L o [] []:=by
 refine ⟨(fun c hc=>by rw[ho]at hc;cases hc),fun ρ2 F2 hρ2 _ E w ρ' hR _ hρ=>?_⟩;have h1:=hρ x (.ifc ty (.agg [])) ((hρ2 x (by rw[ho];simp[Op.operands])).trans hv);simp only[VR,VRl]at h1;obtain ⟨u,h1,l,rfl,_,rfl⟩:=h1;have hrun:(execOp ρ' o).run P w= .halt (.panic (.iface ty (.agg #[]))) w:=by
  unfold execOp;rw[ho];simp[Instr.panic,h1,goPanic,Sem.run,Result.andThen]
 rw[hrun];exact ⟨hch,E,StepR.refl hR,fun n h=>h⟩
end
end Go.Tx
end
section
namespace Go.Tx
open Go.Sx (TK tk zBe cellsOf zAD zAB zAS zBM zB1 addr_add zF7 zAw zA5 zAm zAW size_setCells os_setCells)
def zA8(n:Nm):Nm:=⟨n.l,n.i+17⟩
def capOf(F:SF)(n:Nm):Option Nat:=
 match F (zA8 n) with
 |some (.cap m k)=>if m=n then some k else none
 |_=>none
def zBb(T:Tys)(F:SF)(nx:Nm)(t xt:TypeId)(n:Nm)(l k:Nat)(x:PV):Option Res:=
 match T.get t with
 | some {k:=.slice e,..}=>
  match T.get e with
  | some ei=>
   if ei.size==0 then none else
   match zBs T F ei.size xt x with
   |none=>none
   | some (q,px,xs,rd)=>
    match F n with
    | some (.rows e' wd true p rs)=>
     if e'==e&&(wd==ei.size&& !(rd.contains n)) then
      match decide (l+xs.length≤k) with
      |true=>some {vc:=q∧l=rs.length,v:=.sl n 0 (l+xs.length),upd:=[(n,.rows e' wd true (p&&px) (rs++xs))],rd:=n::zA8 n::rd}
      |false=>some {vc:=q∧l=rs.length∧(rs.length+xs.length)*ei.bytes≤140737488355328∧rs.length+xs.length≤9223372036854775807,v:=.sl nx 0 (l+xs.length),upd:=[(nx,.rows e' ei.size true (p&&px) (rs++xs))],rd:=n::zA8 n::rd}
     else none
    |_=>none
  |none=>none
 |_=>none
section
variable {P : Program} {T : Tys} {E : Env} {F F' : SF} {nx : Nm} {w : World} {r : Res}
theorem zVO(h:HRel E F w){n:Nm}{e:TypeId}{wd:Nat}{p px:Bool}{rs xs:List (List PV)}{i:BI}(hF:F n=some (.rows e wd true p rs))(hi:E n=some i)(hn:i.z=false)
  {news:List Value}(hl:news.length=xs.length*wd)(hone:∀u∈news,u.oneCell'=true)(hv:VRr w (Zn E F w) (EE E px) xs 0 news.toArray)(hxl:∀row∈xs,row.length=wd)(hroom:rs.length+xs.length≤i.n):
  ∃w',(storeCells ⟨i.b,i.o+(rs.length*wd),none⟩ news).run P w= .ok () w'∧StepR E F w E (F.set n (.rows e wd true (p&&px) (rs++xs))) w':=by
 have hR:=zAJ h hF hi hn;obtain ⟨cs,fz,b1,b2,b3,b4⟩:=hR.cells;have hm:(rs.length+xs.length)*wd≤i.n*wd:=wN _ hroom;rw[wF]at hm;have hrun:=run_storeCells_cells (P:=P) i.b (i.o+rs.length*wd) news 0 w
  (fun j hj=>by
   simp only[World.cell?,b1,vM,wC,if_false];rw[qH (by omega)];rfl)
  (fun j hj=>by
   have:=b3 rfl (i.o+rs.length*wd+0+j) (by omega) (by omega);simp only[World.frozen?,b1];simpa using this) hone
 have hheap:=zAm i.b e fz news (i.o+rs.length*wd+0) cs w b1;have hother:=fun k (hk:k≠i.b)=>zAW i.b k hk news (i.o+rs.length*wd+0) w
 have hsize:=size_setCells i.b news (i.o+rs.length*wd+0) w;obtain ⟨hos,htape,hout⟩:=os_setCells i.b news (i.o+rs.length*wd+0) w;generalize w.setCells i.b (i.o+rs.length*wd+0) news=w' at *;refine ⟨w',hrun,zUi h hF rfl rfl hi hn hother hsize hos htape hout fun hX=>?_⟩;have hX1:Ext (EE E p) w (Zn E F w) (EE E (p&&px)) w' (Zn E (F.set n (.rows e wd true (p&&px) (rs++xs))) w'):=by
  refine ⟨?_,hX.zone,hX.heap⟩;cases p with
  |true=>exact zUT _
  |false=>exact Env.le.refl _
 have hX2:Ext (EE E px) w (Zn E F w) (EE E (p&&px)) w' (Zn E (F.set n (.rows e wd true (p&&px) (rs++xs))) w'):=by
  refine ⟨?_,hX.zone,hX.heap⟩;cases px with
  |true=>exact zUT _
  |false=>simp only[vJ];exact Env.le.refl _
 have v1:=VRr.mono hX1 _ _ _ b4;have v2:=VRr.mono hX2 _ _ _ hv;have hxr:∀row∈rs++xs,row.length=wd:=by
  intro x hx;rcases List.mem_append.1 hx with hx|hx;·exact hR.len x hx
  ·exact hxl x hx
 refine ⟨i,hi,.inr ⟨hn,hR.wd_eq,hR.o0,hR.wd_pos,hxr,by simpa using hroom,hR.cap,_,fz,hheap,by rw[zAw];exact b2,b3,?_⟩⟩;refine (zAM hxr).2 fun r row c v hr hc=>?_
 rw[zA5 _ _ _ _ (by omega)];by_cases hrl:r<rs.length
 ·rw[wO hrl]at hr;obtain ⟨v',a1,a2,a3⟩:=(zAM hR.len).1 v1 r row c v hr hc;have hcl:=zAB hc;have hwd:=hR.len _ (zO hr);have hm2:(r+1)*wd≤rs.length*wd:=wN _ hrl;have he2:(r+1)*wd=r*wd+wd:=wV r wd;rw[if_neg (by omega)];exact ⟨v',a1,a2,a3⟩
 ·rw[wZ (by omega)]at hr;obtain ⟨v',a1,a2,a3⟩:=(zAM hxl).1 v2 _ row c v hr hc;have hj:=zAB (l:=news) (by simpa using a1);have hsub:(r-rs.length)*wd+rs.length*wd=r*wd:=by rw[←wF];congr 1;omega
  rw[if_pos (by omega),show i.o+(r*wd+c)-(i.o+rs.length*wd+0)=(r-rs.length)*wd+c by omega];exact ⟨v',by simpa using a1,a2,a3⟩
theorem zLY(h:HRel E F w){n:Nm}{k:Nat}(hk:capOf F n=some k):∃i,E n=some i∧i.z=false∧i.n=k:=by
 unfold capOf at hk;split at hk
 ·rename_i m k' hm;split at hk
  ·rename_i he;subst he;injection hk with hk;subst hk;exact h.blk _ _ hm
  ·cases hk
 ·cases hk
theorem zII(hT:T.Ok P)(h:HRel E F w)(hE:E nx=none){t xt ty:TypeId}{n:Nm}{l k:Nat}{x:PV}{s' x':Value}(hcap:capOf F n=some k)(hs:zBb T F nx t xt n l k x=some r)(hvc:r.vc)(hds:VR w (Zn E F w) E (.sl n 0 l) s')(hdx:VR w (Zn E F w) E x x'):
  ∃v' w',(Builtin.append_ #[t,xt] ty #[s',x']).run P w= .ok v' w'∧Gives E F nx w r v' w':=by
 obtain ⟨i,hi,hz,hik⟩:=zLY h hcap;unfold zBb at hs;split at hs;rotate_left;·cases hs
 rename_i e _ _ _ _ _ hti;split at hs;rotate_left;·cases hs
 rename_i ei hei;split at hs;·cases hs
 rename_i hsz;simp only[beq_iff_eq]at hsz;obtain ⟨z0,ht0⟩:=hT _ _ hti;obtain ⟨d,hd,hk⟩:=ht0.sx.desc;obtain rfl:=zAS hk;obtain ⟨z,ht⟩:=hT _ _ hei;obtain ⟨ix,hx,hx0,hx1,hx2⟩:=ht.sx.info;simp only at hx0 hx1 hx2;split at hs;·cases hs
 rename_i q px xs rd hsrc;split at hs;rotate_left;·cases hs
 rename_i e' wd p rs hF;split at hs;rotate_left;·cases hs
 rename_i hc2;simp only[zC,beq_iff_eq]at hc2;obtain ⟨rfl,rfl,_⟩:=hc2;simp only[VR]at hds;obtain ⟨j,hj,hor⟩:=hds;rw[hi]at hj;injection hj with hj;subst hj;rcases hor with ⟨hz2,_⟩|⟨_,rfl⟩;·rw[hz]at hz2;cases hz2
 have hR:=zAJ h hF hi hz;have hw:=hR.wd_eq;split at hs
 ·rename_i hroom;have hroom:=of_decide_eq_true hroom;injection hs with hs;subst hs;obtain ⟨hp,rfl⟩:=hvc;obtain ⟨s1,s2⟩:=zE1 hT h (by omega) hsrc hp hdx;obtain ⟨hlen,news,a1,a2,a3,a4,a5⟩:=s1;simp only[zBf,wH,vH];obtain ⟨w',e1,e2⟩:=zVO (P:=P) h hF hi hz a1 a2 a3 a4 (by omega);refine ⟨_,w',run_append_room' t xt ty e' ix hd s2 hx ⟨i.b,i.o,none⟩ rs.length i.n news x' xs.length hlen (by rw[hx1];exact a5 w rfl) (by omega) (by rw[addr_add,hx1];exact e1),E,?_,e2,FreshIn.refl _ _⟩;simp only[VR];exact ⟨i,hi,.inr ⟨hz,by simp[zBf]⟩⟩
 ·rename_i hroom;have hroom:=of_decide_eq_false hroom;injection hs with hs;subst hs;obtain ⟨hp,rfl,hb,hm⟩:=hvc;obtain ⟨s1,s2⟩:=zE1 hT h (by omega) hsrc hp hdx;obtain ⟨hlen,news,a1,a2,a3,a4,a5⟩:=s1;simp only[zBf,wH,vH];obtain ⟨cs,fz,b1,b2,b3,b4⟩:=hR.cells;have hso:=zE2 P (cap:=i.n) b1 (by omega) hR.len b4;obtain ⟨_,olds,o1,o2,o3,o4,o5⟩:=hso;have hr:=run_append_grow' t xt ty e' ix z hd s2 hx hx0 (some ⟨i.b,i.o,none⟩) rs.length i.n olds news x' xs.length hlen (by rw[hx1];exact o5 w.drew rfl) (by rw[hx1];exact a5 w.drew rfl) (by omega) (by omega)
   (zBU (by omega) (by rw[hx2];exact hb))
  have hge:=grownCap_ge w (rs.length+xs.length) i.n e';have hcm:=grownCap_le_maxLen w (rs.length+xs.length) i.n e' (by unfold maxLen;omega);refine ⟨_,_,hr,E.set nx ⟨w.heap.size,0,ei.size,grownCap w (rs.length+xs.length) i.n e',false,none⟩,zHR (zUO _ _ _) rfl _,?_,FreshIn.set⟩;have hrest:(Builtin.zeroCells z.cells (grownCap w (rs.length+xs.length) i.n e'-(rs.length+xs.length))).size=(grownCap w (rs.length+xs.length) i.n e'-(rs++xs).length)*ei.size:=by
   rw[size_zeroCells,←vA,zAD,ht.sz,zU]
  have e1:Ext (EE E p) w (Zn E F w) (EE E (p&&px)) w (Zn E F w):=by
   refine ⟨?_,fun _ h=>h,fun _ _=>rfl⟩;cases p with
   |true=>exact zUT _
   |false=>exact Env.le.refl _
  have e2:Ext (EE E px) w (Zn E F w) (EE E (p&&px)) w (Zn E F w):=by
   refine ⟨?_,fun _ h=>h,fun _ _=>rfl⟩;cases px with
   |true=>exact zUT _
   |false=>simp only[vJ];exact Env.le.refl _
  have hj:VRr w (Zn E F w) (EE E (p&&px)) (rs++xs) 0 (olds++news).toArray:=
   zU5 hR.len a4 o1 (fun j hj=>by rw[zP,wR,wO hj]) (fun j hj=>by rw[zP,wR,wZ (by omega)];congr 1;omega) (VRr.mono e1 _ _ _ o3) (VRr.mono e2 _ _ _ a3)
  have hxr:∀row∈rs++xs,row.length=ei.size:=by
   intro x hx;rcases List.mem_append.1 hx with hx|hx;·exact hR.len x hx
   ·exact a4 x hx
  have hS:=zUX (t:=e') h hE (by omega) hxr (by simp[o1,a1,wF]) hj (by simpa using hge) hcm hrest (0,0) (by simp);have hS:=hS.drew;have q:(olds++news).toArray=olds.toArray++news.toArray:=by simp
  rw[q]at hS;exact hS
end
end Go.Tx
end
section
namespace Go.Tx
def zMR:PV→Bool
 | .nilS=>true
 |_=>false
def zKi(T:Tys)(ρ:Operand→Option PV)(F:SF)(nx:Nm)(args:List Operand)(ats:List TypeId):Option Res:=
 match args,ats with
 | [s,x],[t,xt]=>
  match ρ s,ρ x with
  |some (.sl n 0 l),some b=>if zMR b then none else
   match capOf F n with
   |some k=>zBb T F nx t xt n l k b
   |none=>none
  |_,_=>none
 |_,_=>none
def zEU(ch:List PanicEntry)(T:Tys)(ρ:Operand→Option PV)(F:SF)(nx:Nm)(op:Op):Option Res:=
 match ch,op with
 | [_,_],.call ⟨.builtin .append,args,ats⟩=>zKi T ρ F nx args.toList ats.toList
 |_,_=>none
section
variable {P : Program} {T : Tys} {F F' : SF} {r : Res}
theorem zJy{nx:Nm}{t xt:TypeId}{n:Nm}{l k:Nat}{x:PV}(h:zBb T F nx t xt n l k x=some r)(hl:∀n∈r.rd,F' n=F n):zBb T F' nx t xt n l k x=some r∧n∈r.rd∧zA8 n∈r.rd:=by
 have key:∃rd,r.rd=n::zA8 n::rd∧∀e ei,T.get t=some e→(∃q px xs,zBs T F ei xt x=some (q,px,xs,rd))→True:=by
  unfold zBb at h;split at h;rotate_left;·cases h
  split at h;rotate_left;·cases h
  split at h;·cases h
  split at h;·cases h
  split at h;rotate_left;·cases h
  split at h;rotate_left;·cases h
  split at h<;>(injection h with h;subst h;exact ⟨_,rfl,fun _ _ _ _=>trivial⟩)
 obtain ⟨rd0,hrd,_⟩:=key;refine ⟨?_,by rw[hrd];simp,by rw[hrd];simp⟩;unfold zBb at h ⊢;split at h;rotate_left;·cases h
 rename_i h1;try simp only[h1]
 split at h;rotate_left;·cases h
 rename_i h2;try simp only[h2]
 split at h;·cases h
 rename_i h3;rw[if_neg h3];split at h;·cases h
 rename_i q px xs rd hsrc;have hn:F' n=F n:=hl n (by rw[hrd];simp);split at h;rotate_left;·cases h
 rename_i e' wd p rs hF;split at h;rotate_left;·cases h
 rename_i h5;have hsub:∀m∈rd,F' m=F m:=by
  intro m hm;apply hl;split at h<;>(injection h with h;subst h;simp[hm])
 have hs':=zIC hsrc hsub;simp only[hs',hn,hF];rw[if_pos h5];exact h
theorem zLZ(hT:T.Ok P){ρ:Operand→Option PV}{L nx:Nat}{o:Oper}{ch:List PanicEntry}(hs:zEU ch T ρ F ⟨L,nx⟩ o.op=some r)(hv:r.vc):OpFact P ρ F L nx (nx+32) o r:=by
 unfold zEU at hs;split at hs;rotate_left;·cases hs
 rename_i args ats ho;unfold zKi at hs;split at hs;rotate_left;·cases hs
 rename_i s x t xt ha ht;split at hs;rotate_left;·cases hs
 rename_i n l b hs1 hx1;split at hs;·cases hs
 split at hs;rotate_left;·cases hs
 rename_i k hk;refine ⟨(by rw[ho];intro c hc;cases hc),by omega,fun ρ2 F2 hρ2 hF2 E w ρ' hR hfr _ hρ=>?_⟩;obtain ⟨h1,h2,h3⟩:=zJy hs hF2;have hk2:capOf F2 n=some k:=by
  unfold capOf at hk ⊢;rw[hF2 _ h3];exact hk
 rw[ho]at hρ2;simp only[Op.operands,Call.operands]at hρ2;have e1:ρ2 s=some (.sl n 0 l):=by rw[hρ2 s (by simp[ha])];exact hs1
 have e2:ρ2 x=some b:=by rw[hρ2 x (by simp[ha])];exact hx1
 obtain ⟨v',w',r1,r2⟩:=zII (ty:=o.type) hT hR (hfr nx (zH _) (by omega)) hk2 h1 hv (hρ _ _ e1) (hρ _ _ e2);unfold execOp;rw[ho];have ha':args= #[s,x]:=by apply vG;simpa using ha
 have ht':ats= #[t,xt]:=by apply vG;simpa using ht
 subst ha';subst ht';simp only[resolve,invoke,builtin,zB,zI,zD,uY,zL,wM,r1];exact r2
end
end Go.Tx
end
section
namespace Go.Tx
open Go.Sx (zAB)
mutual
def zBC:PV→Bool
 | .bool _| .int _ _| .str _| .nilP| .nilS| .nilM| .nilF| .nilI=>true
 | .agg l=>zBv l
 | .tup l=>zBv l
 | .ifc _ v=>zBC v
 |_=>false
def zBv:List PV→Bool
 | []=>true
 |v::l=>zBC v&&zBv l
end
mutual
theorem VR.plain{w w':World}{Z Z':Nat→Prop}{E E':Env}:∀(x:PV) (v:Value),zBC x=true→VR w Z E x v→VR w' Z' E' x v
 | .bool _,v,_,h=>by simpa[VR] using h
 | .int _ _,v,_,h=>by simpa[VR] using h
 | .str _,v,_,h=>by simpa[VR] using h
 | .nilP,v,_,h=>by simpa[VR] using h
 | .nilS,v,_,h=>by simpa[VR] using h
 | .nilM,v,_,h=>by simpa[VR] using h
 | .nilF,v,_,h=>by simpa[VR] using h
 | .nilI,v,_,h=>by simpa[VR] using h
 | .agg l,v,hp,h=>by
  simp only[zBC]at hp;simp only[VR]at h ⊢;obtain ⟨l',h1,h2,h3⟩:=h;exact ⟨l',h1,h2,VRl.plain l l' hp h3⟩
 | .tup l,v,hp,h=>by
  simp only[zBC]at hp;simp only[VR]at h ⊢;obtain ⟨l',h1,h3⟩:=h;exact ⟨l',h1,VRl.plain l l' hp h3⟩
 | .ifc _ u,v,hp,h=>by
  simp only[zBC]at hp;simp only[VR]at h ⊢;obtain ⟨u',h1,h3⟩:=h;exact ⟨u',h1,VR.plain u u' hp h3⟩
 | .ptr _ _ _,v,hp,_=>by simp[zBC]at hp
 | .sl _ _ _,v,hp,_=>by simp[zBC]at hp
 | .mp _,v,hp,_=>by simp[zBC]at hp
 | .fp _ _ _ _,v,hp,_=>by simp[zBC]at hp
 | .fs _ _,v,hp,_=>by simp[zBC]at hp
 | .fm _ _,v,hp,_=>by simp[zBC]at hp
 | .fn _ _ _,v,hp,_=>by simp[zBC]at hp
theorem VRl.plain{w w':World}{Z Z':Nat→Prop}{E E':Env}:∀(x:List PV) (v:List Value),zBv x=true→VRl w Z E x v→VRl w' Z' E' x v
 | [],v,_,h=>by simpa[VRl] using h
 |x::l,v,hp,h=>by
  simp only[zBv,zC]at hp;simp only[VRl]at h ⊢;obtain ⟨u,t,h1,h2,h3⟩:=h;exact ⟨u,t,h1,VR.plain x u hp.1 h2,VRl.plain l t hp.2 h3⟩
end
section
variable {P : Program} {E : Env} {F : SF} {w : World}
theorem StepR.same{w':World}(h:HRel E F w)(h1:w'.os=w.os)(h2:w'.tape=w.tape)(h3:w'.output=w.output)(h4:w.heap.size≤w'.heap.size)(h5:∀k,k<w.heap.size→w'.heap[k]?=w.heap[k]?):StepR E F w E F w':=by
 have hN:NewAt E F w E F w':=⟨Env.le.refl _,h1,h2,h3,h4,fun k hk _=>h5 k hk,fun n b i hf ho hi hn=>.inr ⟨n,b,i,hf,ho,hi,hn,rfl⟩⟩;refine hN.step ⟨fun n b hf=>?_,h.sep⟩;by_cases hl:b.live=true
 ·exact (h.blk n b hf).mono hN.ext fun i hi hn=>h5 _ ((h.blk n b hf).lt hl hi hn)
 ·exact (h.blk n b hf).still hl (Env.le.refl _)
theorem zGu{ρ:Operand→Option PV}{L nx:Nat}{o:Oper}{f:FuncId}{asx args2:List PV}(ho:zHj P ρ o f asx)(hw:WkL F asx args2){v:PV}(hp:zBC v=true)(hc:Con P f args2 (fun _=>none) L nx nx v [] []):
  OpFact P ρ F L nx nx o ⟨True,v,[],zAt asx args2⟩:=by
 generalize hns:zAt asx args2=ns;refine ⟨ho.1,zH _,fun ρ2 F2 hρ2 hF2 E w ρ' hR hfr hdp hρ=>?_⟩;obtain ⟨args',r1,r2⟩:=ho.2 ρ2 (fun x hx=>hρ2 x (by simpa using hx)) E w _ ρ' hρ;rw[r1];have hle:SLe (fun _=>none) F2:=fun n b h=>by cases h
 have hS:=zUS hR hle;have hwF:WkL F2 asx args2:=zE7 hw (by rw[hns];exact hF2);have hv3:=zKh hR hle _ _ _ hwF (fun n _ c hc=>by cases hc) r2;have hL:=hc.2 (fun _=>none) (fun _ _=>rfl) E w args' hS.rel (fun k h1 h2=>by omega) hdp hv3;have conv:∀v' w',zBH E (fun _=>none) w L nx nx v [] v' w'→∃E',VR w' (Zn E' (F2.upd []) w') E' v v'∧StepR E F2 w E' (F2.upd []) w'∧∀n,E n=none→E' n≠none→n.l=L∧nx≤n.i∧n.i<nx:=by
  rintro v' w' ⟨E',q1,q2,q3⟩
  exact ⟨E,VR.plain _ _ hp q1,StepR.same hR q2.os q2.tape q2.output q2.size (fun k hk=>q2.keep k hk fun n b i hn=>by cases hn),fun n h1 h2=>absurd h1 h2⟩
 unfold zES Sx.zES at hL ⊢;split at hL;·exact conv _ _ hL
 ·exact conv _ _ hL
 ·intro cs;obtain ⟨e,w',fr,⟨v',he,hK⟩,hrest⟩:=hL cs;exact ⟨e,w',fr,⟨v',he,conv _ _ hK⟩,hrest⟩
 ·exact hL
end
def look(F0:SF):List (Nm×SBlk)→SF
 | [],n=>F0 n
 |(m,b)::l,n=>if n=m then some b else look F0 l n
def setH:List (Nm×SBlk)→Nm→SBlk→List (Nm×SBlk)
 | [],n,b=>[(n,b)]
 |(m,c)::l,n,b=>if n=m then (n,b)::l else (m,c)::setH l n b
def zAl:List (Nm×SBlk)→List (Nm×SBlk)→List (Nm×SBlk)
 |H,[]=>H
 |H,(n,b)::l=>zAl (setH H n b) l
theorem zI0(F0:SF):∀(H:List (Nm×SBlk)) (n:Nm) (b:SBlk),look F0 (setH H n b)=(look F0 H).set n b
 | [],n,b=>by funext k;simp[setH,look,SF.set]
 | (m,c)::l,n,b=>by
  funext k;have ih:=congrFun (zI0 F0 l n b) k;simp only[setH];split
  ·rename_i h;subst h;simp only[look,SF.set];split<;>rfl
  ·rename_i h;simp only[look,SF.set]at ih ⊢;split;·rename_i hk;subst hk;rw[if_neg (fun e=>h e.symm)]
   ·exact ih
theorem zAP(F0:SF):∀(l H:List (Nm×SBlk)),look F0 (zAl H l)=(look F0 H).upd l
 | [],H=>rfl
 |(n,b)::l,H=>by simp only[zAl,SF.upd];rw[zAP F0 l,zI0]
structure St where
 t:List (Option PV)
 H:List (Nm×SBlk)
 nx:Nat
def zAu(t:List (Option PV)):Operand→Option PV
 | .tmp i=>t.getD i none
 | .const v=>ofV v
 | .func f=>some (.fn (.func f) [] [])
 | .global _=>none
def TF(t:List (Option PV)):Nat→Option PV:=fun k=>t.getD k none
theorem zBw(t:List (Option PV)):zAu t=zDi (TF t):=by funext x;cases x<;>rfl
def zCR(t:List (Option PV))(d:Option Nat)(v:PV):List (Option PV):=
 match d with|some d=>t.set d (some v)|none=>t
theorem zAr(t:List (Option PV))(d:Option Nat)(v:PV):(zCR t d v).length=t.length:=by cases d<;>simp[zCR]
theorem zDd{t:List (Option PV)}{o:Oper}{r:Option Res}(h:∀x,o.dst=some x→x<t.length):TF (zCR t o.dst (match r with|some r=>r.v|none=>zAN))=zAX (TF t) (tw o r):=by
 unfold tw;cases hd:o.dst with
 |none=>rfl
 |some d=>
  funext k;have hlt:=h d hd;simp only[zCR,TF,zAX,zE,vQ];by_cases hk:k=d
  ·subst hk;simp[hlt]<;>cases r<;>rfl
  ·rw[if_neg (fun e=>hk e.symm),if_neg hk]
def mkD(D:Nat):Deferred:={target:=.collected D,args:= #[]}
def MarksOk(B:List Deferred)(n0:Nat)(Z:Nat→Prop)(w:World)(ds:List Deferred):Prop:=
 ∃Ds:List Nat,Ds.Nodup∧ds=Ds.map mkD++B∧∀D∈Ds,n0≤D∧Z D∧w.heap[D]?=some (.deferred (some []))
theorem MarksOk.nil{B:List Deferred}{n0:Nat}{Z:Nat→Prop}{w:World}:MarksOk B n0 Z w B:=⟨[],by simp,rfl,by simp⟩
theorem MarksOk.mono{B:List Deferred}{n0:Nat}{Z Z':Nat→Prop}{w w':World}{E E':Env}{ds:List Deferred}(h:MarksOk B n0 Z w ds)(hX:Ext E w Z E' w' Z'):MarksOk B n0 Z' w' ds:=by
 obtain ⟨Ds,h1,h2,h3⟩:=h;exact ⟨Ds,h1,h2,fun D hD=>let ⟨a,b,c⟩:=h3 D hD;⟨a,hX.zone _ b,(hX.heap _ b).trans c⟩⟩
structure Rel (B:List Deferred) (L:Nat) (F0:SF) (E0:Env) (w0:World) (E:Env) (st:St) (a:Act) (w:World):Prop where
 step:StepR E0 F0 w0 E (look F0 st.H) w
 tmps:TRelF w (Zn E (look F0 st.H) w) E (TF st.t) st.t.length a.tmps
 marks:MarksOk B w0.heap.size (Zn E (look F0 st.H) w) w a.defers
 news:∀n,E0 n=none→E n≠none→n.l=L∧n.i<st.nx
def zGD(L:Nat)(E0:Env):Prop:=∀n:Nm,L≤n.l→E0 n=none
theorem Rel.fresh{B:List Deferred}{L:Nat}{F0:SF}{E0:Env}{w0:World}{E:Env}{st:St}{a:Act}{w:World}(h:Rel B L F0 E0 w0 E st a w)(hd:zGD L E0):(∀k,st.nx≤k→E ⟨L,k⟩=none)∧∀n:Nm,L<n.l→E n=none:=by
 constructor
 ·intro k hk;cases he:E ⟨L,k⟩ with
  |none=>rfl
  |some x=>have:=(h.news ⟨L,k⟩ (hd _ (zH _)) (by rw[he];simp)).2;simp only at this;omega
 ·intro n hn;cases he:E n with
  |none=>rfl
  |some x=>have:=(h.news n (hd _ (by omega)) (by rw[he];simp)).1;omega
end Go.Tx
end
