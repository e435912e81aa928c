/- Lemmas for the walk: T3, T4, Sx7, Sx8, Sx9, Sx10, Sx11. -/
import Derived.Test.YtifhjhbfhdcahaaGreatP01
import Derived.Laws.Closers25b
import Derived.Laws.MakeOwn
set_option linter.all false
section
namespace Go.Tx
open Go.Sx (zF7 zAw zA5 zAm zAW size_setCells os_setCells addr_add zD7 zAB zAO)
mutual
def nf:PV→Bool
 | .ptr _ _ _=>false
 | .sl _ _ _=>false
 | .mp _=>false
 | .fn _ x y=>nfl x&&nfl y
 | .ifc _ v=>nf v
 | .agg l=>nfl l
 | .tup l=>nfl l
 |_=>true
def nfl:List PV→Bool
 | []=>true
 |v::l=>nf v&&nfl l
end
mutual
theorem VR.nf{w:World}{Z:Nat→Prop}{E E':Env}:∀(x:PV) (v:Value),Tx.nf x=true→VR w Z E x v→VR w Z E' x v
 | .bool _,v,_,hv=>by simpa[VR] using hv
 | .int _ _,v,_,hv=>by simpa[VR] using hv
 | .str _,v,_,hv=>by simpa[VR] using hv
 | .nilP,v,_,hv=>by simpa[VR] using hv
 | .nilS,v,_,hv=>by simpa[VR] using hv
 | .nilM,v,_,hv=>by simpa[VR] using hv
 | .nilF,v,_,hv=>by simpa[VR] using hv
 | .nilI,v,_,hv=>by simpa[VR] using hv
 | .ptr _ _ _,v,h,_=>by simp[Tx.nf]at h
 | .sl _ _ _,v,h,_=>by simp[Tx.nf]at h
 | .mp _,v,h,_=>by simp[Tx.nf]at h
 | .fp _ _ _ _,v,_,hv=>by simp only[VR]at hv ⊢;exact hv
 | .fs _ _,v,_,hv=>by simp only[VR]at hv ⊢;exact hv
 | .fm _ _,v,_,hv=>by simp only[VR]at hv ⊢;exact hv
 | .fn f x y,v,h,hv=>by
  simp only[Tx.nf,zC]at h;simp only[VR]at hv ⊢;obtain ⟨x',y',h1,h2,h3⟩:=hv;exact ⟨x',y',h1,VRl.nf x _ h.1 h2,VRl.nf y _ h.2 h3⟩
 | .ifc t u,v,h,hv=>by
  simp only[Tx.nf]at h;simp only[VR]at hv ⊢;obtain ⟨u',h1,h2⟩:=hv;exact ⟨u',h1,VR.nf u _ h h2⟩
 | .agg l,v,h,hv=>by
  simp only[Tx.nf]at h;simp only[VR]at hv ⊢;obtain ⟨l',h1,h2,h3⟩:=hv;exact ⟨l',h1,h2,VRl.nf l _ h h3⟩
 | .tup l,v,h,hv=>by
  simp only[Tx.nf]at h;simp only[VR]at hv ⊢;obtain ⟨l',h1,h3⟩:=hv;exact ⟨l',h1,VRl.nf l _ h h3⟩
theorem VRl.nf{w:World}{Z:Nat→Prop}{E E':Env}:∀(x:List PV) (v:List Value),Tx.nfl x=true→VRl w Z E x v→VRl w Z E' x v
 | [],v,_,hv=>by simpa[VRl] using hv
 |x::l,v,h,hv=>by
  simp only[nfl,zC]at h;simp only[VRl]at hv ⊢;obtain ⟨u,t,h1,h2,h3⟩:=hv;exact ⟨u,t,h1,VR.nf x u h.1 h2,VRl.nf l t h.2 h3⟩
end
theorem zVM{w:World}{Z:Nat→Prop}{E:Env}{p:Bool}{x:List PV}{v:List Value}(hp:p=true→nfl x=true)(h:VRl w Z E x v):VRl w Z (EE E p) x v:=by
 cases p with
 |false=>exact h
 |true=>exact VRl.nf x v (hp rfl) h
theorem VR.up{w:World}{Z:Nat→Prop}{E:Env}{p:Bool}{x:PV}{v:Value}(h:VR w Z (EE E p) x v):VR w Z E x v:=
 VR.mono ⟨zKT E p,fun _ h=>h,fun _ _=>rfl⟩ x v h
theorem VRl.up{w:World}{Z:Nat→Prop}{E:Env}{p:Bool}{x:List PV}{v:List Value}(h:VRl w Z (EE E p) x v):VRl w Z E x v:=
 VRl.mono ⟨zKT E p,fun _ h=>h,fun _ _=>rfl⟩ x v h
theorem zL9{E:Env}{w:World}{Z:Nat→Prop}{b o e wd:Nat}{cs:Array Value}{fz:Nat×Nat}{rs:List (List PV)}(P:Program)(hb:w.heap[b]?=some (.cells cs e fz))
  (hl:∀row∈rs,row.length=wd)(hv:VRr w Z E rs o cs){r c k:Nat}{row:List PV}(hr:rs[r]?=some row)(hk:c+k≤wd):
  ∃vs:List Value,VRl w Z E ((row.drop c).take k) vs∧vs.length=k∧(∀v∈vs,v.oneCell'=true)∧(∀j v,vs[j]?=some v→w.cell? ⟨b,o+(r*wd+c)+j,none⟩=some v)∧(loadCells ⟨b,o+(r*wd+c),none⟩ k).run P w= .ok vs.toArray w:=by
 have hlen:row.length=wd:=hl row (zO hr);have hcell:=(zAM hl).1 hv
 let vs:List Value:=(List.range k).map fun j=>(cs[o+(r*wd+(c+j))]?).getD .nilFunc
 have hvs:∀j,j<k→∃v,vs[j]?=some v∧cs[o+(r*wd+(c+j))]?=some v∧v.oneCell'=true∧VR w Z E (row.getD (c+j) .nilI) v:=by
  intro j hj;obtain ⟨v,a1,a2,a3⟩:=hcell r row (c+j) (row.getD (c+j) .nilI) hr (zAO _ (by omega));exact ⟨v,by simp[vs,hj,a1],a1,a2,a3⟩
 have hlv:vs.length=k:=by simp[vs]
 have hget:∀j v,vs[j]?=some v→v.oneCell'=true∧w.cell? ⟨b,o+(r*wd+c)+j,none⟩=some v:=by
  intro j v hj;have hjk:j<k:=by have:=zAB hj;omega
  obtain ⟨v',a1,a2,a3,_⟩:=hvs j hjk;rw[hj]at a1;injection a1 with a1;subst a1;exact ⟨a3,by simp[World.cell?,hb,show o+(r*wd+c)+j=o+(r*wd+(c+j)) by omega,a2]⟩
 refine ⟨vs,?_,hlv,fun v hv=>?_,fun j v hj=>(hget j v hj).2,?_⟩
 ·refine VRl.of (by simp[hlv];omega) fun j x v hx hv=>?_
  have hj:j<k:=by have:=zAB hv;omega
  obtain ⟨v',a1,_,_,a4⟩:=hvs j hj;rw[hv]at a1;injection a1 with a1;subst a1;rw[uB,if_pos hj,vX]at hx;have:row.getD (c+j) .nilI=x:=by simp[zE,hx]
  rw[←this];exact a4
 ·obtain ⟨j,hj⟩:=vW hv;exact (hget j v hj).1
 ·rw[←hlv];refine run_loadCells_list w _ vs fun j v hv=>?_
  rw[addr_add];exact (hget j v hv).2
def putAt(row:List PV)(c:Nat)(vs:List PV):List PV:=row.take c++vs++row.drop (c+vs.length)
theorem zBQ(row:List PV)(c:Nat)(vs:List PV)(h:c+vs.length≤row.length):(putAt row c vs).length=row.length:=by
 simp[putAt];omega
theorem zCr(row:List PV)(c:Nat)(vs:List PV)(h:c+vs.length≤row.length)(j:Nat):
  (putAt row c vs)[j]?=if c≤j∧j<c+vs.length then vs[j-c]? else row[j]?:=by
 unfold putAt;have hl:(row.take c).length=c:=by simp;omega
 by_cases h1:j<c
 ·rw[if_neg (by omega),vO,wO (by omega),uB];simp[h1]
 ·by_cases h2:j<c+vs.length;·rw[if_pos (by omega),vO,wZ (by omega),hl,wO (by omega)]
  ·rw[if_neg (by omega),wZ (by simp;omega),vX];congr 1;simp;omega
theorem VRr.put{E:Env}{w:World}{Z:Nat→Prop}{wd o:Nat}{cs:Array Value}{rs:List (List PV)}(hl:∀row∈rs,row.length=wd)(hv:VRr w Z E rs o cs){r c:Nat}{row vs:List PV}{vs':List Value}
  (hr:rs[r]?=some row)(hc:c+vs.length≤wd)(hvs:VRl w Z E vs vs')(h1:∀v∈vs',v.oneCell'=true)(hsz:o+(r*wd+c)+vs.length≤cs.size):
  (∀row'∈rs.set r (putAt row c vs),row'.length=wd)∧VRr w Z E (rs.set r (putAt row c vs)) o (zF7 cs (o+(r*wd+c)) vs'):=by
 obtain ⟨hvl,hvg⟩:=VRl.get hvs;have hrl:r<rs.length:=zAB hr;have hlen:row.length=wd:=hl row (zO hr);have b4:=(zAM hl).1 hv;have hl':∀row'∈rs.set r (putAt row c vs),row'.length=wd:=by
  intro x hx;rcases qW hx with hx|rfl;·exact hl x hx
  ·rw[zBQ _ _ _ (by omega)];exact hlen
 refine ⟨hl',(zAM hl').2 ?_⟩;intro r' row' c' v hr' hc';rw[zA5 _ _ _ _ (by omega)];have hlen':row'.length=wd:=hl' _ (zO hr');have hc'':c'<wd:=by have:=zAB hc';omega
 by_cases hrr:r=r'
 ·subst hrr;rw[List.getElem?_set_self hrl]at hr';injection hr' with hr';subst hr';rw[zCr _ _ _ (by omega)]at hc';by_cases hin:c≤c'∧c'<c+vs.length
  ·rw[if_pos hin]at hc';rw[if_pos (by omega)];obtain ⟨v',a1,a2⟩:=hvg _ _ hc';exact ⟨v',by rw[show o+(r*wd+c')-(o+(r*wd+c))=c'-c by omega];exact a1,h1 v' (zO a1),a2⟩
  ·rw[if_neg hin]at hc';rw[if_neg (by omega)];exact b4 r row c' v hr hc'
 ·rw[List.getElem?_set_ne hrr]at hr';have hout:¬(o+(r*wd+c)≤o+(r'*wd+c')∧o+(r'*wd+c')<o+(r*wd+c)+vs'.length):=by
   rintro ⟨q1,q2⟩
   obtain ⟨x,hx⟩:∃x,r'*wd+c'=r*wd+(c+x):=⟨r'*wd+c'-(r*wd+c),by omega⟩;have hx2:c+x<wd:=by omega
   exact hrr (zD7 hc'' hx2 hx).1.symm
  rw[if_neg hout];exact b4 r' row' c' v hr' hc'
theorem zUi{E:Env}{F:SF}{w w':World}(h:HRel E F w){n:Nm}{bl bl':SBlk}{i:BI}(hF:F n=some bl)(ho:bl.own=true)(ho':bl'.own=true)(hi:E n=some i)(hz:i.z=false)
  (hother:∀k,k≠i.b→w'.heap[k]?=w.heap[k]?)(hsize:w'.heap.size=w.heap.size)(hos:w'.os=w.os)(htape:w'.tape=w.tape)(hout:w'.output=w.output)
  (hb:Ext E w (Zn E F w) E w' (Zn E (F.set n bl') w')→BRel E w' (Zn E (F.set n bl') w') n bl'):StepR E F w E (F.set n bl') w':=by
 have hN:NewAt E F w E (F.set n bl') w':=by
  refine ⟨Env.le.refl _,hos,htape,hout,by omega,fun k hk hno=>hother k (fun e=>hno n _ i hF ho hi hz e.symm),?_⟩;intro m b q hm hb hq hqn;unfold SF.set at hm;by_cases hmn:m=n
  ·subst hmn;exact .inr ⟨m,_,q,hF,ho,hq,hqn,rfl⟩
  ·rw[if_neg hmn]at hm;exact .inr ⟨m,b,q,hm,hb,hq,hqn,rfl⟩
 refine hN.step ⟨?_,?_⟩
 ·intro m b hm;unfold SF.set at hm;split at hm
  ·rename_i hmn;subst hmn;injection hm with hm;subst hm;exact hb hN.ext
  ·rename_i hmn;by_cases hl:b.live=true;rotate_left;·exact (h.blk m b hm).still hl hN.ext.le
   refine (h.blk m b hm).mono hN.ext fun j hj hjn=>hother _ ?_
   exact fun e=>h.sep n m _ b i j hF hm (fun e=>hmn e.symm) ho hl hi hj hz hjn e.symm
 ·intro m k b d a q hm hk hmk hbo hd ha hq han hqn;clear hb;unfold SF.set at hm hk;by_cases hmn:m=n
  ·subst hmn;rw[if_neg (fun e=>hmk e.symm)]at hk;exact h.sep m k _ d a q hF hk hmk ho hd ha hq han hqn
  ·rw[if_neg hmn]at hm;by_cases hkn:k=n
   ·subst hkn;exact h.sep m k b _ a q hm hF hmk hbo (zAe ho) ha hq han hqn
   ·rw[if_neg hkn]at hk;exact h.sep m k b d a q hm hk hmk hbo hd ha hq han hqn
theorem zUk{E:Env}{F:SF}{w w':World}(h:HRel E F w){n:Nm}{bl bl':SBlk}{i:BI}(hF:F n=some bl)(ho:bl.own=true)(ho':bl'.own=false)(hi:E n=some i)(hz:i.z=false)
  (hother:∀k,k≠i.b→w'.heap[k]?=w.heap[k]?)(hsize:w'.heap.size=w.heap.size)(hos:w'.os=w.os)(htape:w'.tape=w.tape)(hout:w'.output=w.output)
  (hb:Ext E w (Zn E F w) E w' (Zn E (F.set n bl') w')→BRel E w' (Zn E (F.set n bl') w') n bl'):StepR E F w E (F.set n bl') w':=by
 have hN:NewAt E F w E (F.set n bl') w':=by
  refine ⟨Env.le.refl _,hos,htape,hout,by omega,fun k hk hno=>hother k (fun e=>hno n _ i hF ho hi hz e.symm),?_⟩;intro m b q hm hb hq hqn;unfold SF.set at hm;split at hm;·injection hm with hm;subst hm;rw[ho']at hb;cases hb
  ·exact .inr ⟨m,b,q,hm,hb,hq,hqn,rfl⟩
 refine hN.step ⟨?_,?_⟩
 ·intro m b hm;by_cases hmn:m=n
  ·subst hmn;simp only[SF.set,if_true]at hm;injection hm with hm;subst hm;exact hb hN.ext
  ·simp only[SF.set,if_neg hmn]at hm;by_cases hl:b.live=true
   ·refine (h.blk m b hm).mono hN.ext fun q hq hqn=>hother _ fun e=>?_
    exact h.sep n m bl b i q hF hm (fun e=>hmn e.symm) ho hl hi hq hz hqn e.symm
   ·exact (h.blk m b hm).still hl hN.ext.le
 ·intro m k b c p q hm hk hmk hbo hcl hp hq hpn hqn;simp only[SF.set]at hm hk;by_cases hmn:m=n;·rw[if_pos hmn]at hm;injection hm with hm;subst hm;rw[ho']at hbo;cases hbo
  ·rw[if_neg hmn]at hm;by_cases hkn:k=n
   ·subst hkn;exact h.sep m k b bl p q hm hF hmk hbo (zAe ho) hp hq hpn hqn
   ·rw[if_neg hkn]at hk;exact h.sep m k b c p q hm hk hmk hbo hcl hp hq hpn hqn
theorem zAJ{E:Env}{F:SF}{w:World}(h:HRel E F w){n:Nm}{i:BI}{e:TypeId}{wd:Nat}{own p:Bool}{rs:List (List PV)}(hF:F n=some (.rows e wd own p rs))
  (hi:E n=some i)(hn:i.z=false):RowsRel (EE E p) w (Zn E F w) i e wd own rs:=by
 obtain ⟨j,hj,hor⟩:=h.blk n _ hF;rw[hi]at hj;injection hj with hj;subst hj;rcases hor with ⟨q,_⟩|⟨_,q⟩;·rw[hn]at q;cases q
 ·exact q
theorem StepR.store{E:Env}{F:SF}{w:World}(P:Program)(h:HRel E F w){n:Nm}{e:TypeId}{wd:Nat}{p p':Bool}{rs:List (List PV)}{i:BI}
  (hF:F n=some (.rows e wd true p rs))(hi:E n=some i)(hz:i.z=false){r c:Nat}{row vs:List PV}{vs':List Value}(hr:rs[r]?=some row)(hc:c+vs.length≤wd)
  (hvs:VRl w (Zn E F w) E vs vs')(hp:p'=true→p=true∧nfl vs=true)(h1:∀v∈vs',v.oneCell'=true):
  ∃w',(storeCells ⟨i.b,i.o+(r*wd+c),none⟩ vs').run P w= .ok () w'∧StepR E F w E (F.set n (.rows e wd true p' (rs.set r (putAt row c vs)))) w':=by
 have hR:=zAJ h hF hi hz;obtain ⟨hvl,hvg⟩:=VRl.get hvs;obtain ⟨cs,fz,b1,b2,b3,b4⟩:=hR.cells;have hrl:r<rs.length:=zAB hr;have hlen:row.length=wd:=hR.len row (zO hr);have hrn:(r+1)*wd≤i.n*wd:=wN _ (by have:=hR.le;omega);have hexp:(r+1)*wd=r*wd+wd:=wV r wd;have hrun:=run_storeCells_cells (P:=P) i.b (i.o+(r*wd+c)) vs' 0 w
  (fun j hj=>by
   simp only[World.cell?,b1,vM,wC,if_false];rw[qH (by omega)];rfl)
  (fun j hj=>by
   have:=b3 rfl (i.o+(r*wd+c)+0+j) (by omega) (by omega);simp only[World.frozen?,b1];simpa using this) h1
 have hheap:=zAm i.b e fz vs' (i.o+(r*wd+c)+0) cs w b1;have hother:=fun k (hk:k≠i.b)=>zAW i.b k hk vs' (i.o+(r*wd+c)+0) w
 have hsize:=size_setCells i.b vs' (i.o+(r*wd+c)+0) w;obtain ⟨hos,htape,hout⟩:=os_setCells i.b vs' (i.o+(r*wd+c)+0) w;generalize w.setCells i.b (i.o+(r*wd+c)+0) vs'=w' at *;refine ⟨w',hrun,zUi h hF rfl rfl hi hz hother hsize hos htape hout fun hX=>?_⟩;have hE':Ext (EE E p) w (Zn E F w) (EE E p') w' (Zn E (F.set n (.rows e wd true p' (rs.set r (putAt row c vs)))) w'):=by
  refine ⟨?_,hX.zone,hX.heap⟩;cases p' with
  |true=>rw[(hp rfl).1];exact Env.le.refl _
  |false=>exact zKT E p
 have hold:=VRr.mono hE' _ _ _ b4;have hnew:VRl w' (Zn E (F.set n (.rows e wd true p' (rs.set r (putAt row c vs)))) w') (EE E p') vs vs':=zVM (fun hh=>(hp hh).2) (VRl.mono hX _ _ hvs);obtain ⟨c1,c2⟩:=VRr.put hR.len hold hr hc hnew h1 (by omega);exact ⟨i,hi,.inr ⟨hz,hR.wd_eq,hR.o0,hR.wd_pos,c1,by simpa using hR.le,hR.cap,_,fz,hheap,by rw[zAw];exact b2,b3,c2⟩⟩
end Go.Tx
end
section
namespace Go.Tx
open Go.Sx (TK tk zBe cellsOf zAD zCh zBI zAB zAO)
mutual
def ofV:Value→Option PV
 | .bool b=>some (.bool b)
 | .int k n=>some (.int k n)
 | .string ⟨⟨l⟩⟩=>some (.str l)
 | .pointer none=>some .nilP
 | .slice none 0 0=>some .nilS
 | .map none=>some .nilM
 | .nilFunc=>some .nilF
 | .nilIface=>some .nilI
 | .agg ⟨l⟩=>if l.all (·.oneCell') then (zKV l).map .agg else none
 | .tuple ⟨l⟩=>(zKV l).map .tup
 | .func f ⟨x⟩ ⟨y⟩=>(zKV x).bind fun x'=>(zKV y).map fun y'=>.fn f x' y'
 | .iface t v=>(ofV v).map (.ifc t)
 |_=>none
def zKV:List Value→Option (List PV)
 | []=>some []
 |v::l=>(ofV v).bind fun x=>(zKV l).map fun t=>x::t
end
mutual
theorem zMA{w:World}{Z:Nat→Prop}{E:Env}:∀(v:Value) (x:PV),ofV v=some x→VR w Z E x v
 | .bool b,x,h=>by simp[ofV]at h;subst h;simp[VR]
 | .int k n,x,h=>by simp[ofV]at h;subst h;simp[VR]
 | .string ⟨⟨l⟩⟩,x,h=>by simp[ofV]at h;subst h;simp[VR,zF8]
 | .pointer none,x,h=>by simp[ofV]at h;subst h;simp[VR]
 | .pointer (some _),x,h=>by simp[ofV]at h
 | .slice none 0 0,x,h=>by simp[ofV]at h;subst h;simp[VR]
 | .slice none 0 (_+1),x,h=>by simp[ofV]at h
 | .slice none (_+1) _,x,h=>by simp[ofV]at h
 | .slice (some _) _ _,x,h=>by simp[ofV]at h
 | .map none,x,h=>by simp[ofV]at h;subst h;simp[VR]
 | .map (some _),x,h=>by simp[ofV]at h
 | .nilFunc,x,h=>by simp[ofV]at h;subst h;simp[VR]
 | .nilIface,x,h=>by simp[ofV]at h;subst h;simp[VR]
 | .chan _,x,h=>by simp[ofV]at h
 | .float _ _,x,h=>by simp[ofV]at h
 | .complex _ _ _,x,h=>by simp[ofV]at h
 | .agg ⟨l⟩,x,h=>by
  simp only[ofV]at h;split at h
  ·rename_i h1;simp only[zV]at h;obtain ⟨l',h2,rfl⟩:=h;simp only[VR];exact ⟨l,rfl,by simpa using h1,zFS l l' h2⟩
  ·cases h
 | .tuple ⟨l⟩,x,h=>by
  simp only[ofV,zV]at h;obtain ⟨l',h2,rfl⟩:=h;simp only[VR];exact ⟨l,rfl,zFS l l' h2⟩
 | .func f ⟨a⟩ ⟨b⟩,x,h=>by
  simp only[ofV,zM,zV]at h;obtain ⟨a',h1,b',h2,rfl⟩:=h;simp only[VR];exact ⟨a,b,rfl,zFS a a' h1,zFS b b' h2⟩
 | .iface t v,x,h=>by
  simp only[ofV,zV]at h;obtain ⟨v',h1,rfl⟩:=h;simp only[VR];exact ⟨v,rfl,zMA v v' h1⟩
theorem zFS{w:World}{Z:Nat→Prop}{E:Env}:∀(v:List Value) (x:List PV),zKV v=some x→VRl w Z E x v
 | [],x,h=>by simp[zKV]at h;subst h;simp[VRl]
 |v::l,x,h=>by
  simp only[zKV,zM,zV]at h;obtain ⟨y,h1,t,h2,rfl⟩:=h;simp only[VRl];exact ⟨v,l,rfl,zMA v y h1,zFS l t h2⟩
end
mutual
theorem zPM:∀(v:Value) (x:PV),ofV v=some x→nf x=true
 | .bool b,x,h=>by simp[ofV]at h;subst h;rfl
 | .int k n,x,h=>by simp[ofV]at h;subst h;rfl
 | .string ⟨⟨l⟩⟩,x,h=>by simp[ofV]at h;subst h;rfl
 | .pointer none,x,h=>by simp[ofV]at h;subst h;rfl
 | .pointer (some _),x,h=>by simp[ofV]at h
 | .slice none 0 0,x,h=>by simp[ofV]at h;subst h;rfl
 | .slice none 0 (_+1),x,h=>by simp[ofV]at h
 | .slice none (_+1) _,x,h=>by simp[ofV]at h
 | .slice (some _) _ _,x,h=>by simp[ofV]at h
 | .map none,x,h=>by simp[ofV]at h;subst h;rfl
 | .map (some _),x,h=>by simp[ofV]at h
 | .nilFunc,x,h=>by simp[ofV]at h;subst h;rfl
 | .nilIface,x,h=>by simp[ofV]at h;subst h;rfl
 | .chan _,x,h=>by simp[ofV]at h
 | .float _ _,x,h=>by simp[ofV]at h
 | .complex _ _ _,x,h=>by simp[ofV]at h
 | .agg ⟨l⟩,x,h=>by
  simp only[ofV]at h;split at h
  ·simp only[zV]at h;obtain ⟨l',h2,rfl⟩:=h;simpa[nf] using zFT l l' h2
  ·cases h
 | .tuple ⟨l⟩,x,h=>by
  simp only[ofV,zV]at h;obtain ⟨l',h2,rfl⟩:=h;simpa[nf] using zFT l l' h2
 | .func f ⟨a⟩ ⟨b⟩,x,h=>by
  simp only[ofV,zM,zV]at h;obtain ⟨a',h1,b',h2,rfl⟩:=h;simp[nf,zFT a a' h1,zFT b b' h2]
 | .iface t v,x,h=>by
  simp only[ofV,zV]at h;obtain ⟨v',h1,rfl⟩:=h;simpa[nf] using zPM v v' h1
theorem zFT:∀(v:List Value) (x:List PV),zKV v=some x→nfl x=true
 | [],x,h=>by simp[zKV]at h;subst h;rfl
 |v::l,x,h=>by
  simp only[zKV,zM,zV]at h;obtain ⟨y,h1,t,h2,rfl⟩:=h;simp[nfl,zPM v y h1,zFT l t h2]
end
structure TI where
 k:TK
 zero:List PV
 size:Nat
 bytes:Nat
 eq:Bool:=false
 lies:List (Nat×TypeId):=[]
structure TOk (P:Program) (t:TypeId) (i:TI) (z:Value):Prop where
 sx:Sx.TOk P t ⟨i.k,z,i.size,i.bytes,i.eq⟩
 zero:zKV (cellsOf z)=some i.zero
 li:∀x∈i.lies,rowAt P (sameLayout P P.depth · x.2) P.depth t 1 x.1 1=true
abbrev Tys:=List (TypeId×TI)
def Tys.get(T:Tys)(t:TypeId):Option TI:=
 match T with
 | []=>none
 |(u,i)::l=>if u==t then some i else Tys.get l t
def Tys.Ok(P:Program)(T:Tys):Prop:=∀t i,T.get t=some i→∃z,TOk P t i z
section
variable {P : Program} {t : TypeId} {i : TI} {z : Value}
theorem TOk.run_underlying(h:TOk P t i z)(w:World):∃d,(underlying t).run P w= .ok d w∧tk d=i.k:=h.sx.run_underlying w
theorem TOk.run_sizeOf(h:TOk P t i z)(w:World):(sizeOf t).run P w= .ok i.size w:=h.sx.run_sizeOf w
theorem TOk.run_zeroValue(h:TOk P t i z)(w:World):(zeroValue t).run P w= .ok z w:=h.sx.run_zeroValue w
theorem TOk.run_isAgg(h:TOk P t i z)(w:World):(isAgg t).run P w= .ok (zBe i.k) w:=h.sx.run_isAgg w
theorem TOk.one(h:TOk P t i z):∀u∈cellsOf z,u.oneCell'=true:=by have:=h.sx.one;simpa using this
theorem TOk.sz(h:TOk P t i z):(cellsOf z).length=i.size:=h.sx.sz
theorem TOk.vr(h:TOk P t i z)(w:World)(Z:Nat→Prop)(E:Env):VRl w Z E i.zero (cellsOf z):=zFS _ _ h.zero
theorem TOk.zsz(h:TOk P t i z):i.zero.length=i.size:=by
 have:=(VRl.get (h.vr default (fun _=>True) Env.no)).1;rw[←this,h.sz]
end
structure Res where
 vc:Prop
 v:PV
 upd:List (Nm×SBlk)
 rd:List Nm
def zAH(p:Prop)(v:PV):Res:={vc:=p,v:=v,upd:=[],rd:=[]}
def zBp(i:TI):Bool:=zBe i.k
def zAN:PV:=.tup []
def zCC(i:TI)(wd:Nat)(rs:List (List PV))(r c:Nat)(rd:List Nm):Res:=
 if zBp i then
  {vc:=r<rs.length∧c+i.size≤wd,v:=.agg (if c==0&&i.size==wd then rs.getD r [] else ((rs.getD r []).drop c).take i.size),upd:=[],rd:=rd}
 else {vc:=r<rs.length∧c<wd,v:=(rs.getD r []).getD c zAN,upd:=[],rd:=rd}
def zBq(T:Tys)(F:SF)(t:TypeId):PV→Option Res
 | .ptr n r c=>
  match T.get t,F n with
  |some i,some (.rows _ wd _ _ rs)=>some (zCC i wd rs r c [n])
  |_,_=>none
 | .fp wd rs r c=>
  match T.get t with
  |some i=>some (zCC i wd rs r c [])
  |none=>none
 |_=>none
def zGb:PV→Option (List PV)
 | .agg l=>some l
 | .tup _=>none
 |v=>some [v]
def zCB(T:Tys)(F:SF)(t:TypeId)(p v:PV):Option Res:=
 match p with
 | .ptr n r c=>
  match T.get t,F n,zGb v with
  |some i,some (.rows e wd true p rs),some vs=>
   some {vc:=r<rs.length∧c+i.size≤wd∧vs.length=i.size,v:=zAN,upd:=[(n,.rows e wd true (p&&nfl vs) (rs.set r (putAt (rs.getD r []) c vs)))],rd:=[n]}
  |_,_,_=>none
 |_=>none
def zCT(T:Tys)(nx:Nm)(t:TypeId):Option Res:=
 match T.get t with
 |some i=>if i.size==0 then none else some {vc:=True,v:=.ptr nx 0 0,upd:=[(nx,.rows t i.size true true [i.zero])],rd:=[]}
 |none=>none
def zKW(T:Tys)(nx:Nm)(t:TypeId)(v:PV):Option Res:=
 match T.get t,zGb v with
 |some i,some vs=>if i.size==0 then none else some {vc:=vs.length=i.size,v:=.ptr nx 0 0,upd:=[(nx,.rows t i.size true (nfl vs) [vs])],rd:=[]}
 |_,_=>none
def zES(P:Program)(K:Value→World→Prop):Result Next→Prop:=Sx.zES P K
def FreshIn(E E':Env)(nx:Nm):Prop:=∀k,E k=none→E' k≠none→k.l=nx.l∧nx.i≤k.i∧k.i<nx.i+32
theorem FreshIn.refl(E:Env)(nx:Nm):FreshIn E E nx:=fun _ h h'=>absurd h h'
theorem FreshIn.set{E:Env}{nx:Nm}{i:BI}:FreshIn E (E.set nx i) nx:=by
 intro q hq hq';by_cases h:q=nx;·subst h;exact ⟨rfl,zH _,by omega⟩
 ·rw[zUP E _ h]at hq';exact absurd hq hq'
def Gives(E:Env)(F:SF)(nx:Nm)(w:World)(r:Res)(v':Value)(w':World):Prop:=
 ∃E',VR w' (Zn E' (F.upd r.upd) w') E' r.v v'∧StepR E F w E' (F.upd r.upd) w'∧FreshIn E E' nx
section
variable {P : Program} {T : Tys} {E : Env} {F : SF} {nx : Nm} {w : World}
theorem Gives.still{r:Res}{v':Value}(h:HRel E F w)(hu:r.upd=[])(hv:VR w (Zn E F w) E r.v v'):Gives E F nx w r v' w:=
 ⟨E,by rw[hu];exact hv,by rw[hu];exact StepR.refl h,FreshIn.refl _ _⟩
theorem zBr{Z:Nat→Prop}:VR w Z E zAN undef:=by simp only[zAN,VR,VRl];exact ⟨[],rfl,rfl⟩
theorem zDG{Z:Nat→Prop}{t:TypeId}{ti:TI}{z:Value}(ht:TOk P t ti z){E1:Env}{b o e wd:Nat}{cs:Array Value}{fz:Nat×Nat}{rs:List (List PV)}(hb:w.heap[b]?=some (.cells cs e fz))
  (hl:∀row∈rs,row.length=wd)(hv:VRr w Z E1 rs o cs){row c:Nat}{rd:List Nm}(hvc:(zCC ti wd rs row c rd).vc):
  ∃v',(Instr.loadAt t (.pointer (some ⟨b,o+(row*wd+c),none⟩))).run P w= .ok v' w∧VR w Z E1 (zCC ti wd rs row c rd).v v':=by
 unfold zCC at hvc ⊢;split at hvc
 ·rename_i hagg;rw[if_pos hagg];obtain ⟨h1,h2⟩:=hvc;have hrow:=zAO [] h1;obtain ⟨vs,a1,a2,a3,_,a4⟩:=zL9 P hb hl hv (c:=c) (k:=ti.size) hrow h2;refine ⟨.agg vs.toArray,?_,?_⟩
  ·simp only[Instr.loadAt,Instr.sureAddr,loadVar,zB,zI,zD,ht.run_isAgg w];simp only[zBp]at hagg;simp only[hagg,if_true,zB,zD,ht.run_sizeOf w];rw[a4];rfl
  ·have hl:(if (c==0&&ti.size==wd)=true then rs.getD row [] else ((rs.getD row []).drop c).take ti.size)=((rs.getD row []).drop c).take ti.size:=by
    split
    ·rename_i hc;simp only[zC,beq_iff_eq]at hc;obtain ⟨rfl,hsz⟩:=hc;have:=hl _ (zO hrow);rw[uU,zQ (by omega)]
    ·rfl
   simp only[hl,VR];exact ⟨vs,rfl,a3,a1⟩
 ·rename_i hagg;rw[if_neg hagg];obtain ⟨h1,h2⟩:=hvc;have hrow:=zAO [] h1;have hlen:=hl _ (zO hrow);have hcell:=zAO zAN (l:=rs.getD row []) (r:=c) (by omega);obtain ⟨v',b1,b2,b3⟩:=(zAM hl).1 hv _ _ _ _ hrow hcell;refine ⟨v',?_,b3⟩;simp only[Instr.loadAt,Instr.sureAddr,loadVar,zB,zI,zD,ht.run_isAgg w];simp only[zBp]at hagg;simp only[hagg,wC,if_false];simp[World.cell?,hb,b1]
theorem zHc(hT:T.Ok P)(h:HRel E F w){t:TypeId}{p:PV}{p':Value}{r:Res}
  (hs:zBq T F t p=some r)(hv:r.vc)(hp:VR w (Zn E F w) E p p'):∃v',(Instr.loadAt t p').run P w= .ok v' w∧Gives E F nx w r v' w:=by
 unfold zBq at hs;split at hs
 ·rename_i n row c;split at hs;rotate_left;·cases hs
  rename_i ti e wd own p rs hti hF;obtain ⟨z,ht⟩:=hT _ _ hti;simp only[VR]at hp;obtain ⟨i,hi,hn,rfl⟩:=hp;have hR:=zAJ h hF hi hn;injection hs with hs;subst hs;obtain ⟨cs,fz,b1,b2,b3,b4⟩:=hR.cells;obtain ⟨v',r1,r2⟩:=zDG ht b1 hR.len b4 hv;rw[hR.wd_eq];refine ⟨v',r1,Gives.still h (by unfold zCC;split<;>rfl) (VR.up r2)⟩
 ·rename_i wd rs row c;split at hs;rotate_left;·cases hs
  rename_i ti hti;obtain ⟨z,ht⟩:=hT _ _ hti;simp only[VR]at hp;obtain ⟨b,o,cs,e,fz,rfl,h2,h3,h4,h5,h6⟩:=hp;injection hs with hs;subst hs;obtain ⟨v',r1,r2⟩:=zDG ht h3 h5 h6 hv;exact ⟨v',r1,Gives.still h (by unfold zCC;split<;>rfl) (VR.mono ⟨zUT _,fun _ h=>h,fun _ _=>rfl⟩ _ _ r2)⟩
 ·cases hs
theorem zJg(hT:T.Ok P)(h:HRel E F w){t:TypeId}{p:PV}{p':Value}{r:Res}
  (hs:zBq T F t p=some r)(hv:r.vc)(hp:VR w (Zn E F w) E p p'):∃v',(Instr.loadAt t p').run P w= .ok v' w∧VR w (Zn E F w) E r.v v':=by
 unfold zBq at hs;split at hs
 ·rename_i n row c;split at hs;rotate_left;·cases hs
  rename_i ti e wd own p rs hti hF;obtain ⟨z,ht⟩:=hT _ _ hti;simp only[VR]at hp;obtain ⟨i,hi,hn,rfl⟩:=hp;have hR:=zAJ h hF hi hn;injection hs with hs;subst hs;obtain ⟨cs,fz,b1,b2,b3,b4⟩:=hR.cells;obtain ⟨v',r1,r2⟩:=zDG ht b1 hR.len b4 hv;rw[hR.wd_eq];exact ⟨v',r1,VR.up r2⟩
 ·rename_i wd rs row c;split at hs;rotate_left;·cases hs
  rename_i ti hti;obtain ⟨z,ht⟩:=hT _ _ hti;simp only[VR]at hp;obtain ⟨b,o,cs,e,fz,rfl,h2,h3,h4,h5,h6⟩:=hp;injection hs with hs;subst hs;obtain ⟨v',r1,r2⟩:=zDG ht h3 h5 h6 hv;exact ⟨v',r1,VR.mono ⟨zUT _,fun _ h=>h,fun _ _=>rfl⟩ _ _ r2⟩
 ·cases hs
theorem zGM{Z:Nat→Prop}{v:PV}{v':Value}{vs:List PV}(h:VR w Z E v v')(hc:zGb v=some vs):
  VRl w Z E vs (cellsOf v')∧∀u∈cellsOf v',u.oneCell'=true:=by
 have simple:∀(x:PV) (x':Value),cellsOf x'=[x']→x'.oneCell'=true→VR w Z E x x'→VRl w Z E [x] (cellsOf x')∧∀u∈cellsOf x',u.oneCell'=true:=by
  intro x x' e2 e3 e4;rw[e2];refine ⟨?_,by simpa using e3⟩;simp only[VRl];exact ⟨x',[],rfl,e4,rfl⟩
 have h0:=h;cases v<;>simp only[zGb,zZ,reduceCtorEq]at hc<;>(try subst hc)<;>simp only[VR]at h
 case agg l=>
  obtain ⟨l',rfl,h2,h3⟩:=h;exact ⟨h3,h2⟩
 case ptr=>obtain ⟨i,_,_,rfl⟩:=h;exact simple _ _ rfl rfl h0
 case sl=>
  obtain ⟨i,_,h⟩:=h;rcases h with ⟨_,_,rfl⟩|⟨_,rfl⟩<;>exact simple _ _ rfl rfl h0
 case mp=>obtain ⟨i,_,_,rfl⟩:=h;exact simple _ _ rfl rfl h0
 case fp=>obtain ⟨_,_,_,_,_,rfl,_⟩:=h;exact simple _ _ rfl rfl h0
 case fs=>obtain ⟨_,_,rfl,_⟩:=h;exact simple _ _ rfl rfl h0
 case fm=>obtain ⟨_,_,_,rfl,_⟩:=h;exact simple _ _ rfl rfl h0
 case fn=>obtain ⟨_,_,rfl,_⟩:=h;exact simple _ _ rfl rfl h0
 case ifc=>obtain ⟨_,rfl,_⟩:=h;exact simple _ _ rfl rfl h0
 all_goals (subst h;exact simple _ _ rfl rfl h0)
theorem zGZ(hT:T.Ok P)(h:HRel E F w){t:TypeId}{p v:PV}{p' v':Value}{r:Res}
  (hs:zCB T F t p v=some r)(hvc:r.vc)(hp:VR w (Zn E F w) E p p')(hv:VR w (Zn E F w) E v v'):∃w',(Instr.storeAt t p' v').run P w= .ok () w'∧Gives E F nx w r undef w':=by
 unfold zCB at hs;split at hs;rotate_left;·cases hs
 rename_i n row c;split at hs;rotate_left;·cases hs
 rename_i ti e wd pu rs vs hti hF hcv;obtain ⟨z,ht⟩:=hT _ _ hti;simp only[VR]at hp;obtain ⟨i,hi,hn,rfl⟩:=hp;have hR:=zAJ h hF hi hn;have hw:=hR.wd_eq;injection hs with hs;subst hs;obtain ⟨h1,h2,h3⟩:=hvc;have hrow:=zAO [] h1;obtain ⟨c1,c2⟩:=zGM hv hcv;have hl:(cellsOf v').length=ti.size:=by rw[(VRl.get c1).1,h3]
 obtain ⟨w',r1,r2⟩:=StepR.store (p':=pu&&nfl vs) P h hF hi hn hrow (c:=c) (by omega) c1 (by simp) c2;refine ⟨w',?_,E,zBr,r2,FreshIn.refl _ _⟩;have hsz:v'.cells.size=ti.size:=by rw[←vA,zAD,hl]
 simp only[Instr.storeAt,Instr.sureAddr,storeVar,zB,zI,zD,ht.run_sizeOf w,hsz,ne_eq,not_true_eq_false,if_false];rw[hw,zAD,r1]
theorem zCu{t:TypeId}{size:Nat}{vs:List PV}{vs':List Value}(nx:Nm)(hE:E nx=none)(hl:vs.length=size)(hsz:0<size){p:Bool}(hp:p=true→nfl vs=true)(hv:VRl w (Zn E F w) E vs vs')(h1:∀u∈vs',u.oneCell'=true)
  (Z':Nat→Prop)(hZ:∀k,Zn E F w k→Z' k):BRel (E.set nx ⟨w.heap.size,0,size,1,false,none⟩) (w.alloc (.cells vs'.toArray t)) Z' nx (.rows t size true p [vs]):=by
 have hle:=zUV (i:=⟨w.heap.size,0,size,1,false,none⟩) hE;obtain ⟨g1,g2⟩:=VRl.get hv;have hX:Ext E w (Zn E F w) (E.set nx ⟨w.heap.size,0,size,1,false,none⟩) (w.alloc (.cells vs'.toArray t)) Z':=⟨hle,hZ,fun b hb=>RowKit.Below.heap_alloc w _ b hb.1⟩;have hv':=zVM (p:=p) hp (VRl.mono hX _ _ hv);obtain ⟨_,g3⟩:=VRl.get hv';refine ⟨_,zUO _ _ _,.inr ⟨rfl,rfl,rfl,hsz,by simpa using hl,by simp,by simp[maxLen],vs'.toArray,(0,0),?_,?_,?_,?_⟩⟩
 ·show (w.heap.push _)[w.heap.size]?=_;simp
 ·simp;omega
 ·intro _ j _ _;simp
 ·rw[zAM (wd:=size) (by simpa using hl)];intro r row c v hr hc;cases r with
  |zero=>
   simp at hr;subst hr;obtain ⟨v',a1,a2⟩:=g3 c v hc;exact ⟨v',by simpa using a1,h1 v' (zO a1),a2⟩
  |succ r=>simp at hr
theorem zGa(hT:T.Ok P)(h:HRel E F w)(hE:E nx=none){t:TypeId}{r:Res}
  (hs:zCT T nx t=some r):∃v' w',(Instr.alloc t true (.tuple #[])).run P w= .ok v' w'∧Gives E F nx w r v' w':=by
 unfold zCT at hs;split at hs;rotate_left;·cases hs
 rename_i ti hti;obtain ⟨z,ht⟩:=hT _ _ hti;split at hs;·cases hs
 rename_i hsz;injection hs with hs;subst hs;have hsz':0<ti.size:=by simp at hsz;omega
 refine ⟨.pointer (some ⟨w.heap.size,0,none⟩),w.alloc (.cells (cellsOf z).toArray t),?_,E.set nx ⟨w.heap.size,0,ti.size,1,false,none⟩,?_,?_,?_⟩;·simp[Instr.alloc,ht.run_zeroValue w,zBI]
 ·simp only[VR];exact ⟨_,zUO _ _ _,rfl,by simp⟩
 ·exact zUY h hE _ ⟨w.heap.size,0,ti.size,1,false,none⟩ _ rfl (zCu nx hE ht.zsz hsz' (fun _=>zFT _ _ ht.zero) (ht.vr _ _ _) ht.one)
 ·exact FreshIn.set
theorem zIt(h:HRel E F w)(hE:E nx=none){t:TypeId}{v:PV}{v':Value}{r:Res}
  (hs:zKW T nx t v=some r)(hvc:r.vc)(hv:VR w (Zn E F w) E v v'):∃u' w',(Instr.box t v').run P w= .ok u' w'∧Gives E F nx w r u' w':=by
 unfold zKW at hs;split at hs;rotate_left;·cases hs
 rename_i ti vs hti hcv;split at hs;·cases hs
 rename_i hsz;injection hs with hs;subst hs;have hsz':0<ti.size:=by simp at hsz;omega
 obtain ⟨c1,c2⟩:=zGM hv hcv;refine ⟨.pointer (some ⟨w.heap.size,0,none⟩),w.alloc (.cells (cellsOf v').toArray t),?_,E.set nx ⟨w.heap.size,0,ti.size,1,false,none⟩,?_,?_,?_⟩;·simp[Instr.box,zBI]
 ·simp only[VR];exact ⟨_,zUO _ _ _,rfl,by simp⟩
 ·exact zUY h hE _ ⟨w.heap.size,0,ti.size,1,false,none⟩ _ rfl (zCu nx hE hvc hsz' (fun h=>h) c1 c2)
 ·exact FreshIn.set
end
end Go.Tx
end
section
namespace Go.Sx
def zCn(n:Int):Prop:= -9223372036854775808≤n∧n≤9223372036854775807
def zFU(op:BinOp)(k:IntKind)(x y:Int):Int:=
 let a:=BitVec.ofInt k.bits x
 let b:=BitVec.ofInt k.bits y
 match op with
 | .and=>k.wrap (a &&& b).toNat
 | .or=>k.wrap (a ||| b).toNat
 | .xor=>k.wrap (a ^^^ b).toNat
 |_=>k.wrap (a &&& ~~~b).toNat
theorem wrap_i64{n:Int}(h:zCn n):IntKind.i64.wrap n=n:=by
 obtain ⟨h1,h2⟩:=h;simp only[IntKind.wrap,IntKind.bits,IntKind.signed,zR];split;·rename_i h;simp at h;omega
 ·rename_i h;simp at h;omega
noncomputable def zFs(op:BinOp)(k:IntKind)(a b:Int):Option (Prop×Value):=
 match op with
 | .add=>if k= .i64 then some (zCn (a+b),.int k (a+b)) else some (True,.int k (k.wrap (a+b)))
 | .sub=>if k= .i64 then some (zCn (a-b),.int k (a-b)) else some (True,.int k (k.wrap (a-b)))
 | .mul=>if k= .i64 then some (zCn (a*b),.int k (a*b)) else some (True,.int k (k.wrap (a*b)))
 | .quo=>if k= .i64 then some (b≠0∧zCn (a.tdiv b),.int k (a.tdiv b)) else some (b≠0,.int k (k.wrap (a.tdiv b)))
 | .rem=>some (b≠0,.int k (a.tmod b))
 | .and=>some (True,.int k (zFU .and k a b))
 | .or=>some (True,.int k (zFU .or k a b))
 | .xor=>some (True,.int k (zFU .xor k a b))
 | .andNot=>some (True,.int k (zFU .andNot k a b))
 | .eql=>some (True,.bool (a==b))
 | .neq=>some (True,.bool (a !=b))
 | .lss=>some (True,.bool (decide (a<b)))
 | .leq=>some (True,.bool (decide (a≤b)))
 | .gtr=>some (True,.bool (decide (b<a)))
 | .geq=>some (True,.bool (decide (b≤a)))
 |_=>none
noncomputable def zGc(T:Tys)(op:BinOp)(t:TypeId)(a b:Value):Option (Prop×Value):=
 match op,a,b with
 | .shl,.int k a,.int _ b=>some (0≤b,.int k (k.wrap (a*2^(min b.toNat k.bits))))
 | .shr,.int k a,.int _ b=>some (0≤b,.int k (a.fdiv (2^(min b.toNat k.bits))))
 |op,.int k a,.int k' b=>if k=k' then zFs op k a b else none
 | .add,.string a,.string b=>some (a.size+b.size≤9223372036854775807,.string (a++b))
 | .eql,.string a,.string b=>some (True,.bool (decide (a=b)))
 | .neq,.string a,.string b=>some (True,.bool (!decide (a=b)))
 | .eql,.bool a,.bool b=>match T.get t with|some {k:=.bool,..}=>some (True,.bool (a==b))|_=>none
 | .neq,.bool a,.bool b=>match T.get t with|some {k:=.bool,..}=>some (True,.bool (!(a==b)))|_=>none
 | .eql,.iface _ _,.nilIface=>match T.get t with|some {k:=.iface,..}=>some (True,.bool false)|_=>none
 | .neq,.iface _ _,.nilIface=>match T.get t with|some {k:=.iface,..}=>some (True,.bool true)|_=>none
 |_,_,_=>none
theorem toList_inj{a b:ByteArray}:(a.toList==b.toList)=decide (a=b):=by
 have key:a.toList=b.toList↔a=b:=by
  constructor
  ·intro h;have h1:a.data.toList=b.data.toList:=by
    simpa only[ByteArray.toList_eq] using h
   cases a;cases b;congr 1;exact vG h1
  ·rintro rfl;rfl
 rw[qB];simp[key]
theorem zAE(P:Program)(w:World)(op:BinOp)(t:TypeId)(x y:Operand)(a b:Value)(h:(match a,b with| .nilIface,.nilIface=>false| .agg _,.agg _=>false|_,_=>true)=true):
  (eqGuard op t x y a b).run P w= .ok () w:=by
 cases op<;>cases a<;>cases b<;>first|rfl|simp at h
theorem zGd{P:Program}{w:World}{op:BinOp}{k:IntKind}{a b:Int}{p:Prop}{v:Value}{t:TypeId}(h:zFs op k a b=some (p,v))(hp:p):
    (binOp op t (.int k a) (.int k b)).run P w= .ok v w∧plain v=true:=by
  cases op<;>simp only[zFs]at h<;>first
    |(cases h;done)
    |(injection h with h;injection h with h1 h2;subst h1;subst h2;refine ⟨?_,rfl⟩;simp[binOp,Op.intCmp];done)
    |(injection h with h;injection h with h1 h2;subst h1;subst h2;refine ⟨?_,rfl⟩;simp[binOp,Op.intBits,zFU];done)
    |(injection h with h;injection h with h1 h2;subst h1;subst h2;refine ⟨?_,rfl⟩;simp[binOp,Op.intDiv,hp];done)
    | (split at h
       · rename_i hk;subst hk;injection h with h;injection h with h1 h2;subst h1;subst h2
         refine ⟨?_,rfl⟩;simp[binOp,Op.intArith,wrap_i64 hp]
         done
       · injection h with h;injection h with h1 h2;subst h1;subst h2
         refine ⟨?_,rfl⟩;simp[binOp,Op.intArith]
         done)
    | (split at h
       · rename_i hk;subst hk;injection h with h;injection h with h1 h2;subst h1;subst h2
         refine ⟨?_,rfl⟩;simp[binOp,Op.intDiv,hp.1,wrap_i64 hp.2]
         done
       · injection h with h;injection h with h1 h2;subst h1;subst h2
         refine ⟨?_,rfl⟩;simp[binOp,Op.intDiv,hp]
         done)
theorem zFt{P:Program}{w:World}{t:TypeId}{x y:Value}{b:Bool}(h:∀d,(Op.equalIn (d+1) t x y).run P w= .ok b w):(Op.equal t x y).run P w= .ok b w:=by
 unfold Op.equal Op.maxDepth;exact h 9999
theorem run_equal_bool{P:Program}{w:World}{t:TypeId}(a b:Bool)(hd:(underlying t).run P w= .ok .bool w):(Op.equal t (.bool a) (.bool b)).run P w= .ok (a==b) w:=
 zFt fun n=>by simp[Op.equalIn,hd]
theorem zA1{P:Program}{w:World}{t u:TypeId}{v:Value}{ms:Array (String×TypeId)}(hd:(underlying t).run P w= .ok (.interface ms) w):(Op.equal t (.iface u v) .nilIface).run P w= .ok false w:=
 zFt fun n=>by simp[Op.equalIn,hd]
theorem zIu{P:Program}{T:Tys}(hT:T.Ok P){E:Env}{w:World}{op:BinOp}{t:TypeId}{a b a' b':Value}{p:Prop}{v:Value}(x y:Operand)(h:zGc T op t a b=some (p,v))(hp:p)
  (ha:dv E a=some a')(hb:dv E b=some b'):(do eqGuard op t x y a' b';binOp op t a' b':Sem Value).run P w= .ok v w∧plain v=true:=by
 unfold zGc at h;split at h
 ·simp[dv]at ha hb;subst ha;subst hb;injection h with h;injection h with h1 h2;subst h1;subst h2;refine ⟨?_,rfl⟩;rw[zB,zAE _ _ _ _ _ _ _ _ rfl];simp[binOp,Op.shift,show ¬_<(0:Int) from Int.not_lt.2 hp]
 ·simp[dv]at ha hb;subst ha;subst hb;injection h with h;injection h with h1 h2;subst h1;subst h2;refine ⟨?_,rfl⟩;rw[zB,zAE _ _ _ _ _ _ _ _ rfl];simp[binOp,Op.shift,show ¬_<(0:Int) from Int.not_lt.2 hp]
 ·simp[dv]at ha hb;subst ha;subst hb;split at h
  ·rename_i hk;subst hk;obtain ⟨r1,r2⟩:=zGd (P:=P) (w:=w) (t:=t) h hp;refine ⟨?_,r2⟩;rw[zB,zAE _ _ _ _ _ _ _ _ rfl];exact r1
  ·cases h
 ·simp[dv]at ha hb;subst ha;subst hb;injection h with h;injection h with h1 h2;subst h1;subst h2;refine ⟨?_,rfl⟩;rw[zB,zAE _ _ _ _ _ _ _ _ rfl];rename_i sa sb;have hle:¬((sa.size+sb.size:Nat):Int)>IntKind.i64.max:=by
   have:IntKind.i64.max=9223372036854775807:=by decide
   rw[this];omega
  simp only[binOp,Op.stringOp,zD];rw[if_neg hle];rfl
 ·simp[dv]at ha hb;subst ha;subst hb;injection h with h;injection h with h1 h2;subst h1;subst h2;refine ⟨?_,rfl⟩;rw[zB,zAE _ _ _ _ _ _ _ _ rfl];simp[binOp,Op.stringOp,toList_inj]
 ·simp[dv]at ha hb;subst ha;subst hb;injection h with h;injection h with h1 h2;subst h1;subst h2;refine ⟨?_,rfl⟩;rw[zB,zAE _ _ _ _ _ _ _ _ rfl];simp[binOp,Op.stringOp,toList_inj]
 ·simp[dv]at ha hb;subst ha;subst hb;split at h;rotate_left;·cases h
  rename_i hti;injection h with h;injection h with h1 h2;subst h1;subst h2;refine ⟨?_,rfl⟩;obtain ⟨d,hd,hk⟩:=(hT _ _ hti).run_underlying w;have hd':d= .bool:=by cases d<;>simp[tk]at hk<;>rfl
  subst hd';rw[zB,zAE _ _ _ _ _ _ _ _ rfl];simp[binOp,run_equal_bool _ _ hd]
 ·simp[dv]at ha hb;subst ha;subst hb;split at h;rotate_left;·cases h
  rename_i hti;injection h with h;injection h with h1 h2;subst h1;subst h2;refine ⟨?_,rfl⟩;obtain ⟨d,hd,hk⟩:=(hT _ _ hti).run_underlying w;have hd':d= .bool:=by cases d<;>simp[tk]at hk<;>rfl
  subst hd';rw[zB,zAE _ _ _ _ _ _ _ _ rfl];simp[binOp,run_equal_bool _ _ hd]
 ·simp only[dv,zV]at ha;simp[dv]at hb;subst hb;obtain ⟨u,_,rfl⟩:=ha;split at h;rotate_left;·cases h
  rename_i hti;injection h with h;injection h with h1 h2;subst h1;subst h2;refine ⟨?_,rfl⟩;obtain ⟨d,hd,hk⟩:=(hT _ _ hti).run_underlying w;have hd':∃ms,d= .interface ms:=by cases d<;>simp[tk]at hk<;>exact ⟨_,rfl⟩
  obtain ⟨ms,rfl⟩:=hd';rw[zB,zAE _ _ _ _ _ _ _ _ rfl];simp[binOp,zA1 hd]
 ·simp only[dv,zV]at ha;simp[dv]at hb;subst hb;obtain ⟨u,_,rfl⟩:=ha;split at h;rotate_left;·cases h
  rename_i hti;injection h with h;injection h with h1 h2;subst h1;subst h2;refine ⟨?_,rfl⟩;obtain ⟨d,hd,hk⟩:=(hT _ _ hti).run_underlying w;have hd':∃ms,d= .interface ms:=by cases d<;>simp[tk]at hk<;>exact ⟨_,rfl⟩
  obtain ⟨ms,rfl⟩:=hd';rw[zB,zAE _ _ _ _ _ _ _ _ rfl];simp[binOp,zA1 hd]
 ·cases h
def zAH(p:Prop)(v:Value):Res:={vc:=p,v:=v,upd:=[],rd:=[]}
noncomputable def zDH(T:Tys)(s:TypeId)(x:Value)(f:Nat):Option Res:=
 match x with
 | .pointer (some ⟨n,r,some c⟩)=>
  match T.get s with
  | some {k:=.struct fs,..}=>
   match fs[f]? with
   |some (off,ft)=>
    match T.get ft with
    |some fi=>if fi.size==0 then none else some (zAH True (.pointer (some ⟨n,r,some (c+off)⟩)))
    |none=>none
   |none=>none
  |_=>none
 |_=>none
noncomputable def zAy(T:Tys)(F:SF)(t:TypeId)(x i:Value):Option Res:=
 match i with
 | .int _ i=>
  match T.get t,x with
  | some {k:=.slice e,..},.slice (some ⟨n,r,some c⟩) l _=>
   match F n,T.get e with
   |some (.rows _ wd _ _ _),some ei=>
    if c==0&&ei.size==wd then some {vc:=0≤i∧i<l,v:=.pointer (some ⟨n,r+i.toNat,some 0⟩),upd:=[],rd:=[n]} else none
   |_,_=>none
  |some {k:=.array len e,..},.pointer (some ⟨n,r,some c⟩)=>
   match T.get e with
   |some ei=>some {vc:=0≤i∧i<len,v:=.pointer (some ⟨n,r,some (c+i.toNat*ei.size)⟩),upd:=[],rd:=[n]}
   |none=>none
  |_,_=>none
 |_=>none
noncomputable def zDI(T:Tys)(t:TypeId)(x i:Value):Option Res:=
 match i with
 | .int _ i=>
  match T.get t,x with
  |some {k:=.str,..},.string s=>some (zAH (0≤i∧i<s.size) (.int .u8 (s.data.toList.getD i.toNat 0).toNat))
  |some {k:=.array len e,..},.agg ⟨l⟩=>
   match T.get e with
   | some ei=>if zBp ei then some (zAH (0≤i∧i<len) (.agg ((l.drop (i.toNat*ei.size)).take ei.size).toArray))
     else if ei.size==1 then some (zAH (0≤i∧i<len∧i<l.length) (l.getD i.toNat undef)) else none
   |none=>none
  |_,_=>none
 |_=>none
def zAn(v:Option Value)(d:Nat):Option Int:=
 match v with
 |none=>some d
 |some (.int _ i)=>some i
 |_=>none
noncomputable def zCD(T:Tys)(F:SF)(t:TypeId)(x:Value)(lo hi mx:Option Value):Option Res:=
 match T.get t,x,mx with
 |some {k:=.str,..},.string s,none=>
  match zAn lo 0,zAn hi s.size with
  |some l,some h=>some (zAH (0≤l∧l≤h∧h≤s.size) (.string (s.extract l.toNat h.toNat)))
  |_,_=>none
 | some {k:=.slice e,..},.slice (some ⟨n,r,some c⟩) len cap,none=>
  match F n,T.get e,zAn lo 0,zAn hi len with
  | some (.rows _ wd _ _ rs),some ei,some l,some h=>
   if c==0&&ei.size==wd&&cap==FULL then
    some {vc:=0≤l∧l≤h∧r+h.toNat≤rs.length∧(l=0∨r+l.toNat<rs.length),v:=.slice (some ⟨n,r+l.toNat,some 0⟩) (h.toNat-l.toNat) FULL,upd:=[],rd:=[n]}
   else none
  |_,_,_,_=>none
 |some {k:=.slice e,..},.slice none 0 0,none=>
  match zAn lo 0,zAn hi 0 with
  |some l,some h=>if (T.get e).isSome then some (zAH (l=0∧h=0) (.slice none 0 0)) else none
  |_,_=>none
 |_,_,_=>none
noncomputable def zB3(x:Value)(i:Nat):Option Res:=
 match x with
 | .tuple ⟨l⟩=>match l[i]? with|some v=>some (zAH True v)|none=>none
 |_=>none
def zFV:Value→Bool
 | .tuple ⟨[]⟩=>true
 |_=>false
noncomputable def zEj(c a b:Value):Option Res:=
 match c with
 | .bool g=>
  if zFV a then some (zAH (g=false) b)
  else if zFV b then some (zAH (g=true) a)
  else match a,b with
   | .bool x,.bool y=>some (zAH True (.bool (if g then x else y)))
   | .int k x,.int k' y=>if k=k' then some (zAH True (.int k (if g then x else y))) else none
   | .string x,.string y=>some (zAH True (.string (if g then x else y)))
   |_,_=>none
 |_=>none
noncomputable def zDJ(x:Value):Option Res:=
 match x with
 | .pointer (some a)=>some (zAH True (.pointer (some a)))
 |_=>none
noncomputable def zJh(op:UnOp)(x:Value):Option Res:=
 match op,x with
 | .not,.bool b=>some (zAH True (.bool !b))
 | .neg,.int k n=>if k= .i64 then some (zAH (zCn (0-n)) (.int k (0-n))) else some (zAH True (.int k (k.wrap (0-n))))
 |_,_=>none
def zGe:List Value→UInt8
 | [.int .u8 n]=>UInt8.ofNat n.toNat
 |_=>0
def zMB(r:List Value):Prop:=∃n:Int,r=[.int .u8 n]
def bytesOf(rs:List (List Value)):ByteArray:=⟨(rs.map zGe).toArray⟩
def zCw(b:UInt8):List Value:=[.int .u8 b.toNat]
noncomputable def zCo(T:Tys)(F:SF)(nx:Nat)(src dst:TypeId)(x:Value):Option Res:=
 match T.get src,T.get dst with
 | some si,some di=>
  match si.k,di.k,x with
  | .int _,.int k,.int _ n=>if k= .i64 then some (zAH (zCn n) (.int k n)) else some (zAH True (.int k (k.wrap n)))
  | .str,.str,.string s=>some (zAH True (.string s))
  | .slice e,.str,.slice (some ⟨n,r,some c⟩) l _=>
   match T.get e,F n with
   |some {k:=.int .u8,..},some (.rows _ wd _ _ rs)=>
    if c==0&&wd==1 then some {vc:=r+l≤rs.length∧∀row∈(rs.drop r).take l,zMB row,v:=.string (bytesOf ((rs.drop r).take l)),upd:=[],rd:=[n]} else none
   |_,_=>none
  | .str,.slice e,.string s=>
   match T.get e with
   |some {k:=.int .u8,size:=1,..}=>some {vc:=s.size≤1152921504606846976,v:=.slice (some ⟨nx,0,some 0⟩) s.size FULL,upd:=[(nx,.rows e 1 true false (s.data.toList.map zCw))],rd:=[]}
   |_=>none
  |_,_,_=>none
 |_,_=>none
noncomputable def zDK(T:Tys)(t:TypeId)(parts:List (Nat×Value)):Option Res:=
 match T.get t with
 | some ti=>
  match ti.k with
  | .struct fs=>
   match zDl (fun i=>(fs[i]?).bind fun f=>(T.get f.2).map fun fi=>(f.1,fi.size)) (cellsOf ti.zero) parts with
   |some (p,cs)=>some (zAH p (.agg cs.toArray))
   |none=>none
  | .array _ e=>
   match T.get e with
   |some ei=>
    match zDl (fun i=>some (i*ei.size,ei.size)) (cellsOf ti.zero) parts with
    |some (p,cs)=>some (zAH p (.agg cs.toArray))
    |none=>none
   |none=>none
  |_=>none
 |none=>none
def zF9(size:Nat)(rows:List (List Value)):List (Nat×Value)→Option (Prop×List (List Value))
 | []=>some (True,rows)
 | (i,v)::rest=>
  if zFQ v&&decide (i<rows.length) then
   match zF9 size (rows.set i (cellsOf v)) rest with
   |none=>none
   |some (p,rs)=>some ((cellsOf v).length=size∧p,rs)
  else none
noncomputable def zBE(T:Tys)(nx:Nat)(t:TypeId)(len:Nat)(parts:List (Nat×Value)):Option Res:=
 match T.get t with
 | some {k:=.slice e,..}=>
  match T.get e with
  |some ei=>
   if ei.size==0||decide (16777216<len*ei.size) then none else
   match zF9 ei.size (List.replicate len (cellsOf ei.zero)) parts with
   |some (p,rs)=>some {vc:=p,v:=.slice (some ⟨nx,0,some 0⟩) len FULL,upd:=[(nx,.rows e ei.size true true rs)],rd:=[]}
   |none=>none
  |none=>none
 |_=>none
noncomputable def zBT(T:Tys)(nx:Nat)(t:TypeId)(l c:Value):Option Res:=
  match l,c,T.get t with
  | .int _ l,.int _ c,some {k:=.slice e,..}=>
    match T.get e with
    | some ei=>
      if ei.size==0 then none else
      some { vc:=0≤l∧l=c∧(ei.bytes:Int)*c≤140737488355328∧c≤9223372036854775807,v:=.slice (some ⟨nx,0,some 0⟩) c.toNat FULL,
             upd:=[(nx,.rows e ei.size true true (List.replicate c.toNat (cellsOf ei.zero)))],rd:=[]}
    |none=>none
  |_,_,_=>none
noncomputable def zEY(T:Tys)(F:SF)(t:TypeId)(x:Value):Option Res:=
 match T.get t,x with
 |some {k:=.str,..},.string s=>some (zAH True (.int .i64 s.size))
 |some {k:=.slice _,..},.slice _ n _=>some (zAH True (.int .i64 n))
 |some {k:=.map _ _,..},.map (some r)=>match F r with|some (.map _ es)=>some {vc:=True,v:=.int .i64 es.length,upd:=[],rd:=[r]}|_=>none
 |some {k:=.array n _,..},_=>some (zAH True (.int .i64 n))
 |_,_=>none
noncomputable def zFu(isMax:Bool)(a b:Value):Option Res:=
 match a,b with
 | .int k x,.int k' y=>if k=k' then some (zAH True (.int k (if isMax then max x y else min x y))) else none
 |_,_=>none
section
variable {P : Program} {T : Tys} {E : Env} {F : SF} {nx : Nat} {w : World}
theorem zCJ{d:TypeDesc}{fs:List (Nat×TypeId)}(h:tk d= .struct fs):∃a:Array Field,d= .struct a∧a.toList.map (fun f=>(f.offset,f.type))=fs:=by
 cases d<;>simp[tk]at h
 exact ⟨_,rfl,h⟩
theorem zAS{d:TypeDesc}{e:TypeId}(h:tk d= .slice e):d= .slice e:=by cases d<;>simp[tk]at h;subst h;rfl
theorem zBM{d:TypeDesc}{n:Nat}{e:TypeId}(h:tk d= .array n e):d= .array n e:=by cases d<;>simp[tk]at h;obtain ⟨rfl,rfl⟩:=h;rfl
theorem zBg{d:TypeDesc}(h:tk d= .str):d= .string:=by cases d<;>simp[tk]at h;rfl
theorem zB1{d:TypeDesc}{k:IntKind}(h:tk d= .int k):d= .int k:=by cases d<;>simp[tk]at h;subst h;rfl
theorem zDm{d:TypeDesc}{k e:TypeId}(h:tk d= .map k e):d= .map k e:=by cases d<;>simp[tk]at h;obtain ⟨rfl,rfl⟩:=h;rfl
theorem zEy{a:Array Field}{fs:List (Nat×TypeId)}(h:a.toList.map (fun f=>(f.offset,f.type))=fs){i:Nat}{off:Nat}{t:TypeId}(hi:fs[i]?=some (off,t)):
  ∃f,a[i]?=some f∧f.offset=off∧f.type=t:=by
 subst h;rw[wE,vZ]at hi;cases ha:a[i]? with
 |none=>rw[ha]at hi;cases hi
 |some f=>rw[ha]at hi;simp at hi;exact ⟨f,rfl,hi.1,hi.2⟩
theorem zPN{n r c:Nat}{p':Value}(h:dv E (.pointer (some ⟨n,r,some c⟩))=some p'):∃i,E n=some i∧i.nil=false∧p'= .pointer (some ⟨i.b,i.o+(r*i.wd+c),none⟩):=by
 simp only[dv,zV]at h;obtain ⟨a',ha,rfl⟩:=h;obtain ⟨i,h1,h2,rfl⟩:=zJf ha;exact ⟨i,h1,h2,rfl⟩
theorem zGf{n r c:Nat}{i:BI}(h1:E n=some i)(h2:i.nil=false):dv E (.pointer (some ⟨n,r,some c⟩))=some (.pointer (some ⟨i.b,i.o+(r*i.wd+c),none⟩)):=by
 simp[dv,dA,h1,h2]
theorem zEz{n r c l cap:Nat}{p':Value}(h:dv E (.slice (some ⟨n,r,some c⟩) l cap)=some p'):
  ∃i,E n=some i∧((i.nil=true∧l=0∧p'= .slice none 0 0)∨(i.nil=false∧p'= .slice (some ⟨i.b,i.o+(r*i.wd+c),none⟩) l (if cap=FULL then i.n-r else cap))):=by
 simp only[dv,dS]at h;split at h;rotate_left;·cases h
 rename_i i hi;refine ⟨i,hi,?_⟩;split at h
 ·rename_i hn;split at h;·rename_i hl;injection h with h;exact .inl ⟨hn,hl,h.symm⟩
  ·cases h
 ·rename_i hn;injection h with h;exact .inr ⟨by simpa using hn,h.symm⟩
theorem zBm{n r c l cap:Nat}{i:BI}(h1:E n=some i)(h2:i.nil=false):
  dv E (.slice (some ⟨n,r,some c⟩) l cap)=some (.slice (some ⟨i.b,i.o+(r*i.wd+c),none⟩) l (if cap=FULL then i.n-r else cap)):=by
 simp[dv,dS,h1,h2]
theorem zGg(hT:T.Ok P)(h:HRel E F w){s:TypeId}{x x':Value}{f:Nat}{r:Res}(hs:zDH T s x f=some r)(hx:dv E x=some x'):
  ∃v',(Instr.fieldAt s x' f).run P w= .ok v' w∧Gives E F nx w r v' w:=by
 unfold zDH at hs;split at hs;rotate_left;·cases hs
 rename_i n row c;obtain ⟨i,hi,hn,rfl⟩:=zPN hx;split at hs;rotate_left;·cases hs
 rename_i fs _ _ _ _ hti;split at hs;rotate_left;·cases hs
 rename_i off ft hfs;split at hs;rotate_left;·cases hs
 rename_i fi hfi;split at hs;·cases hs
 rename_i hsz;injection hs with hs;subst hs;obtain ⟨d,hd,hk⟩:=(hT _ _ hti).run_underlying w;obtain ⟨a,rfl,ha⟩:=zCJ hk;obtain ⟨fld,hf1,hf2,hf3⟩:=zEy ha hfs;subst hf2;subst hf3;have hz:=(hT _ _ hfi).run_sizeOf w;refine ⟨_,?_,Gives.still h rfl (zGf hi hn)⟩;simp only[Instr.fieldAt,zB,hd,zD,hf1,Instr.sureAddr,zI,fieldPlace,hz];simp only[beq_iff_eq]at hsz;rw[if_neg hsz];simp[addr_add,zA]
theorem zDn(hT:T.Ok P)(h:HRel E F w){t:TypeId}{x x' i i':Value}{r:Res}(hs:zAy T F t x i=some r)(hvc:r.vc)(hx:dv E x=some x')(hi:dv E i=some i'):
  ∃v',(Instr.indexAt t x' i').run P w= .ok v' w∧Gives E F nx w r v' w:=by
 unfold zAy at hs;split at hs;rotate_left;·cases hs
 simp[dv]at hi;subst hi;split at hs
 ·rename_i e _ _ _ _ n row c l _ hti;split at hs;rotate_left;·cases hs
  rename_i e0 wd own ex rs ei hF hei;split at hs;rotate_left;·cases hs
  rename_i hcw;simp only[zC,beq_iff_eq]at hcw;obtain ⟨rfl,hw⟩:=hcw;injection hs with hs;subst hs;obtain ⟨h1,h2⟩:=hvc;obtain ⟨d,hd,hk⟩:=(hT _ _ hti).run_underlying w;obtain rfl:=zAS hk;obtain ⟨bi,hbi,hor⟩:=zEz hx;rcases hor with ⟨_,hl,_⟩|⟨hn,rfl⟩;·omega
  have hR:=zAJ h hF hbi hn;refine ⟨_,?_,Gives.still h rfl (zGf hbi hn)⟩;simp only[Instr.indexAt,asIntOf,zB,zI,zD,hd];simp only[h1,h2,and_self,if_true,zB,(hT _ _ hei).run_sizeOf w,zD,zI,addr_add];rw[hw,hR.wd_eq,wF];simp[zA]
 ·rename_i len e _ _ _ _ n row c hti;split at hs;rotate_left;·cases hs
  rename_i ei hei;injection hs with hs;subst hs;obtain ⟨h1,h2⟩:=hvc;obtain ⟨d,hd,hk⟩:=(hT _ _ hti).run_underlying w;obtain rfl:=zBM hk;obtain ⟨bi,hbi,hn,rfl⟩:=zPN hx;refine ⟨_,?_,Gives.still h rfl (zGf hbi hn)⟩;simp only[Instr.indexAt,asIntOf,zB,zI,zD,hd,Instr.sureAddr];simp only[h1,h2,and_self,if_true,zB,(hT _ _ hei).run_sizeOf w,zD,zI,addr_add];simp[zA]
 ·cases hs
theorem zE0(h:HRel E F w){x x':Value}{i:Nat}{r:Res}(hs:zB3 x i=some r)(hx:dv E x=some x'):∃v',(Instr.extract x' i).run P w= .ok v' w∧Gives E F nx w r v' w:=by
 unfold zB3 at hs;split at hs;rotate_left;·cases hs
 rename_i l;split at hs;rotate_left;·cases hs
 rename_i v hv;injection hs with hs;subst hs;simp only[dv,dva,zV]at hx;obtain ⟨a,⟨l',hl,rfl⟩,rfl⟩:=hx;obtain ⟨v',h1,h2⟩:=(zBd hl).2 i v hv;refine ⟨v',?_,Gives.still h rfl h1⟩;simp[Instr.extract,h2]
theorem zHe(h:HRel E F w){c c' a a' b b':Value}{r:Res}(hs:zEj c a b=some r)(hvc:r.vc)(hc:dv E c=some c')(ha:dv E a=some a')(hb:dv E b=some b'):
  ∃v',(do pure (if ←asBool c' then a' else b'):Sem Value).run P w= .ok v' w∧Gives E F nx w r v' w:=by
 unfold zEj at hs;split at hs;rotate_left;·cases hs
 rename_i g;simp[dv]at hc;subst hc;have hrun:(do pure (if ←asBool (.bool g) then a' else b'):Sem Value).run P w= .ok (if g then a' else b') w:=by simp[asBool]
 refine ⟨_,hrun,?_⟩;split at hs
 ·injection hs with hs;subst hs;have hg:g=false:=hvc;subst hg;exact Gives.still h rfl (by simpa[zAH] using hb)
 split at hs
 ·injection hs with hs;subst hs;have hg:g=true:=hvc;subst hg;exact Gives.still h rfl (by simpa[zAH] using ha)
 split at hs
 ·injection hs with hs;subst hs;simp[dv]at ha hb;subst ha;subst hb;exact Gives.still h rfl (by cases g<;>simp[zAH,dv])
 ·split at hs
  ·rename_i hk;subst hk;injection hs with hs;subst hs;simp[dv]at ha hb;subst ha;subst hb;exact Gives.still h rfl (by cases g<;>simp[zAH,dv])
  ·cases hs
 ·injection hs with hs;subst hs;simp[dv]at ha hb;subst ha;subst hb;exact Gives.still h rfl (by cases g<;>simp[zAH,dv])
 ·cases hs
theorem zKX(h:HRel E F w){op:UnOp}{x x':Value}{r:Res}(hs:zJh op x=some r)(hvc:r.vc)(hx:dv E x=some x'):∃v',(Op.unary op x').run P w= .ok v' w∧Gives E F nx w r v' w:=by
 unfold zJh at hs;split at hs
 ·simp[dv]at hx;subst hx;injection hs with hs;subst hs;exact ⟨_,rfl,Gives.still h rfl (by simp[zAH,dv])⟩
 ·simp[dv]at hx;subst hx;split at hs
  ·rename_i hk;subst hk;injection hs with hs;subst hs;refine ⟨_,rfl,Gives.still h rfl ?_⟩;simp only[zAH,dv];rw[wrap_i64 hvc]
  ·injection hs with hs;subst hs;exact ⟨_,rfl,Gives.still h rfl (by simp[zAH,dv])⟩
 ·cases hs
end
end Go.Sx
end
section
namespace Go.Sx
section
variable {P : Program} {T : Tys} {E : Env} {F : SF} {nx : Nat} {w : World}
theorem zEk(hT:T.Ok P)(a:List Field){fs:List (Nat×TypeId)}(h:a.map (fun f=>(f.offset,f.type))=fs)(hall:∀f∈fs,∃fi,T.get f.2=some fi):
  (a.mapM (fun f=>do pure (f.offset,←sizeOf f.type):Field→Sem (Nat×Nat))).run P w= .ok (fs.map fun f=>(f.1,((T.get f.2).map (·.size)).getD 0)) w:=by
 induction a generalizing fs with
 |nil=>simp at h;subst h;simp
 |cons f l ih=>
  simp at h;subst h;obtain ⟨fi,hfi⟩:=hall (f.offset,f.type) (by simp);have hz:=(hT _ _ hfi).run_sizeOf w;have ih':=ih rfl (fun g hg=>hall g (by simp[hg]));simp only[List.mapM_cons,zB,hz,zD,zI,ih',zL,hfi,wJ,vT]
theorem zFv{pl pl':Nat→Option (Nat×Nat)}:∀{parts:List (Nat×Value)} {cells:List Value} {p:Prop} {cs:List Value},zDl pl cells parts=some (p,cs)→(∀i o,pl i=some o→pl' i=some o)→zDl pl' cells parts=some (p,cs)
 | [],_,_,_,h,_=>h
 |(i,v)::rest,cells,p,cs,h,hp=>by
  simp only[zDl]at h ⊢;split at h;·cases h
  rename_i off size hpl;rw[hp _ _ hpl];simp only;split at h;rotate_left;·cases h
  rename_i hok;rw[if_pos hok];split at h;·cases h
  rename_i q cs0 hq;rw[zFv hq hp];exact h
theorem zGh(hT:T.Ok P)(hall:∀t i fs,T.get t=some i→i.k= .struct fs→∀f∈fs,∃fi,T.get f.2=some fi)(h:HRel E F w){t:TypeId}{parts parts':List (Nat×Value)}{r:Res}
  (hs:zDK T t parts=some r)(hvc:r.vc)(hp:PRel E parts parts'):∃v',(Instr.build t parts'.toArray).run P w= .ok v' w∧Gives E F nx w r v' w:=by
 unfold zDK at hs;split at hs;rotate_left;·cases hs
 rename_i ti hti;have ht:=hT _ _ hti;obtain ⟨d,hd,hk⟩:=ht.run_underlying w;have hz0:=zCs E _ ht.pl;rw[←zAD]at hz0;have hz1:∀u∈ti.zero.cells.toList,u.oneCell'=true:=by rw[zAD];simpa using ht.one
 rw[zAD]at hz0;split at hs
 ·rename_i fs hfs;split at hs;rotate_left;·cases hs
  rename_i p cs hfill;injection hs with hs;subst hs;rw[hfs]at hk;obtain ⟨a,rfl,ha⟩:=zCJ hk;have hpl:=zEk (w:=w) hT a.toList ha (hall _ _ _ hti hfs);have hfill':=zFv (pl':=fun i=>((fs.map fun f=>(f.1,((T.get f.2).map (·.size)).getD 0)).toArray)[i]?) hfill (by
   intro i o ho;simp only[zM,zV]at ho;obtain ⟨f,h1,fi,h2,rfl⟩:=ho;simp[h1,h2])
  obtain ⟨cs',r1,r2,r3⟩:=zCv hp hfill' hvc (cells':=ti.zero.cells) (by rw[zAD];exact hz0) hz1;refine ⟨.agg cs',?_,Gives.still h rfl ?_⟩
  ·simp only[Instr.build,zB,ht.run_zeroValue w,zD,hd,Array.mapM_eq_mapM_toList,Sem.run_map,hpl];rw[r1];rfl
  ·simp only[zAH,dv,dva,r2,wJ,Option.bind_some];rw[if_pos (by rw[Array.all_eq_true_iff_forall_mem];simpa using r3)]
 ·rename_i n e hfs;split at hs;rotate_left;·cases hs
  rename_i ei hei;split at hs;rotate_left;·cases hs
  rename_i p cs hfill;injection hs with hs;subst hs;rw[hfs]at hk;obtain rfl:=zBM hk;obtain ⟨cs',r1,r2,r3⟩:=zCv hp hfill hvc (cells':=ti.zero.cells) (by rw[zAD];exact hz0) hz1;refine ⟨.agg cs',?_,Gives.still h rfl ?_⟩
  ·simp only[Instr.build,zB,ht.run_zeroValue w,zD,hd,(hT _ _ hei).run_sizeOf w];rw[r1];rfl
  ·simp only[zAH,dv,dva,r2,wJ,Option.bind_some];rw[if_pos (by rw[Array.all_eq_true_iff_forall_mem];simpa using r3)]
 ·cases hs
theorem zEl{size:Nat}:∀{parts parts':List (Nat×Value)},PRel E parts parts'→∀{rows:List (List Value)} {cs:Array Value} {p:Prop} {rs:List (List Value)},
  zF9 size rows parts=some (p,rs)→p→RowsA E size rows cs→
  ∃cs',Instr.fill (fun i=>some (i*size,size)) cs parts'=some cs'∧RowsA E size rs cs'∧rs.length=rows.length:=by
 intro parts parts' hP;induction hP with
 |nil=>
  intro rows cs p rs h hp hR;simp only[zF9,zZ,wL]at h;obtain ⟨_,rfl⟩:=h;exact ⟨cs,rfl,hR,rfl⟩
 | @cons i v v' l l' hv _ ih=>
  intro rows cs p rs h hp hR;simp only[zF9]at h;split at h;rotate_left;·cases h
  rename_i hok;simp only[zC,decide_eq_true_eq]at hok;split at h;·cases h
  rename_i q rs0 hq;simp only[zZ,wL]at h;obtain ⟨rfl,rfl⟩:=h;obtain ⟨p1,p2⟩:=hp;obtain ⟨c1,c2⟩:=zGL hv hok.1;have hlv:(cellsOf v').length=size:=by rw[(zBd c1).1,p1]
  obtain ⟨cs',r1,r2,r3⟩:=ih hq p2 (hR.set hok.2 c1 p1 c2);refine ⟨cs',?_,r2,by simpa using r3⟩;have hszv:v'.cells.size=size:=by rw[←vA,zAD,hlv]
  have hm:(i+1)*size≤rows.length*size:=wN _ hok.2;have he:(i+1)*size=i*size+size:=wV i size;have hcs:=hR.size;simp only[Instr.fill];rw[if_neg (by simp[hszv];omega)];rw[←r1];congr 1;exact zCX (i*size) v' cs
theorem zDb(hT:T.Ok P)(h:HRel E F w)(hE:E nx=none){t:TypeId}{len:Nat}{parts parts':List (Nat×Value)}{r:Res}
  (hs:zBE T nx t len parts=some r)(hvc:r.vc)(hp:PRel E parts parts'):∃v' w',(Instr.buildSlice t len parts'.toArray).run P w= .ok v' w'∧Gives E F nx w r v' w':=by
 unfold zBE at hs;split at hs;rotate_left;·cases hs
 rename_i e _ _ _ _ hti;split at hs;rotate_left;·cases hs
 rename_i ei hei;split at hs;·cases hs
 rename_i hsz;simp only[vV,beq_iff_eq,decide_eq_true_eq,not_or]at hsz;split at hs;rotate_left;·cases hs
 rename_i p rs hfill;injection hs with hs;subst hs;have ht:=hT _ _ hti;have hte:=hT _ _ hei;obtain ⟨d,hd,hk⟩:=ht.run_underlying w;obtain rfl:=zAS hk;have hz0:=zCs E _ hte.pl;have hz0':dvl E (cellsOf ei.zero)=some ei.zero.cells.toList:=by rw[zAD];exact hz0
 have hz1:∀u∈ei.zero.cells.toList,u.oneCell'=true:=by rw[zAD];simpa using hte.one
 have hR0:=RowsA.replicate hz0' hz1 len ei.size hte.sz;obtain ⟨cs',r1,r2,r3⟩:=zEl hp hfill hvc hR0;simp only[List.length_replicate]at r3;have hcap:rs.length≤maxLen:=by
  have:len*1≤len*ei.size:=Nat.mul_le_mul_left _ (by omega);unfold maxLen;omega
 refine ⟨.slice (some ⟨w.heap.size,0,none⟩) len len,w.alloc (.cells cs' e),?_,E.set nx ⟨w.heap.size,0,ei.size,rs.length,false⟩,?_,zUY h hE _ _ _ rfl (zKU hE (by omega) r2 hcap),FreshIn.set (zH _) (by omega)⟩
 ·simp only[Instr.buildSlice,zB,hd,zD,hte.run_sizeOf w];rw[if_neg (by omega)];by_cases h0:len*ei.size=0
  ·rw[if_pos h0];rw[h0]at r1 ⊢;simp only[show Array.range 0= #[] from rfl,Array.map_empty]at r1;simp only[zB,zI,zD,show Array.range 0= #[] from rfl,Array.map_empty,r1];rfl
  ·rw[if_neg h0];simp only[zB,zI,zD,hte.run_zeroValue w,r1];rfl
 ·rw[zBm (zUO _ _ _) rfl];simp[r3]
theorem zDo(hT:T.Ok P)(h:HRel E F w)(hE:E nx=none){t:TypeId}{l c l' c':Value}{r:Res}
  (hs:zBT T nx t l c=some r)(hvc:r.vc)(hl:dv E l=some l')(hc:dv E c=some c'):∃v' w',(Instr.makeSlice t l' c').run P w= .ok v' w'∧Gives E F nx w r v' w':=by
 unfold zBT at hs;split at hs;rotate_left;·cases hs
 rename_i kl l kc c e _ _ _ _ hti;simp[dv]at hl hc;subst hl;subst hc;split at hs;rotate_left;·cases hs
 rename_i ei hei;split at hs;·cases hs
 rename_i hsz;simp only[beq_iff_eq]at hsz;injection hs with hs;subst hs;obtain ⟨h1,rfl,h3,h4⟩:=hvc;have ht:=hT _ _ hti;have hte:=hT _ _ hei;obtain ⟨d,hd,hk⟩:=ht.desc;obtain rfl:=zAS hk;obtain ⟨x,hx,hx0,hx1,hx2⟩:=hte.info;have hz0':dvl E (cellsOf ei.zero)=some ei.zero.cells.toList:=by rw[zAD];exact zCs E _ hte.pl
 have hz1:∀u∈ei.zero.cells.toList,u.oneCell'=true:=by rw[zAD];simpa using hte.one
 have hR0:=RowsA.replicate hz0' hz1 l.toNat ei.size hte.sz;have hrun:=run_make (P:=P) w t e x ei.zero hd hx hx0 kl kc l l h1 (vF _) (by rw[hx2];omega) h4;rw[hx1]at hrun;have hcap:(List.replicate l.toNat (cellsOf ei.zero)).length≤maxLen:=by
  unfold maxLen;simp;omega
 refine ⟨_,_,hrun,E.set nx ⟨w.heap.size,0,ei.size,(List.replicate l.toNat (cellsOf ei.zero)).length,false⟩,?_,zUY h hE _ _ _ rfl (zKU hE (by omega) (by simpa[madeCells] using hR0) hcap),FreshIn.set (zH _) (by omega)⟩;rw[zBm (zUO _ _ _) rfl];simp
end
end Go.Sx
end
section
namespace Go.Sx
section
variable {P : Program} {T : Tys} {E : Env} {F : SF} {nx : Nat} {w : World}
theorem zGi(hT:T.Ok P)(h:HRel E F w){t:TypeId}{x x' i i':Value}{r:Res}(hs:zDI T t x i=some r)(hvc:r.vc)(hx:dv E x=some x')(hi:dv E i=some i'):
  ∃v',(Instr.index t x' i').run P w= .ok v' w∧Gives E F nx w r v' w:=by
 unfold zDI at hs;split at hs;rotate_left;·cases hs
 simp[dv]at hi;subst hi;rename_i k i;split at hs
 ·rename_i _ _ _ _ _ s hti;simp[dv]at hx;subst hx;injection hs with hs;subst hs;obtain ⟨h1,h2⟩:=hvc;obtain ⟨d,hd,hk⟩:=(hT _ _ hti).run_underlying w;obtain rfl:=zBg hk;have hlt:i.toNat<s.data.toList.length:=by
   have:s.data.toList.length=s.size:=rfl;omega
  refine ⟨.int .u8 (s.data.toList.getD i.toNat 0).toNat,?_,Gives.still h rfl (by simp[zAH,dv])⟩;have hget:s[i.toNat]?=some (s.data.toList.getD i.toNat 0):=by
   have e1:=zAO (0:UInt8) hlt;have hlt':i.toNat<s.size:=by omega
   rw[show s[i.toNat]?=some (s[i.toNat]'hlt') from by simp[getElem?_pos,hlt']];rw[zS hlt]at e1;exact e1
  simp only[Instr.index,asIntOf,zB,zI,zD,hd,h1,if_true,hget]
 ·rename_i len e _ _ _ _ l hti;split at hs;rotate_left;·cases hs
  rename_i ei hei;obtain ⟨d,hd,hk⟩:=(hT _ _ hti).run_underlying w;obtain rfl:=zBM hk;simp only[dv,dva,zM,zV]at hx;obtain ⟨a,⟨l',hl,rfl⟩,hx⟩:=hx;split at hx;rotate_left;·cases hx
  rename_i hone;injection hx with hx;subst hx;have hz:=(hT _ _ hei).run_sizeOf w;have hagg:=(hT _ _ hei).run_isAgg w;obtain ⟨g1,g2⟩:=zBd hl;split at hs
  ·rename_i hag;injection hs with hs;subst hs;obtain ⟨h1,h2⟩:=hvc;have hsub:dvl E ((l.drop (i.toNat*ei.size)).take ei.size)=some ((l'.drop (i.toNat*ei.size)).take ei.size):=by
    obtain ⟨q,hq⟩:=zKS (E:=E) ((l.drop (i.toNat*ei.size)).take ei.size) (fun v hv=>by
     obtain ⟨j,hj⟩:=vW (uE (vR hv));obtain ⟨v',a,_⟩:=g2 j v hj;exact ⟨v',a⟩)
    obtain ⟨q1,q2⟩:=zBd hq;rw[hq];congr 1;apply List.ext_getElem?;intro j;by_cases hj:j<((l.drop (i.toNat*ei.size)).take ei.size).length
    ·have hget:=zS hj;obtain ⟨v',a1,a2⟩:=q2 j _ hget;rw[a2];rw[uB]at hget;simp only[wI,wU]at hj;rw[if_pos (by omega),vX]at hget;obtain ⟨v2,b1,b2⟩:=g2 _ _ hget;rw[uB,if_pos (by omega),vX,b2];rw[a1]at b1;exact b1
    ·rw[uA (by omega),uA (by
      simp only[wI,wU]at hj ⊢;omega)]
   refine ⟨.agg ((l'.drop (i.toNat*ei.size)).take ei.size).toArray,?_,Gives.still h rfl ?_⟩
   ·simp only[Instr.index,asIntOf,zB,zI,zD,hd,h1,h2,and_self,if_true,hz,part,hagg];simp only[zBp]at hag;simp only[hag,if_true,zB,hz,zD,zI];congr 2;apply vG;simp[qY]
   ·simp only[zAH,dv,dva,hsub,wJ,Option.bind_some];rw[if_pos];rw[Array.all_eq_true_iff_forall_mem]at hone ⊢;intro x hx;exact hone x (by simpa using uE (vR (by simpa using hx)))
  ·rename_i hag;split at hs;rotate_left;·cases hs
   rename_i h1s;simp only[beq_iff_eq]at h1s;injection hs with hs;subst hs;obtain ⟨h1,h2,h3⟩:=hvc;have hlt:i.toNat<l.length:=by omega
   obtain ⟨v',a1,a2⟩:=g2 i.toNat _ (zAO undef hlt);refine ⟨v',?_,Gives.still h rfl a1⟩;simp only[Instr.index,asIntOf,zB,zI,zD,hd,h1,h2,and_self,if_true,hz,part,hagg];simp only[zBp]at hag;simp only[hag,wC,if_false,h1s,wG,wR,a2,zI]
 ·cases hs
theorem run_sliceBound{v:Value}{k:IntKind}{i:Int}(y:Nat)(code:BoundsCode)(hv:v= .int k i)(h1:0≤i)(h2:i≤y):(Instr.sliceBound v y code).run P w= .ok i.toNat w:=by
 subst hv;simp[Instr.sliceBound,asIntOf,h1,h2]
theorem zAb{isS:Bool}{len cap:Nat}{lo hi lo' hi':Option Value}{l h:Int}(hl:zAn lo 0=some l)(hh:zAn hi len=some h)
  (el:lo'=lo)(eh:hi'=hi)(h0:0≤l)(h1:l≤h)(h2:h≤cap):
  (Instr.sliceBounds isS len cap lo' hi' none).run P w= .ok (l.toNat,h.toNat,cap) w:=by
 subst el;subst eh;have hlo:∀(m:Nat) (code:BoundsCode),h≤m→(match lo' with|some v=>Instr.sliceBound v h.toNat code|none=>pure 0:Sem Nat).run P w= .ok l.toNat w:=by
  intro m code hm;cases lo' with
  |none=>simp[zAn]at hl;subst hl;simp
  |some v=>
   cases v<;>simp[zAn]at hl
   subst hl;exact run_sliceBound _ _ rfl h0 (by omega)
 have hhi:(match hi' with|some v=>Instr.sliceBound v cap (if isS then .sliceAcap else .sliceAlen)|none=>pure len:Sem Nat).run P w= .ok h.toNat w:=by
  cases hi' with
  |none=>simp[zAn]at hh;subst hh;simp
  |some v=>
   cases v<;>simp[zAn]at hh
   subst hh;exact run_sliceBound _ _ rfl (by omega) h2
 unfold Instr.sliceBounds;cases hi' with
 |none=>
  simp only[zI]at hhi;injection hhi with hhi _;subst hhi;have:=hlo cap .sliceB h2;simp only[zB,zI,zD];cases lo' with
  |none=>simp only[zI]at this;injection this with this _;rw[←this];rfl
  |some v=>simp only at this;simp only[vM,wC,if_false,zB];rw[this];rfl
 |some u=>
  simp only at hhi;have:=hlo cap .sliceB h2;simp only[zB,zI,zD,hhi];cases lo' with
  |none=>simp only[zI]at this;injection this with this _;rw[←this];rfl
  |some v=>simp only at this;simp only[vM,wC,if_false,zB];rw[this];rfl
theorem zD9{v:Option Value}{d:Nat}{i:Int}(h:zAn v d=some i){v':Option Value}(hv:∀x,v=some x→∃x',dv E x=some x'∧v'=some x')(hn:v=none→v'=none):v'=v:=by
 cases v with
 |none=>exact hn rfl
 |some x=>
  obtain ⟨x',h1,h2⟩:=hv x rfl;cases x<;>simp[zAn]at h
  simp[dv]at h1;rw[h2,←h1]
theorem zGj(hT:T.Ok P)(h:HRel E F w){t:TypeId}{x x':Value}{lo hi mx lo' hi' mx':Option Value}{r:Res}(hs:zCD T F t x lo hi mx=some r)(hvc:r.vc)(hx:dv E x=some x')
  (hlo:∀y,lo=some y→∃y',dv E y=some y'∧lo'=some y')(hlo0:lo=none→lo'=none)
  (hhi:∀y,hi=some y→∃y',dv E y=some y'∧hi'=some y')(hhi0:hi=none→hi'=none)(hmx0:mx=none→mx'=none):
  ∃v',(Instr.sliceAt t x' lo' hi' mx').run P w= .ok v' w∧Gives E F nx w r v' w:=by
 unfold zCD at hs;split at hs
 ·rename_i _ _ _ _ _ s hti;obtain rfl:=hmx0 rfl;simp[dv]at hx;subst hx;split at hs;rotate_left;·cases hs
  rename_i l hh hl hhh;injection hs with hs;subst hs;obtain ⟨h1,h2,h3⟩:=hvc;obtain ⟨d,hd,hk⟩:=(hT _ _ hti).run_underlying w;obtain rfl:=zBg hk;have el:=zD9 hl hlo hlo0;have eh:=zD9 hhh hhi hhi0;refine ⟨.string (s.extract l.toNat hh.toNat),?_,Gives.still h rfl (by simp only[zAH,dv])⟩;simp only[Instr.sliceAt,zB,hd,zD,Instr.slice,vM,wC,if_false,zAb hl hhh el eh h1 h2 h3,zI]
 ·rename_i e _ _ _ _ n row c len cap hti;obtain rfl:=hmx0 rfl;split at hs;rotate_left;·cases hs
  rename_i e0 wd own ex rs ei l hh hF hei hl hhh;split at hs;rotate_left;·cases hs
  rename_i hcw;simp only[zC,beq_iff_eq]at hcw;obtain ⟨⟨rfl,hw⟩,rfl⟩:=hcw;injection hs with hs;subst hs;obtain ⟨h1,h2,h3,h4⟩:=hvc;obtain ⟨d,hd,hk⟩:=(hT _ _ hti).run_underlying w;obtain rfl:=zAS hk;have el:=zD9 hl hlo hlo0;have eh:=zD9 hhh hhi hhi0;have hz:=(hT _ _ hei).run_sizeOf w;obtain ⟨bi,hbi,hor⟩:=zEz hx;rcases hor with ⟨hn,hl0,rfl⟩|⟨hn,rfl⟩
  ·-- a nil slice
   have hrs:rs=[]:=by
    obtain ⟨j,hj,hq⟩:=h.blk n _ hF;rw[hbi]at hj;injection hj with hj;subst hj;rcases hq with ⟨_,q⟩|⟨q,_⟩;·exact q.1
    ·rw[hn]at q;cases q
   subst hrs;subst hl0;simp only[wW,Nat.le_zero_eq]at h3;have hh0:hh=0:=by omega
   have hl0:l=0:=by omega
   subst hh0;subst hl0;refine ⟨.slice none 0 0,?_,Gives.still h rfl ?_⟩
   ·simp only[Instr.sliceAt,zB,hd,zD,Instr.slice,zAb (P:=P) (w:=w) (isS:=true) (len:=0) (cap:=0) hl hhh el eh h1 h2 (by omega),zI,hz];rfl
   ·simp[dv,dS,hbi,hn]
  ·have hR:=zAJ h hF hbi hn;have hle:=hR.le;have hcap:hh≤((bi.n-row:Nat):Int):=by omega
   refine ⟨_,?_,Gives.still h rfl (zBm hbi hn)⟩;simp only[if_true];simp only[Instr.sliceAt,zB,hd,zD,Instr.slice,zAb (P:=P) (w:=w) (isS:=true) (len:=len) (cap:=bi.n-row) hl hhh el eh h1 h2 hcap,zI,hz];have haddr:(if bi.n-row=l.toNat then some ({block:=bi.b,off:=bi.o+(row*bi.wd+0)}:Addr) else Option.map (fun x:Addr=>x.add (l.toNat*ei.size)) (some ⟨bi.b,bi.o+(row*bi.wd+0),none⟩))=some ⟨bi.b,bi.o+((row+l.toNat)*bi.wd+0),none⟩:=by
    rcases h4 with h4|h4
    ·subst h4;simp[addr_add]
    ·rw[if_neg (by omega)];simp only[wJ,addr_add,hw,hR.wd_eq,wF];congr 2;omega
   rw[haddr];congr 2;omega
 ·rename_i e _ _ _ _ hti;obtain rfl:=hmx0 rfl;simp[dv]at hx;subst hx;split at hs;rotate_left;·cases hs
  rename_i l hh hl hhh;split at hs;rotate_left;·cases hs
  rename_i hsome;obtain ⟨ei,hei⟩:=Option.isSome_iff_exists.1 hsome;injection hs with hs;subst hs;obtain ⟨rfl,rfl⟩:=hvc;obtain ⟨d,hd,hk⟩:=(hT _ _ hti).run_underlying w;obtain rfl:=zAS hk;have el:=zD9 hl hlo hlo0;have eh:=zD9 hhh hhi hhi0;refine ⟨.slice none 0 0,?_,Gives.still h rfl (by simp[zAH,dv])⟩;simp only[Instr.sliceAt,zB,hd,zD,Instr.slice,zAb (P:=P) (w:=w) (isS:=true) (len:=0) (cap:=0) hl hhh el eh (by omega) (by omega) (by omega),zI,(hT _ _ hei).run_sizeOf w];rfl
 ·cases hs
end
end Go.Sx
end
