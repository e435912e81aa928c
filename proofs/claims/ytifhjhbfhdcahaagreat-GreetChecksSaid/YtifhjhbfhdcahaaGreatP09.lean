/- Lemmas for the walk: U19, U20, U21, U22, U23. -/
import Derived.Test.YtifhjhbfhdcahaaGreatP08
import Derived.RangeFuncIn
import Derived.Scope
set_option linter.all false
section
namespace Go.Tx
open Go.Sx (zAB)
def Tp(C:Cx)(F0:SF)(E0:Env)(w0:World)(st:St)(c:Code)(Q:Exit→St→Prop):Prop:=
 ∀a w E,Rel C.B C.L F0 E0 w0 E st a w→c.wpIn (W C.ro) 0 C.P (fun e a' w'=>∃st',Q e st'∧∃E',Rel C.B C.L F0 E0 w0 E' st' a' w') a w
section
variable {C : Cx} {F0 : SF} {E0 : Env} {w0 : World} {st : St} {Q : Exit → St → Prop}
theorem Tp.mono{c:Code}{Q':Exit→St→Prop}(h:Tp C F0 E0 w0 st c Q)(hq:∀e s,Q e s→Q' e s):Tp C F0 E0 w0 st c Q':=
 fun a w E ha=>wpIn_mono (h a w E ha) fun _ _ _ ⟨s,h1,h2⟩=>⟨s,hq _ _ h1,h2⟩
theorem Tp.skip(h:Q .normal st):Tp C F0 E0 w0 st .skip Q:=fun _ _ E ha=>wpIn_skip ⟨st,h,E,ha⟩
theorem Tp.ret(h:Q .ret st):Tp C F0 E0 w0 st .ret Q:=fun _ _ E ha=>wpIn_ret ⟨st,h,E,ha⟩
theorem Tp.exit{id:Nat}(h:Q (.exit id) st):Tp C F0 E0 w0 st (.exit id) Q:=fun _ _ E ha=>wpIn_exit ⟨st,h,E,ha⟩
def zGE(R:St→Prop)(Q:Exit→St→Prop):Exit→St→Prop
 | .normal,s=>R s
 |e,s=>Q e s
theorem Tp.seq{x y:Code}(h:Tp C F0 E0 w0 st x (zGE (fun s=>Tp C F0 E0 w0 s y Q) Q)):Tp C F0 E0 w0 st (.seq x y) Q:=by
 intro a w E ha;refine wpIn_seq (wpIn_mono (h a w E ha) ?_)
 rintro e a' w' ⟨s,h1,E',h2⟩
 cases e<;>first|exact h1 a' w' E' h2|exact ⟨s,h1,E',h2⟩
theorem Tp.cond{c:Operand}{x y:Code}{g:Bool}(hc:zAu st.t c=some (.bool g))(ht:g=true→Tp C F0 E0 w0 st x Q)(hf:g=false→Tp C F0 E0 w0 st y Q):Tp C F0 E0 w0 st (.cond c x y) Q:=by
 intro a w E ha;have hd:=ha.tmps.eval c (.bool g) (by rw[←zBw];exact hc);simp only[VR]at hd;exact wpIn_cond_split hd (fun h=>ht h a w E ha) (fun h=>hf h a w E ha)
def zHn(id:Nat)(Q:Exit→St→Prop):Exit→St→Prop
 | .exit id',s=>if id'=id then Q .normal s else Q (.exit id') s
 |e,s=>Q e s
theorem Tp.block{id:Nat}{c:Code}(h:Tp C F0 E0 w0 st c (zHn id Q)):Tp C F0 E0 w0 st (.block id c) Q:=by
 intro a w E ha;refine wpIn_block (wpIn_mono (h a w E ha) ?_)
 rintro e a' w' ⟨s,h1,h2⟩
 cases e with
 |exit id'=>
  simp only[zHn]at h1;simp only[Exit.inBlock];split;·rename_i hi;rw[if_pos hi]at h1;exact ⟨s,h1,h2⟩
  ·rename_i hi;rw[if_neg hi]at h1;exact ⟨s,h1,h2⟩
 |_=>exact ⟨s,h1,h2⟩
theorem zLc{F:Fence}{n:Nat}{P:Program}{Q:Exit→Act→World→Prop}{a:Act}{w:World}{c:Code}(h:c.wpIn F n P (Exit.noGoto Q) a w):(Code.scope c).wpIn F n P Q a w:=by
 intro b k cs hro hb hr;have h0:(lone (b.atR a (.code (.scope c)::k)) cs w).fenced P F:=fenced_calm hb hr rfl;have s0:step P (lone (b.atR a (.code (.scope c)::k)) cs w)= .next (lone (b.atR a (.code c:: .inScope c::k)) cs w):=step_lone_go (by simp[stepG,stepG.exec,Frame.atR]);have s1:∀a w,step P (lone (b.atR a (.inScope c::k)) cs w)= .next (lone (b.atR a k) cs w):=fun a w=>step_lone_go (by simp[stepG,stepG.exec,Frame.atR])
 obtain ⟨e,a₁,w₁,hq,harr⟩:=h b (.inScope c::k) cs hro hb hr;cases e with
 |normal=>exact ⟨.normal,a₁,w₁,hq,.head h0 s0 (StepsIn.trans harr (.one (fenced_calm hb hr rfl) (s1 _ _)))⟩
 | exit id'=>
  have hx:exitTo id' (.inScope c::k)=exitTo id' k:=by simp[exitTo]
  exact ⟨.exit id',a₁,w₁,hq,fun k' hk=>.head h0 s0 (harr.1 k' (by rw[hx];exact hk)),
   fun hr' hk=>let ⟨k₁,h1,h2⟩:=harr.2 hr' (by rw[hx];exact hk);⟨k₁,h1,.head h0 s0 h2⟩⟩
 |goto l=>exact hq.elim
 |ret=>exact ⟨_,a₁,w₁,hq,.of_steps (.one h0 s0) harr⟩
 |panic ch=>exact ⟨_,a₁,w₁,hq,.of_steps (.one h0 s0) harr⟩
 |outgrown=>exact ⟨_,a₁,w₁,hq,.of_steps (.one h0 s0) harr⟩
def zIN(Q:Exit→St→Prop):Exit→St→Prop
 | .goto _,_=>False
 |e,s=>Q e s
theorem Tp.scope{c:Code}(h:Tp C F0 E0 w0 st c (zIN Q)):Tp C F0 E0 w0 st (.scope c) Q:=by
 intro a w E ha;refine zLc (wpIn_mono (h a w E ha) ?_)
 rintro e a' w' ⟨s,h1,h2⟩
 cases e<;>first|exact h1.elim|exact ⟨s,h1,h2⟩
theorem Tp.label{l:Nat}(h:Q .normal st):Tp C F0 E0 w0 st (.label l) Q:=fun _ _ E ha=>wpIn_label ⟨st,h,E,ha⟩
def zI3(ops:List Oper)(m:Nat):Bool:=ops.all fun o=>o.dst.all fun d=>decide (d<m)
theorem zEE{ops:List Oper}{m:Nat}(h:zI3 ops m=true):∀o∈ops,∀d,o.dst=some d→d<m:=by
 intro o ho d hd;unfold zI3 at h;rw[wK]at h;have:=h o ho;rw[hd]at this;simpa using this
def Qd(C:Cx)(Q:Exit→St→Prop):Exit→St→Prop:=fun e st=>Q e st∨(C.dies=true∧e= .panic C.ch∧C.dq st)
theorem Tp.region(hC:C.Ok)(hd0:zGD C.L E0)(hy:InvY C.ys E0 F0 w0)(hR0:HRel E0 F0 w0){id:Nat}{ops:List Oper}(hds:zI3 ops st.t.length=true)(h:zDT C F0 ops ops st.t st.H st.nx (fun t H nx=>Q .normal ⟨t,H,nx⟩)):Tp C F0 E0 w0 st (.region id ops.toArray false) (Qd C Q):=by
 intro a w E hR;refine wpIn_region ?_;obtain ⟨f1,f2⟩:=hR.fresh hd0;have:=seq_ok (C:=C) (F0:=F0) (E0:=E) (F1:=look F0 st.H) (w0:=w) (ds:=a.defers) (m:=st.t.length) (base:=st.nx) (ro:=C.ro) (n:=0) (Q:=fun e a' w'=>∃st',Qd C Q e st'∧∃E',Rel C.B C.L F0 E0 w0 E' st' a' w') hC (zEE hds) hR.step.rel
  (fun st' E' a' w' q0 q1 q2 q3 q4 q5 q6 q7=>⟨st',.inr ⟨q0,rfl,q1⟩,E',hR.step.trans q4,by rw[q2];exact q5,by rw[q6];exact hR.marks.mono q4.ext,fun n g1 g2=>by
   cases he:E n with
   |none=>have:=q7 n he g2;exact ⟨this.1,this.2.2⟩
   |some x=>have:=hR.news n g1 (by rw[he];simp);exact ⟨this.1,by omega⟩⟩) f1 f2 (hy.step hR0 hR.step)
  (fun t H nx E' a' w' q1 q2 q3 q4 q5 q6 q7=>⟨_,.inl q1,E',hR.step.trans q4,by rw[q2];exact q5,by rw[q6];exact hR.marks.mono q4.ext,fun n g1 g2=>by
   cases he:E n with
   |none=>have:=q7 n he g2;exact ⟨this.1,this.2.2⟩
   |some x=>have:=hR.news n g1 (by rw[he];simp);exact ⟨this.1,by simp only;omega⟩⟩)
  ops 0 st.t st.H st.nx rfl (by omega) rfl (zH _) h E a w (StepR.refl hR.step.rel) hR.tmps rfl (fun n h1 h2=>absurd h1 h2)
 simpa using this
theorem zI4{ops:List Oper}{rs:List (Option Res)}(h:zFa ops (rs.map zDE)=true):DynOk ops rs:=by
 intro i j ri rj hi hj hu k hk hl;unfold zFa at h;rw[wK]at h;have h4:=h (zDE ri,i) (by rw[uL];simp[hi]);rw[wK]at h4;have h5:=h4 (zDE rj,j) (by rw[uL];simp[hj]);simp only[hu,zT,Bool.false_or]at h5;exact zC3 h5 (by simpa[zDE] using hk) (by simpa[zDE] using hl)
theorem zU1(hC:C.Ok)(hd0:zGD C.L E0){id:Nat}{ops:List Oper}(hst:zA7 ops st.t.length=true){rs:List (Option Res)}{ls:List Nat}{t':List (Option PV)}{H':List (Nm×SBlk)}{nx':Nat}
  (h1:Tr C.P ops C.L st.t.length ops (TF st.t) (look F0 st.H) st.nx rs ls (TF t') (look F0 H') nx')(h2:t'.length=st.t.length){X:Option (Nat×Nat)}(h3:zIy ops rs X)(h3':XFact C.P ops C.L (TF st.t) (look F0 st.H) rs ls nx' X)(h4:Q .normal ⟨t',H',nx'⟩):
  Tp C F0 E0 w0 st (.region id ops.toArray true) Q:=by
 intro a w E hR;obtain ⟨f1,f2⟩:=hR.fresh hd0;refine wpIn_region_any hC.mixed ?_;have hlo:=(zJv h1).2.1;have hle:st.nx≤nx':=by
  have:=zCQ (zJv h1).2.2 (show 0≤ops.length by omega);rw[hlo]at this;simpa[lo,←(zJv h1).1] using this
 have hd:=zPs (P:=C.P) (E0:=E) (F0:=look F0 st.H) (w0:={w with drawn:=w.drawn+1}) (ro:=C.ro) (n:=0) h1 hst h3 h3' (ds:=a.defers) (Q:=fun e a' w'=>∃st',Q e st'∧∃E',Rel C.B C.L F0 E0 w0 E' st' a' w')
  (fun E' a' w' q1 q2 q3 q4=>⟨_,h4,E',hR.step.drew.trans q1,by rw[h2];exact q2,by rw[q3];exact (hR.marks.mono (StepR.drew (StepR.refl hR.step.rel)).ext).mono q1.ext,fun n g1 g2=>by
   cases he:E n with
   |none=>have:=q4 n he g2;exact ⟨this.1,this.2.2⟩
   |some x=>have:=hR.news n g1 (by rw[he];simp);exact ⟨this.1,by simp only;omega⟩⟩)
 have hnone:∀i,(Array.replicate ops.length false).getD i false=false:=by
  intro i;simp only[Array.getD];split<;>simp
 have hs:ops.toArray.size=ops.length:=by simp
 rw[hs];have e1:zA4 (fun i=>(Array.replicate ops.length false).getD i false) 0 (rs.map hw) (look F0 st.H)=look F0 st.H:=by
  funext k;exact zC0 _ (fun j x _ hs=>by rw[hnone]at hs;cases hs)
 have e2:zA4 (fun i=>(Array.replicate ops.length false).getD i false) 0 (twL ops rs) (TF st.t)=TF st.t:=by
  funext k;exact zC0 _ (fun j x _ hs=>by rw[hnone]at hs;cases hs)
 refine hd ops.length (Array.replicate ops.length false) E a _ (by simp) ?_ ?_ ⟨?_,?_,rfl,?_,?_,f2⟩;·exact vP List.countP_le_length (by simp)
 ·intro q k hq;rw[hnone]at hq;cases hq
 ·rw[e1];exact StepR.refl (StepR.drew (StepR.refl hR.step.rel)).rel
 ·rw[e1,e2];exact hR.tmps.mono (StepR.drew (StepR.refl hR.step.rel)).ext
 ·intro k hk _ hne;rw[hlo]at hk;exact absurd (f1 k hk) hne
 ·intro n h1 h2;exact absurd h1 h2
theorem zVP(hC:C.Ok)(hd0:zGD C.L E0){id:Nat}{ops:List Oper}(hst:zA7 ops st.t.length=true)
  (h:zDj C F0 ops ops st.t st.H st.nx [] (fun t H nx fps=>zFa ops fps=true∧Q .normal ⟨t,H,nx⟩)):Tp C F0 E0 w0 st (.region id ops.toArray true) Q:=by
 have hds:=(zBF hst).2.1;obtain ⟨rs,ls,t',H',nx',h1,h2,h3,h4⟩:=zIL hC hds ops st.t st.H st.nx [] (fun _ h=>h) rfl h;simp only[zF]at h3;exact zU1 hC hd0 hst h1 h2 (zI4 h3).x .none h4
def zSX(C:Cx)(F0:SF)(ops:List Oper)(st:St)(Q:Exit→St→Prop):Prop:=
 ∃i0 j0,i0<j0∧zA7 ops st.t.length=true∧zGz C F0 i0 j0 ops 0 st.t st.H st.H st.nx [] (fun t H nx fps=>zI2 ops fps i0 j0=true∧Q .normal ⟨t,H,nx⟩)
theorem zVQ(hC:C.Ok)(hd0:zGD C.L E0){id:Nat}{ops:List Oper}(h:zSX C F0 ops st Q):Tp C F0 E0 w0 st (.region id ops.toArray true) Q:=by
 obtain ⟨i0,j0,hij,hst,h⟩:=h;have hds:=(zBF hst).2.1;obtain ⟨rs,ls,t',H',nx',h1,h2,h3,h5⟩:=zIM hC hij hds ops 0 st.t st.H st.H st.nx [] (fun _ h=>h) rfl h;simp only[zF]at h3;refine zU1 hC hd0 hst h1 h2 (zJ0 h3.1) ?_ h3.2;intro i1 j1 he o r ho hr;injection he with he;injection he with e1 e2;subst e1;subst e2;have:=h5 _ o r (zP _) ho hr;simp only[zP]at this;rw[if_neg (by omega)]at this;exact this
def RegVX(C:Cx)(x p:Prop):Prop:=
 match C.dies,C.ch with
 |false,[_]=>p∨x
 |_,_=>p
theorem RegVX.cases{x p:Prop}(h:RegVX C x p):p∨x:=by
 unfold RegVX at h;split at h;·exact h
 ·exact .inl h
def zKm(C:Cx)(F0:SF)(ops:List Oper)(st:St):Prop:=
 ∃d nv,d<ops.length∧(nv.all fun i=>ord ops d i)=true∧zA7 ops st.t.length=true∧
  zBo C F0 ops d nv ops 0 st.t st.H st.nx [] (fun du _ _ _ fps=>zFa ops fps=true∧∀nz,zGy C st.t.length st.H (fps.flatMap (·.2)++keys du) nz)
theorem zVA(hC:C.Ok)(hd0:zGD C.L E0){id:Nat}{ops:List Oper}(hdi:C.dies=true)(h:zKm C F0 ops st):Tp C F0 E0 w0 st (.region id ops.toArray true) (Qd C Q):=by
 intro a w E hR;obtain ⟨d,nv,hdl,hnv,hst,h⟩:=h;have hds:=(zBF hst).2.1;have hnv':∀i,nv.contains i=true→ord ops d i=true:=fun i hi=>by
  rw[wK]at hnv;exact hnv i (by simpa using hi)
 obtain ⟨du,rs,ls,nz,h1,h3,h4⟩:=zCj (R:=fun du fps=>zFa ops fps=true∧∀nz,zGy C st.t.length st.H (fps.flatMap (·.2)++keys du) nz) hC hds hnv' ops 0 st.t st.H st.nx [] (fun _ h=>h) (uM _) (by simpa using hdl) rfl h;simp only[zF]at h3 h4;obtain ⟨f1,f2⟩:=hR.fresh hd0;refine wpIn_region_any hC.mixed ?_;obtain ⟨hls,hlo,hmon⟩:=zPQ h1;obtain ⟨hlen,hat⟩:=zRN h1;have hat':∀(j:Nat) (o:Oper) (r:Option Res),ops[j]?=some o→rs[j]?=some r→KF C.P C.ch ops C.L (TF st.t) (look F0 st.H) nz rs ls d du j o r:=by
  intro j o r ho hr;have:=hat j o r ho hr;simp only[zP]at this;exact this
 have hle:st.nx≤nz:=by
  have:=zCQ hmon (show 0≤ops.length by omega);rw[hlo]at this;simpa[lo,←hls] using this
 have hsd:=StepR.drew (StepR.refl hR.step.rel);have hd:=zOK (P:=C.P) (E0:=E) (F0:=look F0 st.H) (w0:={w with drawn:=w.drawn+1}) (ro:=C.ro) (n:=0) (ez:=nz) (ls:=ls) (du:=du) (ch:=C.ch) (d:=d) (m:=st.t.length) (t0:=TF st.t) (H0:=look F0 st.H) hdl hlen hls hmon hat' hst (zI4 h3) (ds:=a.defers) (Q:=fun e a' w'=>∃st',Qd C Q e st'∧∃E',Rel C.B C.L F0 E0 w0 E' st' a' w')
  (fun S E1 a1 w1 E2 w2 q1 q2 q3=>by
   have hst':StepR E (look F0 st.H) {w with drawn:=w.drawn+1} E2 (look F0 (zAl st.H (sel S 0 rs++du))) w2:=by
    have:look F0 (zAl st.H (sel S 0 rs++du))=SF.upd (zA4 S 0 (rs.map hw) (look F0 st.H)) du:=by
     rw[zAP,zA6,zDU,←zA6,←zA6,zKk]
    rw[this];exact q1.step.trans q2
   refine ⟨⟨List.replicate st.t.length none,zAl st.H (sel S 0 rs++du),nz⟩,.inr ⟨hdi,rfl,h4 nz _ fun n hn=>?_⟩,E2,hR.step.drew.trans hst',⟨?_,fun i v hv=>?_⟩,?_,fun n g1 g2=>?_⟩
   ·simp only[keys,wQ,vS]at hn ⊢;rcases hn with hn|hn
    ·obtain ⟨r,r1,r2⟩:=zKl hn;exact .inl (by rw[List.mem_flatMap];exact ⟨zDE r,List.mem_map.2 ⟨r,r1,rfl⟩,r2⟩)
    ·exact .inr hn
   ·simpa using q1.tmps.size
   ·simp only[TF,zE,uT]at hv;split at hv<;>simp at hv
   ·rw[q1.defers];exact (hR.marks.mono hsd.ext).mono hst'.ext
   ·cases he:E n with
    | none=>
     cases he1:E1 n with
     |none=>exact absurd (q3 n he1) g2
     |some x=>
      have:=q1.news n he (by rw[he1];simp);exact ⟨this.1,this.2.2⟩
    |some x=>have:=hR.news n g1 (by rw[he];simp);exact ⟨this.1,by simp only;omega⟩)
 have hnone:∀i,(Array.replicate ops.length false).getD i false=false:=by
  intro i;simp only[Array.getD];split<;>simp
 have hs:ops.toArray.size=ops.length:=by simp
 rw[hs];have e1:zA4 (fun i=>(Array.replicate ops.length false).getD i false) 0 (rs.map hw) (look F0 st.H)=look F0 st.H:=by
  funext k;exact zC0 _ (fun j x _ hs=>by rw[hnone]at hs;cases hs)
 have e2:zA4 (fun i=>(Array.replicate ops.length false).getD i false) 0 (twL ops rs) (TF st.t)=TF st.t:=by
  funext k;exact zC0 _ (fun j x _ hs=>by rw[hnone]at hs;cases hs)
 refine hd ops.length (Array.replicate ops.length false) E a _ (by simp) ?_ ?_ (hnone d) ⟨?_,?_,rfl,?_,?_,f2⟩;·exact vP List.countP_le_length (by simp)
 ·intro q k hq;rw[hnone]at hq;cases hq
 ·rw[e1];exact StepR.refl (StepR.drew (StepR.refl hR.step.rel)).rel
 ·rw[e1,e2];exact hR.tmps.mono (StepR.drew (StepR.refl hR.step.rel)).ext
 ·intro k hk _ hne;rw[hlo]at hk;exact absurd (f1 k hk) hne
 ·intro n h1 h2;exact absurd h1 h2
def RegVD(C:Cx)(p:Prop)(F0:SF)(ops:List Oper)(st:St):Prop:=
 match C.dies with
 |false=>p
 |true=>p∨zKm C F0 ops st
theorem RegVD.live{p:Prop}{ops:List Oper}(h:p):RegVD C p F0 ops st:=by
 unfold RegVD;cases C.dies;·exact h
 ·exact .inl h
theorem RegVD.die{p:Prop}{ops:List Oper}(hd:C.dies=true)(h:zKm C F0 ops st):RegVD C p F0 ops st:=by
 unfold RegVD;rw[hd];exact .inr h
theorem RegVD.cases{p:Prop}{ops:List Oper}(h:RegVD C p F0 ops st):p∨(C.dies=true∧zKm C F0 ops st):=by
 unfold RegVD at h;cases hd:C.dies<;>rw[hd]at h
 ·exact .inl h
 ·exact h.imp id fun h=>⟨rfl,h⟩
def Sub(L:Nat)(F0:SF)(st st':St):Prop:=∀(B:List Deferred) (E0:Env) (w0:World) (E:Env) (a:Act) (w:World),zGD L E0→Rel B L F0 E0 w0 E st a w→∃E',Rel B L F0 E0 w0 E' st' a w
theorem Sub.refl(L:Nat)(F0:SF)(st:St):Sub L F0 st st:=fun _ _ _ E _ _ _ h=>⟨E,h⟩
theorem Tp.sub(hd:zGD C.L E0){st':St}{c:Code}(hs:Sub C.L F0 st st')(h:Tp C F0 E0 w0 st' c Q):Tp C F0 E0 w0 st c Q:=fun a w E ha=>let ⟨E',ha'⟩:=hs _ _ _ E a w hd ha;h a w E' ha'
theorem Tp.loop(hd:zGD C.L E0){c:Code}{ι:Type}(I:ι→St)(pre:ι→Prop)(μ:ι→Nat)(x0:ι)(h0:pre x0)(hs:Sub C.L F0 st (I x0))
  (round:∀x,pre x→Tp C F0 E0 w0 (I x) c (zGE (fun s=>∃y,pre y∧μ y<μ x∧Sub C.L F0 s (I y)) Q)):Tp C F0 E0 w0 st (.loop c) Q:=by
 intro a w E ha b k cs hro hb hr;have key:∀(m:Nat) (x:ι) (a:Act) (w:World) (E:Env),μ x=m→pre x→Rel C.B C.L F0 E0 w0 E (I x) a w→
   ∃e a' w',(∃st',Q e st'∧∃E',Rel C.B C.L F0 E0 w0 E' st' a' w')∧ArrivesIn (Machine.fenced C.P (W C.ro)) C.P (lone (b.atR a (.code c:: .inLoop c::k)) cs w) b k cs e a' w':=by
  intro m;induction m using Nat.strongRecOn with
  | _ m ih=>
   intro x a w E hm hx hH;obtain ⟨e,a₁,w₁,⟨s,hq,E1,hs⟩,harr⟩:=round x hx a w E hH b (.inLoop c::k) cs hro hb hr;cases e with
   |normal=>
    obtain ⟨y,hy,hlt,hsub⟩:=hq;obtain ⟨E2,hs2⟩:=hsub _ _ _ _ _ _ hd hs;obtain ⟨e₂,a₂,w₂,hq₂,harr₂⟩:=ih (μ y) (hm ▸hlt) y a₁ w₁ E2 rfl hy hs2;exact ⟨e₂,a₂,w₂,hq₂,.of_steps (StepsIn.trans harr (.one (fenced_calm hb hr rfl) stepR_inLoop)) harr₂⟩
   |exit id=>exact ⟨_,a₁,w₁,⟨s,hq,E1,hs⟩,.pass (x:=.inLoop c) rfl (fun _ _=>.inl (by simp)) harr⟩
   |goto l=>exact ⟨_,a₁,w₁,⟨s,hq,E1,hs⟩,.pass (x:=.inLoop c) rfl (fun _ _=>.inl (by simp)) harr⟩
   |ret=>exact ⟨_,a₁,w₁,⟨s,hq,E1,hs⟩,.pass (x:=.inLoop c) rfl (fun _ _=>.inl (by simp)) harr⟩
   |panic ch=>exact ⟨_,a₁,w₁,⟨s,hq,E1,hs⟩,.pass (x:=.inLoop c) rfl (fun _ _=>.inl (by simp)) harr⟩
   |outgrown=>exact ⟨_,a₁,w₁,⟨s,hq,E1,hs⟩,.pass (x:=.inLoop c) rfl (fun _ _=>.inl (by simp)) harr⟩
 obtain ⟨E',ha'⟩:=hs _ _ _ _ _ _ hd ha;obtain ⟨e,a',w',hq,harr⟩:=key _ x0 a w E' rfl h0 ha';exact ⟨e,a',w',hq,.of_steps (.one (fenced_calm hb hr rfl) stepR_loop) harr⟩
end
def zG0(C:Cx)(F0:SF)(g:Operand)(ps:Array Tmp)(assign body:Code)(st:St)(Q:Exit→St→Prop):Prop:=
 match zAu st.t g with
 |some (.fn (.func f) fl cl)=>C.ro=none∧(∃fn,C.P.funcs[f]?=some fn∧fn.body.isNone=false∧(fn.name== "runtime.NumGoroutine")=false)∧
  ∃t0 v upd rd top,(t0.length=st.t.length∧∀i v,TF t0 i=some v→TF st.t i=some v)∧(∀y:YRec,y.R.params=ps→y.R.assign=assign→y.R.body=body→y.t=t0→ICon C.P [y] f (fl++[.fn (.yield y.l) [] []]++cl) (look F0 st.H) C.L st.nx top v upd rd)∧Q .normal ⟨st.t,zAl st.H upd,top⟩
 |_=>False
def zEF(C:Cx)(F0:SF)(g:Operand)(ps:Array Tmp)(assign body:Code)(st:St):Prop:=
 match zAu st.t g with
 |some (.fn (.func f) fl cl)=>C.ro=none∧(∃fn,C.P.funcs[f]?=some fn∧fn.body.isNone=false∧(fn.name== "runtime.NumGoroutine")=false)∧
  ∃t0 upd rd,(t0.length=st.t.length∧∀i v,TF t0 i=some v→TF st.t i=some v)∧(∀y:YRec,y.R.params=ps→y.R.assign=assign→y.R.body=body→y.t=t0→IDCon C.P [y] C.ch f (fl++[.fn (.yield y.l) [] []]++cl) (look F0 st.H) C.L upd rd)∧C.dq ⟨st.t,zAl st.H upd,st.nx⟩
 |_=>False
def RangeVD(C:Cx)(p:Prop)(F0:SF)(g:Operand)(ps:Array Tmp)(assign body:Code)(st:St):Prop:=
 match C.dies with
 |false=>p
 |true=>p∨zEF C F0 g ps assign body st
theorem RangeVD.live{C:Cx}{p:Prop}{F0:SF}{g:Operand}{ps:Array Tmp}{assign body:Code}{st:St}(h:p):RangeVD C p F0 g ps assign body st:=by
 unfold RangeVD;cases C.dies;·exact h
 ·exact .inl h
theorem RangeVD.die{C:Cx}{p:Prop}{F0:SF}{g:Operand}{ps:Array Tmp}{assign body:Code}{st:St}(hd:C.dies=true)(h:zEF C F0 g ps assign body st):RangeVD C p F0 g ps assign body st:=by
 unfold RangeVD;rw[hd];exact .inr h
theorem RangeVD.cases{C:Cx}{p:Prop}{F0:SF}{g:Operand}{ps:Array Tmp}{assign body:Code}{st:St}(h:RangeVD C p F0 g ps assign body st):p∨(C.dies=true∧zEF C F0 g ps assign body st):=by
 unfold RangeVD at h;cases hd:C.dies<;>rw[hd]at h
 ·exact .inl h
 ·exact h.imp id fun h=>⟨rfl,h⟩
theorem zHo{B:List Deferred}{n0:Nat}{Z Z':Nat→Prop}{w w':World}{ds:List Deferred}{D:Nat}(h:MarksOk B n0 Z w ds)(hlt:∀D',Z D'→D'<D)(h0:n0≤D)(hD:Z' D)(hD3:w'.heap[D]?=some (.deferred (some [])))(hk:∀D',Z D'→D'<D→w.heap[D']?=some (.deferred (some []))→Z' D'∧w'.heap[D']?=some (.deferred (some []))):MarksOk B n0 Z' w' ([mkD D]++ds):=by
 obtain ⟨Ds,d1,d2,d3⟩:=h;refine ⟨D::Ds,?_,by rw[zL,d2];rfl,fun D' h'=>?_⟩;·simp only[List.nodup_cons];exact ⟨fun h=>by have:=hlt D (d3 D h).2.1;omega,d1⟩
 ·simp only[wP]at h';rcases h' with rfl|h';·exact ⟨h0,hD,hD3⟩
  ·obtain ⟨c1,c2,c3⟩:=d3 D' h';obtain ⟨e1,e2⟩:=hk D' c2 (hlt _ c2) c3;exact ⟨c1,e1,e2⟩
theorem Tp.rangeFunc{C:Cx}{F0:SF}{E0:Env}{w0:World}(hd:zGD C.L E0){g:Operand}{ps:Array Tmp}{assign body:Code}{st:St}{Q:Exit→St→Prop}(h:zG0 C F0 g ps assign body st Q):Tp C F0 E0 w0 st (.rangeFunc g ps assign body) Q:=by
 intro a w E hR;unfold zG0 at h;split at h;rotate_left;·exact h.elim
 rename_i f fl cl hg;obtain ⟨hro,⟨fn,hfn1,hfn2,hfn3⟩,t0,v,upd,rd,top,⟨ht0,ht1⟩,hc,hq⟩:=h;have hgv:=hR.tmps.eval g _ (by rw[←zBw];exact hg);simp only[VR]at hgv;obtain ⟨fl',cl',hge,hfl,hcl⟩:=hgv;obtain ⟨f1,f2⟩:=hR.fresh hd;rw[hro];refine wpIn_rangeFunc ?_;intro fnn _
 let D:=w.heap.size
 let R0:Loop:={state:=.ready,pending:=none,fn:=fnn,tmps:=a.tmps,params:=ps,assign,body,defers:=D}
 let W1:=(w.alloc (.deferred (some []))).alloc (.loop R0)
 have s1:=StepR.alloc hR.step.rel (.deferred (some []));have s2:=StepR.alloc s1.rel (.loop R0);have s12:StepR E (look F0 st.H) w E (look F0 st.H) W1:=s1.trans s2;have hD1:W1.heap[D]?=some (.deferred (some [])):=(Go.RowKit.Below.heap_alloc _ _ _ (by simp[D])).trans (World.alloc_heap_new w _);have hl1:W1.heap[D+1]?=some (.loop R0):=by
  have:=World.alloc_heap_new (w.alloc (.deferred (some []))) (.loop R0)
  rwa[World.size_alloc]at this
 let y:YRec:=⟨D+1,R0,t0⟩
 have hy:InvY [y] E (look F0 st.H) W1:=by
  intro z hz;simp only[qP]at hz;subst hz;have h0:=hR.tmps.mono s12.ext;exact ⟨rfl,rfl,hl1,⟨by rw[ht0];exact h0.size,fun i v hv=>h0.val i v (ht1 i v hv)⟩⟩
 have hic:=hc y rfl rfl rfl rfl;have hargs:VRl W1 (Zn E (look F0 st.H) W1) E (fl++[.fn (.yield y.l) [] []]++cl) (fl'++[Value.func (.yield y.l) #[] #[]]++cl'):=by
  refine VRl.append (VRl.append (VRl.mono s12.ext _ _ hfl) ?_) (VRl.mono s12.ext _ _ hcl);simp only[VRl];exact ⟨_,_,rfl,by simp only[VR,VRl];exact ⟨[],[],rfl,rfl,rfl⟩,rfl⟩
 have hland:=hic.2 _ (fun _ _=>rfl) E W1 _ s12.rel (fun k h1 _=>f1 k h1) f2 hargs hy;rw[zAk hfn1 hfn2 hfn3]at hland;have hcalls:Calls C.P f (fl'++[Value.func (.yield y.l) #[] #[]]++cl').toArray W1 fun e w''=>∃v',e= .returned v'∧zBH E (look F0 st.H) W1 C.L st.nx top v upd v' w'':=hland
 rw[←callsIn_wide (n:=0-1)]at hcalls;refine ⟨D+1,[mkD D],W1,{target:=.fn (.func f) cl'.toArray,args:=fl'.toArray++ #[Value.func (.yield (D+1)) #[] #[]]},W1,f,(fl'++[Value.func (.yield y.l) #[] #[]]++cl').toArray,W1,run_enterLoop_outer _ _ _ _ _,?_,fun _ _=>trivial,?_,(fun hd=>by cases hd),?_⟩
 ·simp only[resolve,hge,Deferred.ofValue,zI];simp[Act.eval]
 ·simp only[invoke];rw[zAk hfn1 hfn2 hfn3];congr 2;apply vG;simp[y]
 ·refine hcalls.mono ?_
  rintro e w3 ⟨v',rfl,E',g1,g2,g3⟩
  have hl3:w3.heap[D+1]?=some (.loop R0):=(g2.keep _ (zBl hl1) (s12.rel.unowned (zBR hl1))).trans hl1;have hD3:w3.heap[D]?=some (.deferred (some [])):=(g2.keep _ (zBl hD1) (s12.rel.unowned (zBS hD1))).trans hD1;have ht:=zEx w3 (D+1) (.loop {R0 with state:=.exhausted});have hno:=zBR hl3;have hw0:w0.heap.size≤D:=hR.step.size;have S3:=(hR.step.trans s12).trans g2;have S4:=S3.turn hno ht (by omega);have hx:=s12.ext;refine ⟨none,_,run_endLoop hl3 (by simp[R0]),⟨st.t,zAl st.H upd,top⟩,hq,E',?_,?_,?_,?_⟩;·rw[zAP];exact S4
  ·rw[zAP];refine ⟨hR.tmps.size,fun i x hxv=>?_⟩;obtain ⟨x',a1,a2⟩:=hR.tmps.val i x hxv;exact ⟨x',a1,VR.turn hno ht (VR.mono g2.ext _ _ (VR.mono s12.ext _ _ a2))⟩
  ·rw[zAP];have hz:=g2.rel.inZone (zBS hD3) (zBl hD3);refine zHo hR.marks (fun D' h=>h.1) hw0 ⟨by rw[ht.size];exact hz.1,hz.2⟩ ((ht.keep _ (by omega)).trans hD3) fun D' z1 z2 z3=>?_
   have z4:=g2.ext.zone _ (s12.ext.zone _ z1);have z5:w3.heap[D']?=some (.deferred (some [])):=((g2.ext.heap _ (s12.ext.zone _ z1)).trans (s12.ext.heap _ z1)).trans z3;exact ⟨⟨by rw[ht.size];exact z4.1,z4.2⟩,(ht.keep _ (by omega)).trans z5⟩
  ·intro n h1 h2;cases he:E n with
   |none=>have:=g3 n he h2;exact ⟨this.1,this.2.2⟩
   |some x=>have:=hR.news n h1 (by rw[he];simp);have:=hic.1;exact ⟨(hR.news n h1 (by rw[he];simp)).1,by simp only;omega⟩
theorem zVF{C:Cx}{F0:SF}{E0:Env}{w0:World}(hd:zGD C.L E0){g:Operand}{ps:Array Tmp}{assign body:Code}{st:St}{Q:Exit→St→Prop}(hdi:C.dies=true)(h:zEF C F0 g ps assign body st):Tp C F0 E0 w0 st (.rangeFunc g ps assign body) (Qd C Q):=by
 intro a w E hR;unfold zEF at h;split at h;rotate_left;·exact h.elim
 rename_i f fl cl hg;obtain ⟨hro,⟨fn,hfn1,hfn2,hfn3⟩,t0,upd,rd,⟨ht0,ht1⟩,hc,hq⟩:=h;have hgv:=hR.tmps.eval g _ (by rw[←zBw];exact hg);simp only[VR]at hgv;obtain ⟨fl',cl',hge,hfl,hcl⟩:=hgv;obtain ⟨f1,f2⟩:=hR.fresh hd;rw[hro];refine wpIn_rangeFunc ?_;intro fnn _
 let D:=w.heap.size
 let R0:Loop:={state:=.ready,pending:=none,fn:=fnn,tmps:=a.tmps,params:=ps,assign,body,defers:=D}
 let W1:=(w.alloc (.deferred (some []))).alloc (.loop R0)
 have s1:=StepR.alloc hR.step.rel (.deferred (some []));have s2:=StepR.alloc s1.rel (.loop R0);have s12:StepR E (look F0 st.H) w E (look F0 st.H) W1:=s1.trans s2;have hD1:W1.heap[D]?=some (.deferred (some [])):=(Go.RowKit.Below.heap_alloc _ _ _ (by simp[D])).trans (World.alloc_heap_new w _);have hl1:W1.heap[D+1]?=some (.loop R0):=by
  have:=World.alloc_heap_new (w.alloc (.deferred (some []))) (.loop R0)
  rwa[World.size_alloc]at this
 let y:YRec:=⟨D+1,R0,t0⟩
 have hy:InvY [y] E (look F0 st.H) W1:=by
  intro z hz;simp only[qP]at hz;subst hz;have h0:=hR.tmps.mono s12.ext;exact ⟨rfl,rfl,hl1,⟨by rw[ht0];exact h0.size,fun i v hv=>h0.val i v (ht1 i v hv)⟩⟩
 have hic:=hc y rfl rfl rfl rfl;have hargs:VRl W1 (Zn E (look F0 st.H) W1) E (fl++[.fn (.yield y.l) [] []]++cl) (fl'++[Value.func (.yield y.l) #[] #[]]++cl'):=by
  refine VRl.append (VRl.append (VRl.mono s12.ext _ _ hfl) ?_) (VRl.mono s12.ext _ _ hcl);simp only[VRl];exact ⟨_,_,rfl,by simp only[VR,VRl];exact ⟨[],[],rfl,rfl,rfl⟩,rfl⟩
 have hland:=hic _ (fun _ _=>rfl) E W1 _ s12.rel f2 hargs hy;rw[zAk hfn1 hfn2 hfn3]at hland;have hcalls:Calls C.P f (fl'++[Value.func (.yield y.l) #[] #[]]++cl').toArray W1 fun e w''=>e= .panicked C.ch∧DGives E (look F0 st.H) W1 upd w'':=hland
 rw[←callsIn_wide (n:=0-1)]at hcalls;refine ⟨D+1,[mkD D],W1,{target:=.fn (.func f) cl'.toArray,args:=fl'.toArray++ #[Value.func (.yield (D+1)) #[] #[]]},W1,f,(fl'++[Value.func (.yield y.l) #[] #[]]++cl').toArray,W1,run_enterLoop_outer _ _ _ _ _,?_,fun _ _=>trivial,?_,(fun hd=>by cases hd),?_⟩
 ·simp only[resolve,hge,Deferred.ofValue,zI];simp[Act.eval]
 ·simp only[invoke];rw[zAk hfn1 hfn2 hfn3];congr 2;apply vG;simp[y]
 ·refine hcalls.mono ?_
  rintro e w3 ⟨rfl,E',g2,g3⟩
  have hD3:w3.heap[D]?=some (.deferred (some [])):=(g2.keep _ (zBl hD1) (s12.rel.unowned (zBS hD1))).trans hD1;have hw0:w0.heap.size≤D:=hR.step.size;refine ⟨⟨st.t,zAl st.H upd,st.nx⟩,.inr ⟨hdi,rfl,hq⟩,E',?_,?_,?_,?_⟩;·rw[zAP];exact (hR.step.trans s12).trans g2
  ·rw[zAP];exact (hR.tmps.mono s12.ext).mono g2.ext
  ·rw[zAP];refine zHo hR.marks (fun D' h=>h.1) hw0 (g2.rel.inZone (zBS hD3) (zBl hD3)) hD3 fun D' z1 z2 z3=>?_
   exact ⟨g2.ext.zone _ (s12.ext.zone _ z1),((g2.ext.heap _ (s12.ext.zone _ z1)).trans (s12.ext.heap _ z1)).trans z3⟩
  ·intro n h1 h2;cases he:E n with
   |none=>exact absurd (g3 n he) h2
   |some x=>exact hR.news n h1 (by rw[he];simp)
def zPR(C:Cx)(F0:SF)(v:St→(Exit→St→Prop)→Prop)(st:St)(Q:Exit→St→Prop):Prop:=
 ∃(ι:Type) (I:ι→St) (pre:ι→Prop) (μ:ι→Nat) (x0:ι),pre x0∧Sub C.L F0 st (I x0)∧∀x,pre x→v (I x) (zGE (fun s=>∃y,pre y∧μ y<μ x∧Sub C.L F0 s (I y)) Q)
def vcC(C:Cx)(F0:SF):Code→St→(Exit→St→Prop)→Prop
 | .skip,st,Q=>Q .normal st
 | .ret,st,Q=>Q .ret st
 | .exit id,st,Q=>Q (.exit id) st
 | .seq a b,st,Q=>vcC C F0 a st (zGE (fun s=>vcC C F0 b s Q) Q)
 | .cond c x y,st,Q=>match zAu st.t c with|some (.bool g)=>brB g true (vcC C F0 x st Q) (vcC C F0 y st Q)|_=>False
 | .block id c,st,Q=>vcC C F0 c st (zHn id Q)
 | .scope c,st,Q=>vcC C F0 c st (zIN Q)
 | .label _,st,Q=>Q .normal st
 | .loop c,st,Q=>zPR C F0 (vcC C F0 c) st Q
 | .region _ ⟨ops⟩ false,st,Q=>zI3 ops st.t.length=true∧zDT C F0 ops ops st.t st.H st.nx (fun t H nx=>Q .normal ⟨t,H,nx⟩)
 | .region _ ⟨ops⟩ true,st,Q=>RegVD C (RegVX C (zSX C F0 ops st Q) (zA7 ops st.t.length=true∧zDj C F0 ops ops st.t st.H st.nx [] (fun t H nx fps=>zFa ops fps=true∧Q .normal ⟨t,H,nx⟩))) F0 ops st
 | .rangeFunc g ps assign body,st,Q=>RangeVD C (zG0 C F0 g ps assign body st Q) F0 g ps assign body st
 |_,_,_=>False
theorem Qd.of{C:Cx}{Q:Exit→St→Prop}{e:Exit}{s:St}(h:Q e s):Qd C Q e s:=.inl h
theorem zG1{C:Cx}{F0:SF}{E0:Env}{w0:World}(hC:C.Ok)(hd:zGD C.L E0)(hy:InvY C.ys E0 F0 w0)(hR0:HRel E0 F0 w0):∀(c:Code) (st:St) (Q:Exit→St→Prop),vcC C F0 c st Q→Tp C F0 E0 w0 st c (Qd C Q):=by
 intro c;induction c with
 |skip=>intro st Q h;exact Tp.skip (.inl h)
 |ret=>intro st Q h;exact Tp.ret (.inl h)
 |exit id=>intro st Q h;exact Tp.exit (.inl h)
 |seq a b iha ihb=>
  intro st Q h;refine Tp.seq ((iha st _ h).mono ?_);intro e s hs;rcases hs with hs|⟨h1,rfl,h2⟩
  ·cases e<;>first|exact ihb _ _ hs|exact .inl hs
  ·exact .inr ⟨h1,rfl,h2⟩
 |cond c x y ihx ihy=>
  intro st Q h;simp only[vcC]at h;split at h
  ·rename_i g hg;exact Tp.cond hg (fun e=>ihx _ _ (h.1 e)) (fun e=>ihy _ _ (h.2 (by simp[e])))
  ·exact h.elim
 | block id c ih=>
  intro st Q h;refine Tp.block ((ih _ _ h).mono ?_);intro e s hs;rcases hs with hs|⟨h1,rfl,h2⟩
  ·cases e with
   |exit id'=>simp only[zHn]at hs ⊢;split<;>rename_i hi<;>first|(rw[if_pos hi]at hs;exact .inl hs)|(rw[if_neg hi]at hs;exact .inl hs)
   |_=>exact .inl hs
  ·exact .inr ⟨h1,rfl,h2⟩
 |scope c ih=>
  intro st Q h;refine Tp.scope ((ih _ _ h).mono ?_);intro e s hs;rcases hs with hs|⟨h1,rfl,h2⟩
  ·cases e<;>first|exact hs.elim|exact .inl hs
  ·exact .inr ⟨h1,rfl,h2⟩
 |label l=>intro st Q h;exact Tp.label (.inl h)
 |loop c ih=>
  intro st Q h;obtain ⟨ι,I,pre,μ,x0,h1,h2,h3⟩:=h;refine Tp.loop hd I pre μ x0 h1 h2 fun x hx=>(ih _ _ (h3 x hx)).mono ?_
  intro e s hs;rcases hs with hs|⟨h1,rfl,h2⟩
  ·cases e<;>first|exact hs|exact .inl hs
  ·exact .inr ⟨h1,rfl,h2⟩
 | region id ops draw=>
  intro st Q h;obtain ⟨ops⟩:=ops;cases draw with
  |false=>exact Tp.region hC hd hy hR0 h.1 h.2
  | true=>
   rcases RegVD.cases h with h|⟨h1,h2⟩
   ·rcases RegVX.cases h with h|h
    ·exact (zVP hC hd h.1 h.2).mono fun _ _ h=>.inl h
    ·exact (zVQ hC hd h).mono fun _ _ h=>.inl h
   ·exact zVA hC hd h1 h2
 |rangeFunc g ps assign body=>
  intro st Q h;rcases RangeVD.cases h with h|⟨h1,h2⟩
  ·exact (Tp.rangeFunc hd h).mono fun _ _ h=>.inl h
  ·exact zVF hd h1 h2
 |_=>intro st Q h;simp only[vcC]at h
theorem zKn{C:Cx}(hdi:C.dies=false){F0:SF}{E0:Env}{w0:World}(hC:C.Ok)(hd:zGD C.L E0)(hy:InvY C.ys E0 F0 w0)(hR0:HRel E0 F0 w0)(c:Code)(st:St)(Q:Exit→St→Prop)(h:vcC C F0 c st Q):Tp C F0 E0 w0 st c Q:=
 (zG1 hC hd hy hR0 c st Q h).mono fun e s hs=>hs.resolve_right fun h=>by rw[hdi]at h;cases h.1
end Go.Tx
end
section
namespace Go.Tx
open Go.Sx (zAB)
def zG2(T:Tys)(F:SF)(t:List (Option PV)):ResultVar→Option (Prop×PV)
 | .tmp i=>(t.getD i none).map fun v=>(True,v)
 | .cell a ty=>(t.getD a none).bind fun p=>(zBq T F ty p).map fun r=>(r.vc,r.v)
def zFf(T:Tys)(F:SF)(t:List (Option PV)):List ResultVar→Option (Prop×List PV)
 | []=>some (True,[])
 |x::l=>(zG2 T F t x).bind fun q=>(zFf T F t l).map fun qs=>(q.1∧qs.1,q.2::qs.2)
def one:List PV→PV
 | [v]=>v
 |vs=>.tup vs
def zC5(T:Tys)(F:SF)(t:List (Option PV))(l:List ResultVar):Option (Prop×PV):=
 (zFf T F t l).map fun q=>(q.1,one q.2)
section
variable {P : Program} {T : Tys} {E : Env} {F : SF} {w : World}
theorem zI5(hT:T.Ok P)(hR:HRel E F w){t:List (Option PV)}{m:Nat}{a:Act}(ht:TRelF w (Zn E F w) E (TF t) m a.tmps):∀{x:ResultVar} {p:Prop} {v:PV},zG2 T F t x=some (p,v)→p→
  ∃v',(match x with| .tmp t=>pure (a.tmps.getD t undef)| .cell b t=>do loadVar t (←asAddr (a.tmps.getD b undef)):Sem Value).run P w= .ok v' w∧VR w (Zn E F w) E v v':=by
 intro x p v h hp;cases x with
 |tmp i=>
  simp only[zG2,zV,wL]at h;obtain ⟨u,h1,_,rfl⟩:=h;obtain ⟨v',a1,a2⟩:=ht.val i u h1;exact ⟨v',by simp[a1],a2⟩
 | cell b ty=>
  simp only[zG2,zM,zV,wL]at h;obtain ⟨u,h1,r,h2,rfl,rfl⟩:=h;obtain ⟨u',a1,a2⟩:=ht.val b u h1;have hadd:∃q,u'= .pointer (some q):=by
   unfold zBq at h2;split at h2;·simp only[VR]at a2;obtain ⟨i,_,_,rfl⟩:=a2;exact ⟨_,rfl⟩
   ·simp only[VR]at a2;obtain ⟨_,_,_,_,_,rfl,_⟩:=a2;exact ⟨_,rfl⟩
   ·cases h2
  obtain ⟨q,rfl⟩:=hadd;obtain ⟨v2,s1,s2⟩:=zJg (P:=P) hT hR h2 hp a2;refine ⟨v2,?_,s2⟩;simp only[Instr.loadAt,Instr.sureAddr,zB,zI,zD]at s1;have e:a.tmps.getD b undef= .pointer (some q):=by simp[a1]
  simp only[e,asAddr,zB,zI,zD];exact s1
theorem zG3(hT:T.Ok P)(hR:HRel E F w){t:List (Option PV)}{m:Nat}{a:Act}(ht:TRelF w (Zn E F w) E (TF t) m a.tmps):∀{l:List ResultVar} {p:Prop} {vs:List PV},zFf T F t l=some (p,vs)→p→
  ∃vs',(l.mapM (fun| .tmp t=>pure (a.tmps.getD t undef)| .cell b t=>do loadVar t (←asAddr (a.tmps.getD b undef)):ResultVar→Sem Value)).run P w= .ok vs' w∧VRl w (Zn E F w) E vs vs'
 | [],p,vs,h,_=>by
  simp only[zFf,zZ,wL]at h;obtain ⟨_,rfl⟩:=h;exact ⟨[],by simp,by simp[VRl]⟩
 |x::l,p,vs,h,hp=>by
  simp only[zFf,zM,zV,wL]at h;obtain ⟨⟨p1,v1⟩,h1,⟨p2,v2⟩,h2,rfl,rfl⟩:=h;obtain ⟨v',a1,a2⟩:=zI5 hT hR ht h1 hp.1;obtain ⟨vs',b1,b2⟩:=zG3 hT hR ht h2 hp.2;refine ⟨v'::vs',?_,by simp only[VRl];exact ⟨_,_,rfl,a2,b2⟩⟩;simp only[List.mapM_cons,zB];cases x with
  |tmp t=>simp only at a1;rw[a1];simp only[zD,b1,zI]
  |cell b t=>simp only at a1;rw[a1];simp only[zD,b1,zI]
theorem zG4(hT:T.Ok P)(hR:HRel E F w){t:List (Option PV)}{m:Nat}{a:Act}(ht:TRelF w (Zn E F w) E (TF t) m a.tmps){fn:Func}{p:Prop}{v:PV}(h:zC5 T F t fn.results.toList=some (p,v))(hp:p):
  ∃v',(results fn a.tmps).run P w= .ok v' w∧VR w (Zn E F w) E v v':=by
 simp only[zC5,zV,wL]at h;obtain ⟨⟨q,vs⟩,h1,rfl,rfl⟩:=h;obtain ⟨vs',a1,a2⟩:=zG3 hT hR ht h1 hp;clear hp;have hlen:=(VRl.get a2).1;have hrun:(fn.results.mapM (fun| .tmp t=>pure (a.tmps.getD t undef)| .cell b t=>do loadVar t (←asAddr (a.tmps.getD b undef)):ResultVar→Sem Value)).run P w= .ok vs'.toArray w:=by
  rw[Array.mapM_eq_mapM_toList,Sem.run_map,a1];rfl
 have hres:(results fn a.tmps).run P w= .ok (if h:vs'.toArray.size=1 then vs'.toArray[0] else .tuple vs'.toArray) w:=by
  unfold results;rw[zB];exact (congrArg (fun q:Result (Array Value)=>q.andThen fun vs w'=>Sem.run P (pure (if h:vs.size=1 then vs[0] else .tuple vs)) w') (hrun:_)).trans rfl
 clear hrun a1 h1;refine ⟨_,hres,?_⟩
 match vs,vs',a2,hlen with
 | [],[],a2,_=>simp only[one,VR];exact ⟨[],by simp,a2⟩
 | [u],[u'],a2,_=>
  simp only[VRl]at a2;obtain ⟨_,_,h,a2,_⟩:=a2;injection h with h1 h2;subst h1;simpa[one] using a2
 |u::u2::l,u'::u2'::l',a2,_=>
  simp only[one,VR];exact ⟨u'::u2'::l',by simp,a2⟩
 | [],_::_,_,h=>simp at h
 | [_],[],_,h=>simp at h
 | [_],_::_::_,_,h=>simp at h
 |_::_::_,[],_,h=>simp at h
 |_::_::_,[_],_,h=>simp at h
mutual
theorem zVG{w0 w:World}{Z0 Z:Nat→Prop}{E E' E'':Env}(hE:∀n i,E n=some i→E' n=some i∧E'' n=some i):∀(x:PV) (v0 v:Value),VR w0 Z0 E x v0→VR w Z E' x v→VR w Z E'' x v
 | .bool _,_,v,_,h=>by simpa[VR] using h
 | .int _ _,_,v,_,h=>by simpa[VR] using h
 | .str _,_,v,_,h=>by simpa[VR] using h
 | .nilP,_,v,_,h=>by simpa[VR] using h
 | .nilS,_,v,_,h=>by simpa[VR] using h
 | .nilM,_,v,_,h=>by simpa[VR] using h
 | .nilF,_,v,_,h=>by simpa[VR] using h
 | .nilI,_,v,_,h=>by simpa[VR] using h
 | .ptr n _ _,_,v,h0,h=>by
  simp only[VR]at h0 h ⊢;obtain ⟨i,hi,_⟩:=h0;obtain ⟨h1,h2⟩:=hE n i hi;obtain ⟨j,hj,h⟩:=h;rw[h1]at hj;injection hj with hj;subst hj;exact ⟨i,h2,h⟩
 | .sl n _ _,_,v,h0,h=>by
  simp only[VR]at h0 h ⊢;obtain ⟨i,hi,_⟩:=h0;obtain ⟨h1,h2⟩:=hE n i hi;obtain ⟨j,hj,h⟩:=h;rw[h1]at hj;injection hj with hj;subst hj;exact ⟨i,h2,h⟩
 | .mp n,_,v,h0,h=>by
  simp only[VR]at h0 h ⊢;obtain ⟨i,hi,_⟩:=h0;obtain ⟨h1,h2⟩:=hE n i hi;obtain ⟨j,hj,h⟩:=h;rw[h1]at hj;injection hj with hj;subst hj;exact ⟨i,h2,h⟩
 | .fp _ _ _ _,_,v,_,h=>by simp only[VR]at h ⊢;exact h
 | .fs _ _,_,v,_,h=>by simp only[VR]at h ⊢;exact h
 | .fm _ _,_,v,_,h=>by simp only[VR]at h ⊢;exact h
 | .fn f x y,_,v,h0,h=>by
  simp only[VR]at h0 h ⊢;obtain ⟨x0,y0,rfl,a1,a2⟩:=h0;obtain ⟨x',y',rfl,b1,b2⟩:=h;exact ⟨x',y',rfl,zUl hE x _ _ a1 b1,zUl hE y _ _ a2 b2⟩
 | .ifc t u,_,v,h0,h=>by
  simp only[VR]at h0 h ⊢;obtain ⟨u0,rfl,a1⟩:=h0;obtain ⟨u',rfl,b1⟩:=h;exact ⟨u',rfl,zVG hE u _ _ a1 b1⟩
 | .agg l,_,v,h0,h=>by
  simp only[VR]at h0 h ⊢;obtain ⟨l0,rfl,_,a1⟩:=h0;obtain ⟨l',rfl,b0,b1⟩:=h;exact ⟨l',rfl,b0,zUl hE l _ _ a1 b1⟩
 | .tup l,_,v,h0,h=>by
  simp only[VR]at h0 h ⊢;obtain ⟨l0,rfl,a1⟩:=h0;obtain ⟨l',rfl,b1⟩:=h;exact ⟨l',rfl,zUl hE l _ _ a1 b1⟩
theorem zUl{w0 w:World}{Z0 Z:Nat→Prop}{E E' E'':Env}(hE:∀n i,E n=some i→E' n=some i∧E'' n=some i):∀(x:List PV) (v0 v:List Value),VRl w0 Z0 E x v0→VRl w Z E' x v→VRl w Z E'' x v
 | [],_,v,_,h=>by simpa[VRl] using h
 |x::l,v0,v,h0,h=>by
  simp only[VRl]at h0 h ⊢;obtain ⟨u0,t0,rfl,a1,a2⟩:=h0;obtain ⟨u,t,rfl,b1,b2⟩:=h;exact ⟨u,t,rfl,zVG hE x _ _ a1 b1,zUl hE l _ _ a2 b2⟩
end
theorem zVV{w0 w:World}{Z0 Z:Nat→Prop}{E E' E'':Env}(hE:∀n i,E n=some i→E' n=some i∧E'' n=some i){rs:List (List PV)}{wd o0 o:Nat}{cs0 cs:Array Value}(hl:∀row∈rs,row.length=wd)
  (h0:VRr w0 Z0 E rs o0 cs0)(h:VRr w Z E' rs o cs):VRr w Z E'' rs o cs:=by
 refine (zAM hl).2 fun r row c x hr hc=>?_
 obtain ⟨v0,_,_,a⟩:=(zAM hl).1 h0 r row c x hr hc;obtain ⟨v,b1,b2,b3⟩:=(zAM hl).1 h r row c x hr hc;exact ⟨v,b1,b2,zVG hE x _ _ a b3⟩
theorem zUz{w0 w:World}{Z0 Z:Nat→Prop}{E E' E'':Env}(hE:∀n i,E n=some i→E' n=some i∧E'' n=some i){n:Nm}{b:SBlk}(h0:BRel E w0 Z0 n b)(h:BRel E' w Z n b):BRel E'' w Z n b:=by
 have hEE:∀p:Bool,∀n i,EE E p n=some i→EE E' p n=some i∧EE E'' p n=some i:=by
  intro p;cases p;·exact hE
  ·intro n i h;cases h
 cases b with
 |dead=>trivial
 |cap m k=>obtain ⟨i,hi,hz⟩:=h0;exact ⟨i,(hE m i hi).2,hz⟩
 | rows e wd own p rs=>
  obtain ⟨i,hi,hor0⟩:=h0;obtain ⟨j,hj,hor⟩:=h;obtain ⟨q1,q2⟩:=hE n i hi;rw[q1]at hj;injection hj with hj;subst hj;refine ⟨i,q2,?_⟩;rcases hor with hz|⟨hz,hR⟩;·exact .inl hz
  ·rcases hor0 with ⟨z0,_⟩|⟨_,hR0⟩;·rw[hz]at z0;cases z0
   refine .inr ⟨hz,hR.wd_eq,hR.o0,hR.wd_pos,hR.len,hR.le,hR.cap,?_⟩;obtain ⟨cs,fz,b1,b2,b3,b4⟩:=hR.cells;obtain ⟨cs0,fz0,c1,c2,c3,c4⟩:=hR0.cells;exact ⟨cs,fz,b1,b2,b3,zVV (hEE p) hR.len c4 b4⟩
 |map own p ks vs=>
  obtain ⟨i,hi,hz,ents0,clk0,hb0,hm0⟩:=h0;obtain ⟨j,hj,_,ents,clk,hb,hm⟩:=h;obtain ⟨q1,q2⟩:=hE n i hi;rw[q1]at hj;injection hj with hj;subst hj;exact ⟨i,q2,hz,ents,clk,hb,zUl (hEE p) _ _ _ hm0.1 hm.1,zUl (hEE p) _ _ _ hm0.2 hm.2⟩
end
end Go.Tx
end
section
namespace Go.Tx
open Go.Sx (zAB)
def zBn(args:List PV)(n:Nat):List (Option PV):=args.map some++List.replicate (n-args.length) (some zAN)
def zHp(F:SF):List (List PV)→List (List PV)→Prop
 | [],[]=>True
 |x::l,y::l'=>WkL F x y∧zHp F l l'
 |_,_=>False
def zCA:List (List PV)→List (List PV)→List Nm
 |x::l,y::l'=>zAt x y++zCA l l'
 |_,_=>[]
def BW(L:Nat)(G:SF):Option SBlk→SBlk→Prop
 |some (.rows e wd o p rs),.rows e' wd' o' p' rs'=>e=e'∧wd=wd'∧(o'=true→o=true)∧p'=true∧((p=true∧rs=rs')∨(zHp G rs rs'∧(∀n∈zCA rs rs',n.l=L+1)∧rs'.all nfl=true))
 |some (.map o p ks vs),.map o' p' ks' vs'=>(o'=true→o=true)∧p'=true∧p=true∧ks=ks'∧vs=vs'
 |_,.dead=>True
 |_,_=>False
def UpdIn(L:Nat)(G:SF):List (Nm×SBlk)→Prop
 | []=>True
 |(n,b)::l=>n.l≤L∧BW L G (G n) b∧UpdIn L G l
def UpdAll(L:Nat)(ks:List Nm):List (Nm×SBlk)→Prop
 | []=>True
 |(n,_)::l=>(n.l=L+1∨n∈ks)∧UpdAll L ks l
structure PostF (T:Tys) (F:SF) (rl:List ResultVar) (L:Nat) (v:PV) (upd:List (Nm×SBlk)) (e:Exit) (st:St):Prop where
 e:e= .normal∨e= .ret
 res:∃p v0,zC5 T (look F st.H) st.t rl=some (p,v0)∧p∧Wk (look F st.H) v0 v∧(∀n∈wkN v0 v,n.l=L+1)
 nf:nf v=true
 ok:UpdIn L (look F st.H) upd
 all:UpdAll L (keys upd) st.H
theorem UpdIn.mem{L:Nat}{G:SF}{n:Nm}{b:SBlk}:∀{l:List (Nm×SBlk)},UpdIn L G l→(n,b)∈l→n.l≤L∧BW L G (G n) b
 |(m,c)::l,h,hm=>by
  rcases List.mem_cons.1 hm with hm|hm;·injection hm with h1 h2;subst h1;subst h2;exact ⟨h.1,h.2.1⟩
  ·exact UpdIn.mem h.2.2 hm
theorem UpdAll.look{L:Nat}{ks:List Nm}{F:SF}{n:Nm}(hn:n.l≤L)(hk:n∉ks):∀{H:List (Nm×SBlk)},UpdAll L ks H→look F H n=F n
 | [],_=>rfl
 | (m,c)::l,h=>by
  simp only[Tx.look];split
  ·rename_i he;subst he;rcases h.1 with h|h;·omega
   ·exact absurd h hk
  ·exact UpdAll.look hn hk h.2
theorem zE9{F:SF}:∀{rs rs':List (List PV)},zHp F rs rs'→rs.length=rs'.length∧∀(r:Nat) (row row':List PV),rs[r]?=some row→rs'[r]?=some row'→WkL F row row'∧∀n∈zAt row row',n∈zCA rs rs'
 | [],[],_=>⟨rfl,by intro r row row' h;cases h⟩
 | x::l,y::l',h=>by
  obtain ⟨h1,h2⟩:=zE9 h.2;refine ⟨by simp[h1],fun r row row' hr hr'=>?_⟩;cases r with
  |zero=>
   simp at hr hr';subst hr;subst hr';exact ⟨h.1,fun n hn=>by simp[zCA,hn]⟩
  |succ r=>
   obtain ⟨q1,q2⟩:=h2 r row row' (by simpa using hr) (by simpa using hr');exact ⟨q1,fun n hn=>by simp[zCA,q2 n hn]⟩
 | [],_::_,h=>by simp[zHp]at h
 |_::_,[],h=>by simp[zHp]at h
theorem zDV{F:SF}:∀{l l':List PV},WkL F l l'→l.length=l'.length∧∀(c:Nat) (x y:PV),l[c]?=some x→l'[c]?=some y→Wk F x y∧∀n∈wkN x y,n∈zAt l l'
 | [],[],_=>⟨rfl,by intro r row row' h;cases h⟩
 | x::l,y::l',h=>by
  simp only[WkL]at h;obtain ⟨h1,h2⟩:=zDV h.2;refine ⟨by simp[h1],fun r a b hr hr'=>?_⟩;cases r with
  |zero=>
   simp at hr hr';subst hr;subst hr';exact ⟨h.1,fun n hn=>by simp[zAt,hn]⟩
  |succ r=>
   obtain ⟨q1,q2⟩:=h2 r a b (by simpa using hr) (by simpa using hr');exact ⟨q1,fun n hn=>by simp[zAt,q2 n hn]⟩
 | [],_::_,h=>by simp[WkL]at h
 |_::_,[],h=>by simp[WkL]at h
theorem zIP:∀{l:List PV},nfl l=true→∀x∈l,nf x=true
 | [],_,x,hx=>by cases hx
 |a::l,h,x,hx=>by
  simp only[nfl,zC]at h;rcases List.mem_cons.1 hx with rfl|hx;·exact h.1
  ·exact zIP h.2 x hx
theorem zCc{P:Program}{E0 E':Env}{F0 G:SF}{w0:World}{f:Nat→Option PV}{m:Nat}{tm:Array Value}{F:Fence}{n:Nat}{fn:Func}{R:Ending→World→Prop}{B:List Deferred}{u:FrameMode}(hu:u≠ .run):∀(Ds:List Nat) (w':World),Ds.Nodup→(∀D∈Ds,w0.heap.size≤D∧w'.heap[D]?=some (.deferred (some [])))→
  StepR E0 F0 w0 E' G w'→TRelF w' (Zn E' G w') E' f m tm→(∀w'',StepR E0 F0 w0 E' G w''→TRelF w'' (Zn E' G w'') E' f m tm→LeavesInM F n P fn tm R B u w'')→LeavesInM F n P fn tm R (Ds.map mkD++B) u w'
 | [],w',_,_,h1,h2,h=>h w' h1 h2
 |D::Ds,w',hnd,hD,h1,h2,h=>by
  obtain ⟨g1,g2⟩:=hD D (by simp);have hno:=zBS g2;have ht:=zEx w' D (.deferred none);simp only[List.nodup_cons]at hnd;refine ⟨hu,.inl ⟨D,w'.putObj D (.deferred none),rfl,run_takeDeferred g2,?_⟩⟩;refine zCc hu Ds _ hnd.2 (fun D' h'=>?_) (h1.turn hno ht g1) ⟨h2.size,fun i v hv=>?_⟩ h
  ·have:=hD D' (by simp[h']);exact ⟨this.1,(ht.keep _ (fun e=>hnd.1 (e ▸h'))).trans this.2⟩
  ·obtain ⟨v',a1,a2⟩:=h2.val i v hv;exact ⟨v',a1,a2.turn hno ht⟩
section
variable {C : Cx}
theorem Con.body(hC:C.Ok)(hro:C.ro=none)(hys:C.ys=[]){f:FuncId}{fn:Func}{c:Code}(hf:C.P.funcs[f]?=some fn)(hb:fn.body=some c)(hnum:(fn.name== "runtime.NumGoroutine")=false){args:List PV}{F:SF}{L nx:Nat}(hL:C.L=L+1){v:PV}{upd:List (Nm×SBlk)}{rd:List Nm}(hrd:∀n∈rd,n.l≤L)
  (H:∀F3:SF,(∀n∈rd,F3 n=F n)→(∀n:Nm,L<n.l→F3 n=none)→vcC C F3 c ⟨zBn args fn.ntmps,[],0⟩ (PostF C.T F3 fn.results.toList L v upd))(hdi:C.dies=false:=by rfl)(hB:C.B=[]:=by rfl):Con C.P f args F L nx nx v upd rd:=by
 refine ⟨zH _,fun F2 hF2 E w args' hR _ hdp hargs=>?_⟩
 let F3:SF:=fun n=>if n.l≤L then F2 n else none
 have h3:SLe F3 F2:=by
  intro n b hb;simp only[F3]at hb;split at hb;·exact .inr (.inl hb)
  ·cases hb
 have hS0:=zUS hR h3;have hvc:=H F3 (fun n hn=>by simp only[F3];rw[if_pos (hrd n hn)];exact hF2 n hn) (fun n hn=>by simp only[F3];rw[if_neg (by omega)]);have hdom:zGD C.L E:=fun n hn=>hdp n (by omega)
 have htp:=zKn (w0:=w) hdi hC hdom (by rw[hys];exact InvY.nil) hS0.rel c _ _ hvc;have hargs3:=VRl.mono hS0.ext _ _ hargs;obtain ⟨hlen,hget⟩:=VRl.get hargs3;have hrel:Rel C.B C.L F3 E w E ⟨zBn args fn.ntmps,[],0⟩ {tmps:=args'.toArray++Array.replicate (fn.ntmps-args'.toArray.size) undef,defers:=[]} w:=by
  refine ⟨StepR.refl hS0.rel,⟨by simp[zBn,hlen],fun i x hx=>?_⟩,(by rw[hB];exact MarksOk.nil),fun n h1 h2=>absurd h1 h2⟩;simp only[TF,zBn]at hx;rw[zE]at hx;by_cases hi:i<args.length
  ·rw[wO (by simpa using hi)]at hx;simp only[wE]at hx;cases hy:args[i]? with
   |none=>rw[hy]at hx;cases hx
   |some y=>
    rw[hy]at hx;simp at hx;subst hx;obtain ⟨v',a1,a2⟩:=hget i y hy;refine ⟨v',?_,a2⟩;rw[uR (by simp;omega)];simpa using a1
  ·rw[wZ (by simp;omega)]at hx;simp only[zG,uT]at hx;split at hx;rotate_left;·cases hx
   rename_i hlt;simp at hx;subst hx;refine ⟨undef,?_,zBr⟩;rw[qO (by simp;omega)];simp only[uO,qX];rw[if_pos (by omega)]
 have hcall:Calls C.P f args'.toArray w fun e w'=>∃v',e= .returned v'∧zBH E F2 w L nx nx v upd v' w':=by
  rw[←callsIn_wide (n:=0)];refine callsIn_of_wp_marks hf hb trivial ?_;have hW:W C.ro=Fence.wide:=by rw[hro];rfl
  rw[←hW];refine wpIn_mono (htp _ _ E hrel) ?_
  rintro e a w1 ⟨st,hP,E',hRl1⟩
  obtain ⟨Ds,d1,d2,d3⟩:=hRl1.marks;have key:LeavesInM (W C.ro) 0 C.P fn a.tmps (fun e w'=>∃v',e= .returned v'∧zBH E F2 w L nx nx v upd v' w') a.defers .returning w1:=by
   rw[d2,hB];refine zCc (by simp) Ds w1 d1 (fun D hD=>⟨(d3 D hD).1,(d3 D hD).2.2⟩) hRl1.step hRl1.tmps fun w' s1 s2=>?_
   have hRl:Rel C.B C.L F3 E w E' st {tmps:=a.tmps,defers:=[]} w':=⟨s1,s2,(by rw[hB];exact MarksOk.nil),hRl1.news⟩;obtain ⟨p,v0,q1,q2,q3,q4⟩:=hP.res;obtain ⟨v',r1,r2⟩:=zG4 hC.T hRl.step.rel hRl.tmps q1 q2
   let G:=look F3 st.H
   let Fm:SF:=fun n=>if n.l≤L then G n else none
   have hm:SLe Fm G:=by
    intro n b hb;simp only[Fm]at hb;split at hb;·exact .inr (.inl hb)
    ·cases hb
   have hSm:=zUS hRl.step.rel hm
   let E2:Env:=fun n=>if n.l≤L then E' n else none
   have hEE:∀n i,E n=some i→E' n=some i∧E2 n=some i:=by
    intro n i hi;have h1:=hRl.step.le n i hi;have hl:n.l≤L:=by
     rcases wT L n.l with h|h;·rw[hdp n h]at hi;cases hi
     ·exact h
    exact ⟨h1,by simp only[E2];rw[if_pos hl];exact h1⟩
   have hE2:∀n,E2 n≠none→n.l≤L∧E n=E2 n∧E' n=E2 n:=by
    intro n hn;have hl:n.l≤L:=by
     rcases wT L n.l with h|h;·simp only[E2]at hn;rw[if_neg (by omega)]at hn;exact absurd rfl hn
     ·exact h
    have e1:E2 n=E' n:=by simp only[E2];rw[if_pos hl]
    refine ⟨hl,?_,e1.symm⟩;cases he:E n with
    |none=>
     have:=(hRl.news n he (by rw[←e1];exact hn)).1;omega
    |some i=>rw[(hEE n i he).2]
   let F':=F2.upd upd
   have hF':∀n b,F' n=some b→b.live=true→n.l≤L∧((n∈keys upd∧BW L G (G n) b)∨(n∉keys upd∧F2 n=some b∧G n=some b)):=by
    intro n b hn hl;have hn':zAX F2 upd n=some b:=by rw[←zA6];exact hn
    by_cases hk:n∈keys upd
    ·rcases zBa upd F2 n with h|⟨u,h1,h2⟩
     ·-- the key is written
      have gen:∀(x:List (Nm×SBlk)) (f:SF),n∈keys x→∃u,(n,u)∈x∧zAX f x n=some u:=by
       intro x;induction x with
       |nil=>intro f h;cases h
       | cons a x ih=>
        intro f h;obtain ⟨m,u⟩:=a;simp only[zAX];by_cases hx:n∈keys x
        ·obtain ⟨u',q1,q2⟩:=ih (fun q=>if q=m then some u else f q) hx;exact ⟨u',by simp[q1],q2⟩
        ·simp only[keys,zL,wP]at h;rcases h with h|h;·subst h;exact ⟨u,by simp,by rw[zAc hx];simp⟩
         ·exact absurd h hx
      obtain ⟨u,u1,u2⟩:=gen upd F2 hk;rw[hn']at u2;injection u2 with u2;subst u2;obtain ⟨c1,c2⟩:=hP.ok.mem u1;exact ⟨c1,.inl ⟨hk,c2⟩⟩
     ·rw[hn']at h2;injection h2 with h2;subst h2;obtain ⟨c1,c2⟩:=hP.ok.mem h1;exact ⟨c1,.inl ⟨hk,c2⟩⟩
    ·rw[zAc hk]at hn';obtain ⟨i,hi⟩:=(hR.blk n b hn').def_ hl;have hll:n.l≤L:=by
      rcases wT L n.l with h|h;·rw[hdp n h]at hi;cases hi
      ·exact h
     refine ⟨hll,.inr ⟨hk,hn',?_⟩⟩;show look F3 st.H n=some b;rw[hP.all.look hll hk];simp only[F3];rw[if_pos hll];exact hn'
   have hBlive:∀{n:Nm} {b:SBlk},BW L G (G n) b→b.live=true→∃b0,G n=some b0∧b0.live=true∧(b.own=true→b0.own=true):=by
    intro n b hb hl;cases hg:G n with
    |none=>rw[hg]at hb;cases b<;>first|exact (show False from hb).elim|(cases hl;done)
    |some b0=>
     rw[hg]at hb;refine ⟨b0,rfl,?_⟩;cases b0<;>cases b<;>first|exact (show False from hb).elim|(cases hl;done)|skip
     ·exact ⟨rfl,hb.2.2.1⟩
     ·exact ⟨rfl,hb.1⟩
   have hFm:∀n b,F' n=some b→b.live=true→n.l≤L∧∃b0,Fm n=some b0∧G n=some b0∧b0.live=true∧(b.own=true→b0.own=true):=by
    intro n b hn hl;obtain ⟨h1,h2⟩:=hF' n b hn hl;refine ⟨h1,?_⟩;have e:Fm n=G n:=by simp only[Fm];rw[if_pos h1]
    rw[e];rcases h2 with ⟨_,h2⟩|⟨_,_,h2⟩
    ·obtain ⟨b0,c1,c2,c3⟩:=hBlive h2 hl;exact ⟨b0,c1,c1,c2,c3⟩
    ·exact ⟨b,h2,h2,hl,id⟩
   have hzone:∀k,Zn E' Fm w' k→Zn E2 F' w' k:=by
    rintro k ⟨k1,k2⟩
    refine ⟨k1,fun n b i hn ho hi hz he=>?_⟩;obtain ⟨h1,b0,c1,_,_,c3⟩:=hFm n b hn (zAe ho);have e:=(hE2 n (by rw[hi];simp)).2.2;exact k2 n b0 i c1 (c3 ho) (by rw[e];exact hi) hz he
   have hzone':∀k,Zn E' G w' k→Zn E2 F' w' k:=fun k hk=>hzone k (hSm.ext.zone k hk)
   have hEx:Ext Env.no w' (Zn E' Fm w') Env.no w' (Zn E2 F' w'):=⟨Env.le.refl _,hzone,fun _ _=>rfl⟩;have hwk:∀(x y:PV) (u:Value),Wk G x y→(∀n∈wkN x y,n.l=L+1)→Tx.nf y=true→VR w' (Zn E' G w') E' x u→VR w' (Zn E2 F' w') Env.no y u:=by
    intro x y u h1 h2 h3 h4;have:=zJw hRl.step.rel hm x y u h1 (fun n hn b hb=>by
     have:=h2 n hn;simp only[Fm]at hb;rw[if_neg (by omega)]at hb;cases hb) h4
    exact VR.mono hEx _ _ (VR.nf y u h3 this)
   have hback:∀n b,F2 n=some b→G n=some b→b.live=true→BRel E2 w' (Zn E2 F' w') n b:=by
    intro n b h1 h2 hl;have:=zUz hEE (hR.blk n b h1) (hRl.step.rel.blk n b h2);exact this.mono ⟨Env.le.refl _,hzone',fun _ _=>rfl⟩ fun _ _ _=>rfl
   have hrelF:HRel E2 F' w':=by
    refine ⟨fun n b hn=>?_,fun n m b d i j hn hm' hnm ho hl hi hj hin hjn=>?_⟩
    ·by_cases hl:b.live=true;rotate_left
     ·cases b with
      |dead=>trivial
      |rows=>exact absurd rfl hl
      |map=>exact absurd rfl hl
      | cap mm kk=>
       have hn':zAX F2 upd n=some (.cap mm kk):=by rw[←zA6];exact hn
       rcases zBa upd F2 n with h9|⟨u9,h9,h10⟩
       ·rw[hn']at h9;obtain ⟨i9,hi9,hz9⟩:=hR.blk n _ h9.symm;exact ⟨i9,(hEE mm i9 hi9).2,hz9⟩
       ·rw[hn']at h10;injection h10 with h10;subst h10;have h11:BW L G (G n) (.cap mm kk):=(hP.ok.mem h9).2;cases hg9:G n with
        |none=>rw[hg9]at h11;exact (show False from h11).elim
        |some b0=>rw[hg9]at h11;cases b0<;>exact (show False from h11).elim
     obtain ⟨h1,h2⟩:=hF' n b hn hl;rcases h2 with ⟨hk,h2⟩|⟨hk,h2,h3⟩;rotate_left;·exact hback n b h2 h3 hl
     have h2':=h2;obtain ⟨b0,g1,g2,g3⟩:=hBlive h2 hl;have hb0:=hRl.step.rel.blk n b0 g1;have eE:E2 n=E' n:=by simp only[E2];rw[if_pos h1]
     rw[g1]at h2;cases b0<;>cases b<;>first|exact (show False from h2).elim|(cases hl;done)|skip
     ·rename_i e wd o p rs e' wd' o' p' rs';obtain ⟨rfl,rfl,ho,rfl,hrs⟩:=h2;obtain ⟨i,hi,hor⟩:=hb0;refine ⟨i,by rw[eE];exact hi,?_⟩;rcases hor with ⟨z1,rfl,z3,z4⟩|⟨hz,hRr⟩
      ·refine .inl ⟨z1,?_,z3,z4⟩;rcases hrs with ⟨_,rfl⟩|⟨hrs,_,_⟩;·rfl
       ·cases rs' with
        |nil=>rfl
        |cons a l=>simp[zHp]at hrs
      ·refine .inr ⟨hz,?_⟩;obtain ⟨cs,fz,b1,b2,b3,b4⟩:=hRr.cells;rcases hrs with ⟨rfl,rfl⟩|⟨hrs,hns,hnf⟩;·exact ⟨hRr.wd_eq,hRr.o0,hRr.wd_pos,hRr.len,hRr.le,hRr.cap,cs,fz,b1,b2,fun h=>b3 (ho h),VRr.mono ⟨Env.le.refl _,hzone',fun _ _=>rfl⟩ _ _ _ b4⟩
       ·obtain ⟨l1,l2⟩:=zE9 hrs;have hlen':∀row∈rs',row.length=wd:=by
         intro row hrow;obtain ⟨r,hr⟩:=vW hrow;have hlt:=zAB hr;have hr0:=zS (l:=rs) (i:=r) (by omega);obtain ⟨k1,_⟩:=l2 r _ row hr0 hr;rw[←(zDV k1).1];exact hRr.len _ (zO hr0)
        refine ⟨hRr.wd_eq,hRr.o0,hRr.wd_pos,hlen',by rw[←l1];exact hRr.le,hRr.cap,cs,fz,b1,b2,fun h=>b3 (ho h),(zAM hlen').2 fun r row' c y hr' hc'=>?_⟩;have hlt:=zAB hr';have hr0:=zS (l:=rs) (i:=r) (by omega);obtain ⟨k1,k2⟩:=l2 r _ row' hr0 hr';obtain ⟨k3,k4⟩:=zDV k1;have hct:=zAB hc';have hc0:=zS (l:=rs[r]) (i:=c) (by omega);obtain ⟨k5,k6⟩:=k4 c _ y hc0 hc';obtain ⟨u,a1,a2,a3⟩:=(zAM hRr.len).1 b4 r _ c _ hr0 hc0;rw[wK]at hnf;exact ⟨u,a1,a2,hwk _ y u k5 (fun n hn=>hns n (k2 n (k6 n hn))) (zIP (hnf row' (zO hr')) y (zO hc')) (VR.up a3)⟩
     ·rename_i o p ks vs o' p' ks' vs';obtain ⟨ho,rfl,rfl,rfl,rfl⟩:=h2;obtain ⟨i,hi,hz,ents,clk,hb,hmr⟩:=hb0;have hX0:Ext Env.no w' (Zn E' G w') Env.no w' (Zn E2 F' w'):=⟨Env.le.refl _,hzone',fun _ _=>rfl⟩;exact ⟨i,by rw[eE];exact hi,hz,ents,clk,hb,VRl.mono hX0 _ _ hmr.1,VRl.mono hX0 _ _ hmr.2⟩
    ·obtain ⟨_,b0,_,c1,_,c3⟩:=hFm n b hn (zAe ho);obtain ⟨_,d0,_,d1,d2,_⟩:=hFm m d hm' hl;have e1:=(hE2 n (by rw[hi];simp)).2.2;have e2:=(hE2 m (by rw[hj];simp)).2.2;exact hRl.step.rel.sep n m b0 d0 i j c1 d1 hnm (c3 ho) d2 (by rw[e1];exact hi) (by rw[e2];exact hj) hin hjn
   have hstep:StepR E F2 w E2 F' w':=by
    refine ⟨fun n i hi=>(hEE n i hi).2,hrelF,hRl.step.os,hRl.step.tape,hRl.step.output,hRl.step.size,fun k hk hno=>?_,fun n b i hn ho hi hin=>?_⟩
    ·refine hRl.step.keep k hk fun n b i hn ho hi hin=>hno n b i (h3.own hn ho) ho hi hin
    ·obtain ⟨_,b0,_,c1,_,c3⟩:=hFm n b hn (zAe ho);have e1:=(hE2 n (by rw[hi];simp)).2.2;rcases hRl.step.own n b0 i c1 (c3 ho) (by rw[e1];exact hi) hin with h|⟨m,d,j,m1,m2,m3,m4,m5⟩;·exact .inl h
     ·exact .inr ⟨m,d,j,h3.own m1 m2,m2,m3,m4,m5⟩
   have hres:zBH E F2 w L nx nx v upd v' w':=by
    refine ⟨E2,?_,hstep,fun n h1 h2=>?_⟩;·exact VR.mono ⟨zUT _,fun _ h=>h,fun _ _=>rfl⟩ _ _ (hwk v0 v v' q3 q4 hP.nf r2)
    ·have:=(hE2 n h2).2.1;rw[h1]at this;exact absurd this.symm h2
   exact ⟨v',r1,v',rfl,hres⟩
  rcases hP.e with rfl|rfl;·exact key
  ·exact key
 have hrun:(callFunc f args'.toArray).run C.P w= .ok (.enter f args'.toArray) w:=zAk hf (by rw[hb];rfl) hnum;rw[hrun];exact hcall
end
end Go.Tx
end
section
namespace Go.Tx
section
variable (C : Cx) (F0 : SF)
def zPx(ops l:List Oper)(K:RK):RK:=fun t H nx fps=>zDj C F0 ops l t H nx fps K
theorem zMV(ops l:List Oper)(K:RK)(a:Option PV)(t:List (Option PV))(H:List (Nm×SBlk))(nx:Nat)(fps:FPs):zPx C F0 ops l K (a::t) H nx fps=zDj C F0 ops l (a::t) H nx fps K:=propext ⟨fun h=>h,fun h=>h⟩
def zMW(d:Option Nat)(t:List (Option PV))(H:List (Nm×SBlk))(fps:FPs)(K:RK):PV→List (Nm×SBlk)→List Nm→Nat→Prop:=fun v upd rd nx'=>K (zCR t d v) (zAl H upd) nx' (fps++[(rd,keys upd)])
theorem zMX(d:Option Nat)(t:List (Option PV))(H:List (Nm×SBlk))(fps:FPs)(K:RK)(v:PV)(upd:List (Nm×SBlk))(rd:List Nm)(nx:Nat):zMW d t H fps K v upd rd nx=K (zCR t d v) (zAl H upd) nx (fps++[(rd,keys upd)]):=propext ⟨fun h=>h,fun h=>h⟩
def zRC(o:Oper)(t:List (Option PV))(H:List (Nm×SBlk))(nx:Nat)(fps:FPs)(K:RK):Prop:=zIJ C.calm F0 o t H nx fps K
theorem zSY(ops:List Oper)(t:List (Option PV))(H:List (Nm×SBlk))(nx:Nat)(fps:FPs)(K:RK):zDj C F0 ops [] t H nx fps K=K t H nx fps:=propext ⟨fun h=>h,fun h=>h⟩
theorem zRO(ops:List Oper)(o:Oper)(l:List Oper)(t:List (Option PV))(H:List (Nm×SBlk))(nx:Nat)(fps:FPs)(K:RK):zDj C F0 ops (o::l) t H nx fps K=
  (match o.guard with
  |none=>zRC C F0 o t H nx fps (zPx C F0 ops l K)
  | some (j,want)=>
   match zBG ops t j with
   | some (.bool g)=>
    brB g want (zRC C F0 o (zJz ops t j want) H nx fps (zPx C F0 ops l K))
     (zDj C F0 ops l (zCR (zJz ops t j (!want)) o.dst zAN) H nx (fps++[([],[])]) K)
   |some (.tup [])=>zDj C F0 ops l (zCR t o.dst zAN) H nx (fps++[([],[])]) K
   |_=>False):=propext ⟨fun h=>h,fun h=>h⟩
def panicK(t:List (Option PV))(H:List (Nm×SBlk))(nx:Nat)(x:Operand):Prop:=zGv C t H nx x
theorem zSZ(o:Oper)(t:List (Option PV))(H:List (Nm×SBlk))(nx:Nat)(fps:FPs)(K:RK):
  zIJ C F0 o t H nx fps K=(match o.op with
  | .call ⟨.value fo,args,_⟩=>
   match zAu t fo,vals (zAu t) args.toList with
   |some (.fn (.func f) xs ys),some asx=>CallVD C (CallVC C.P f (xs++asx++ys) (look F0 H) C.L nx (zMW o.dst t H fps K)) F0 t H nx f (xs++asx++ys)
   |_,_=>False
  | .call ⟨.invoke x name,args,_⟩=>
   match zAu t x,vals (zAu t) args.toList with
   |some (.ifc ty v),some asx=>
    match C.ms.get ty name with
    |some f=>CallVD C (CallVC C.P f (v::asx) (look F0 H) C.L nx (zMW o.dst t H fps K)) F0 t H nx f (v::asx)
    |none=>False
   |_,_=>False
  | .panic x=>panicK C t H nx x
  | op=>
   match zEU C.ch C.T (zAu t) (look F0 H) ⟨C.L,nx⟩ op with
   |some r=>r.vc∧K (zCR t o.dst r.v) (zAl H r.upd) (nx+32) (fps++[(r.rd,keys r.upd)])
   |none=>
    match zCy C.T C.wr (zAu t) (look F0 H) ⟨C.L,nx⟩ op with
    |some r=>r.vc∧K (zCR t o.dst r.v) (zAl H r.upd) (nx+32) (fps++[(r.rd,keys r.upd)])
    |none=>False):=propext ⟨fun h=>h,fun h=>h⟩
theorem zRP(o:Oper)(t:List (Option PV))(H:List (Nm×SBlk))(nx:Nat)(fps:FPs)(K:RK):
  zRC C F0 o t H nx fps K=(match o.op with
  | .call ⟨.value fo,args,_⟩=>
   match zAu t fo,vals (zAu t) args.toList with
   |some (.fn (.func f) xs ys),some asx=>CallVC C.P f (xs++asx++ys) (look F0 H) C.L nx (zMW o.dst t H fps K)
   |_,_=>False
  | .call ⟨.invoke x name,args,_⟩=>
   match zAu t x,vals (zAu t) args.toList with
   |some (.ifc ty v),some asx=>
    match C.ms.get ty name with
    |some f=>CallVC C.P f (v::asx) (look F0 H) C.L nx (zMW o.dst t H fps K)
    |none=>False
   |_,_=>False
  | .panic x=>zGv C.calm t H nx x
  | op=>
   match zEU C.ch C.T (zAu t) (look F0 H) ⟨C.L,nx⟩ op with
   |some r=>r.vc∧K (zCR t o.dst r.v) (zAl H r.upd) (nx+32) (fps++[(r.rd,keys r.upd)])
   |none=>
    match zCy C.T C.wr (zAu t) (look F0 H) ⟨C.L,nx⟩ op with
    |some r=>r.vc∧K (zCR t o.dst r.v) (zAl H r.upd) (nx+32) (fps++[(r.rd,keys r.upd)])
    |none=>False):=propext ⟨fun h=>h,fun h=>h⟩
def zPy(ops l:List Oper)(K:SK):SK:=fun t H nx=>zDT C F0 ops l t H nx K
theorem zMZ(ops l:List Oper)(K:SK)(a:Option PV)(t:List (Option PV))(H:List (Nm×SBlk))(nx:Nat):zPy C F0 ops l K (a::t) H nx=zDT C F0 ops l (a::t) H nx K:=propext ⟨fun h=>h,fun h=>h⟩
theorem zOM(K:SK)(a:Option PV)(t:List (Option PV))(H:List (Nm×SBlk))(nx:Nat)(fps:FPs):zPt K (a::t) H nx fps=K (a::t) H nx:=propext ⟨fun h=>h,fun h=>h⟩
theorem zPz(d:Option Nat)(t:List (Option PV))(H:List (Nm×SBlk))(K:SK)(v:PV)(upd:List (Nm×SBlk))(nx:Nat):ycK d t H K v upd nx=K (zCR t d v) (zAl H upd) nx:=propext ⟨fun h=>h,fun h=>h⟩
theorem nilK.intro{b0:Bool}{n:Nat}{d:Option Nat}{t:List (Option PV)}{H:List (Nm×SBlk)}{nx:Nat}{K:SK}(h:∀b:Bool,(b=true→n=0)→K (zCR t d (.bool (zRK b0 b))) H nx):nilK b0 n d t H nx K:=h
theorem zRQ(ops:List Oper)(t:List (Option PV))(H:List (Nm×SBlk))(nx:Nat)(K:SK):zDT C F0 ops [] t H nx K=K t H nx:=propext ⟨fun h=>h,fun h=>h⟩
theorem zP0(ops:List Oper)(o:Oper)(l:List Oper)(t:List (Option PV))(H:List (Nm×SBlk))(nx:Nat)(K:SK):zDT C F0 ops (o::l) t H nx K=
  (match o.guard with
  |none=>zI1 C F0 o t H nx (zPy C F0 ops l K)
  | some (j,want)=>
   match zBG ops t j with
   | some (.bool g)=>
    brB g want (zI1 C F0 o (zJz ops t j want) H nx (zPy C F0 ops l K))
     (zDT C F0 ops l (zCR (zJz ops t j (!want)) o.dst zAN) H nx K)
   |some (.tup [])=>zDT C F0 ops l (zCR t o.dst zAN) H nx K
   |_=>False):=propext ⟨fun h=>h,fun h=>h⟩
def twoK(o:Oper)(t:List (Option PV))(H:List (Nm×SBlk))(nx:Nat)(K:SK):Prop:=zIJ C F0 o t H nx [] (zPt K)∨zPv C F0 o t H nx K
theorem twoK.one{o:Oper}{t:List (Option PV)}{H:List (Nm×SBlk)}{nx:Nat}{K:SK}(h:zIJ C F0 o t H nx [] (zPt K)):twoK C F0 o t H nx K:=.inl h
theorem zMa(op:Op):zHm [] op=false:=rfl
theorem zON(op:Op):zHm [] op=false:=rfl
theorem zOO(a:PanicEntry)(op:Op):zHm [a] op=false:=rfl
theorem zMb(T:Tys)(ρ:Operand→Option PV)(F:SF)(nx:Nm)(op:Op):zEU [] T ρ F nx op=none:=rfl
theorem zOP(T:Tys)(ρ:Operand→Option PV)(F:SF)(nx:Nm)(op:Op):zEU [] T ρ F nx op=none:=rfl
theorem zOQ(a:PanicEntry)(T:Tys)(ρ:Operand→Option PV)(F:SF)(nx:Nm)(op:Op):zEU [a] T ρ F nx op=none:=rfl
theorem zRR(o:Oper)(t:List (Option PV))(H:List (Nm×SBlk))(nx:Nat)(K:SK):
  zI1 C F0 o t H nx K=(match zRA C.T (zAu t) o.op with
  |some (b0,n)=>nilK b0 n o.dst t H nx K
  | none=>
   match zSP (zAu t) o.op with
   |some (l,asx)=>YVC C.P C.ys l asx (look F0 H) C.L nx (ycK o.dst t H K)
   | none=>
    match zRL C.T (look F0 H) (zAu t) o.op with
    |some p=>p∧K (zHl t o.dst) H nx
    |none=>
     match zHm C.ch o.op with
     |false=>zIJ C F0 o t H nx [] (zPt K)
     |true=>twoK C F0 o t H nx K):=propext ⟨fun h=>h,fun h=>h⟩
variable (st : St) (Q : Exit → St → Prop)
def zS9(Q:Exit→St→Prop):SK:=fun t H nx=>Q .normal ⟨t,H,nx⟩
theorem zOR(a:Option PV)(t:List (Option PV))(H:List (Nm×SBlk))(nx:Nat):zS9 Q (a::t) H nx=Q .normal ⟨a::t,H,nx⟩:=propext ⟨fun h=>h,fun h=>h⟩
def vcK(b:Code)(Q:Exit→St→Prop):St→Prop:=fun s=>vcC C F0 b s Q
theorem zP1(b:Code)(t:List (Option PV))(H:List (Nm×SBlk))(nx:Nat):vcK C F0 b Q ⟨t,H,nx⟩=vcC C F0 b ⟨t,H,nx⟩ Q:=propext ⟨fun h=>h,fun h=>h⟩
def zTE(Q:Exit→St→Prop):RK:=fun t H nx _=>Q .normal ⟨t,H,nx⟩
theorem zOS(a:Option PV)(t:List (Option PV))(H:List (Nm×SBlk))(nx:Nat)(fps:FPs):zTE Q (a::t) H nx fps=Q .normal ⟨a::t,H,nx⟩:=propext ⟨fun h=>h,fun h=>h⟩
def zRS(ops:List Oper)(Q:Exit→St→Prop):RK:=fun t H nx fps=>zFa ops fps=true∧Q .normal ⟨t,H,nx⟩
theorem zMc(ops:List Oper)(a:Option PV)(t:List (Option PV))(H:List (Nm×SBlk))(nx:Nat)(fps:FPs):zRS ops Q (a::t) H nx fps=(zFa ops fps=true∧Q .normal ⟨a::t,H,nx⟩):=propext ⟨fun h=>h,fun h=>h⟩
def loopK(c:Code)(st:St)(Q:Exit→St→Prop):Prop:=zPR C F0 (vcC C F0 c) st Q
theorem zRT:vcC C F0 .skip st Q=Q .normal st:=propext ⟨fun h=>h,fun h=>h⟩
theorem zSa:vcC C F0 .ret st Q=Q .ret st:=propext ⟨fun h=>h,fun h=>h⟩
theorem zRU(id:Nat):vcC C F0 (.exit id) st Q=Q (.exit id) st:=propext ⟨fun h=>h,fun h=>h⟩
theorem zSb(a b:Code):vcC C F0 (.seq a b) st Q=vcC C F0 a st (zGE (vcK C F0 b Q) Q):=propext ⟨fun h=>h,fun h=>h⟩
theorem zRV(c:Operand)(x y:Code):vcC C F0 (.cond c x y) st Q=(match zAu st.t c with|some (.bool g)=>brB g true (vcC C F0 x st Q) (vcC C F0 y st Q)|_=>False):=propext ⟨fun h=>h,fun h=>h⟩
theorem zP3(id:Nat)(c:Code):vcC C F0 (.block id c) st Q=vcC C F0 c st (zHn id Q):=propext ⟨fun h=>h,fun h=>h⟩
theorem zP4(c:Code):vcC C F0 (.scope c) st Q=vcC C F0 c st (zIN Q):=propext ⟨fun h=>h,fun h=>h⟩
theorem zP5(l:Nat):vcC C F0 (.label l) st Q=Q .normal st:=propext ⟨fun h=>h,fun h=>h⟩
theorem zRW(c:Code):vcC C F0 (.loop c) st Q=loopK C F0 c st Q:=propext ⟨fun h=>h,fun h=>h⟩
theorem zOT(id:Nat)(ops:List Oper):vcC C F0 (.region id ⟨ops⟩ false) st Q=(zI3 ops st.t.length=true∧zDT C F0 ops ops st.t st.H st.nx (zS9 Q)):=propext ⟨fun h=>h,fun h=>h⟩
theorem zMd(id:Nat)(ops:List Oper):vcC C F0 (.region id ⟨ops⟩ true) st Q=RegVD C (RegVX C (zSX C F0 ops st Q) (zA7 ops st.t.length=true∧zDj C F0 ops ops st.t st.H st.nx [] (zRS ops Q))) F0 ops st:=propext ⟨fun h=>h,fun h=>h⟩
def rangeK(g:Operand)(ps:Array Tmp)(assign body:Code)(st:St)(Q:Exit→St→Prop):Prop:=RangeVD C (zG0 C F0 g ps assign body st Q) F0 g ps assign body st
theorem zP6(g:Operand)(ps:Array Tmp)(assign body:Code):vcC C F0 (.rangeFunc g ps assign body) st Q=rangeK C F0 g ps assign body st Q:=propext ⟨fun h=>h,fun h=>h⟩
theorem zHq(P:Program)(T:Tys)(ms:Meths)(wr:Bool)(L:Nat)(ro:Option Nat)(ys:List YRec)(B:List Deferred)(ch:List PanicEntry)(dq:St→Prop)(p:Prop)(F0:SF)(ops:List Oper)(st:St):RegVD ⟨P,T,ms,wr,L,ro,ys,B,false,ch,dq⟩ p F0 ops st=p:=rfl
theorem zLd(P:Program)(T:Tys)(ms:Meths)(wr:Bool)(L:Nat)(ro:Option Nat)(ys:List YRec)(B:List Deferred)(dq:St→Prop)(x p:Prop):RegVX ⟨P,T,ms,wr,L,ro,ys,B,false,[],dq⟩ x p=p:=rfl
theorem zMe(P:Program)(T:Tys)(ms:Meths)(wr:Bool)(L:Nat)(ro:Option Nat)(ys:List YRec)(B:List Deferred)(a b:PanicEntry)(dq:St→Prop)(x p:Prop):RegVX ⟨P,T,ms,wr,L,ro,ys,B,false,[a,b],dq⟩ x p=p:=rfl
theorem zLe(P:Program)(T:Tys)(ms:Meths)(wr:Bool)(L:Nat)(ro:Option Nat)(ys:List YRec)(B:List Deferred)(ch:List PanicEntry)(dq:St→Prop)(x p:Prop):RegVX ⟨P,T,ms,wr,L,ro,ys,B,true,ch,dq⟩ x p=p:=rfl
theorem zG5(P:Program)(T:Tys)(ms:Meths)(wr:Bool)(L:Nat)(ro:Option Nat)(ys:List YRec)(B:List Deferred)(ch:List PanicEntry)(dq:St→Prop)(p:Prop)(F0:SF)(t:List (Option PV))(H:List (Nm×SBlk))(nx:Nat)(f:FuncId)(asx:List PV):CallVD ⟨P,T,ms,wr,L,ro,ys,B,false,ch,dq⟩ p F0 t H nx f asx=p:=rfl
theorem loopK.intro{c:Code}{st:St}{Q:Exit→St→Prop}{ι:Type}(I:ι→St)(pre:ι→Prop)(μ:ι→Nat)(x0:ι)(h0:pre x0)(hs:Sub C.L F0 st (I x0))
  (round:∀x,pre x→vcC C F0 c (I x) (zGE (fun s=>∃y,pre y∧μ y<μ x∧Sub C.L F0 s (I y)) Q)):loopK C F0 c st Q:=⟨ι,I,pre,μ,x0,h0,hs,round⟩
end
theorem zRX(A B:Prop):brB true true A B=A:=propext ⟨fun h=>h.1 rfl,fun h=>⟨fun _=>h,fun h=>by cases h⟩⟩
theorem zRY(A B:Prop):brB false false A B=A:=propext ⟨fun h=>h.1 rfl,fun h=>⟨fun _=>h,fun h=>by cases h⟩⟩
theorem zRZ(A B:Prop):brB true false A B=B:=propext ⟨fun h=>h.2 rfl,fun h=>⟨(fun h=>by cases h),fun _=>h⟩⟩
theorem zRa(A B:Prop):brB false true A B=B:=propext ⟨fun h=>h.2 rfl,fun h=>⟨(fun h=>by cases h),fun _=>h⟩⟩
theorem brB.mk{g want:Bool}{A B:Prop}(h1:g=want→A)(h2:g= !want→B):brB g want A B:=⟨h1,h2⟩
theorem zCU(a i j:Nat):((⟨a,i⟩:Nm)=⟨a,j⟩)=(i=j):=by simp
theorem zAI{n:Nm}{L:Nat}(h:n.l≤L)(i:Nat):(n=(⟨L+1,i⟩:Nm))=False:=by
 apply eq_false;rintro rfl;simp at h;omega
theorem zAF{n:Nm}{L:Nat}(h:n.l≤L)(i:Nat):((⟨L+1,i⟩:Nm)=n)=False:=by
 apply eq_false;rintro rfl;simp at h;omega
theorem panicK.intro{C:Cx}{t:List (Option PV)}{H:List (Nm×SBlk)}{nx:Nat}{x:Operand}{ty:TypeId}(hv:zAu t x=some (.ifc ty (.agg [])))(hd:C.dies=true)(hch:C.ch=[{v:=.iface ty (.agg #[]),recovered:=false}])(hq:C.dq ⟨t,H,nx⟩):panicK C t H nx x:=by
 unfold panicK zGv;rw[hd,hv];exact ⟨hch,hq⟩
def zAf:List (Option PV)→List (Option PV)→Prop
 | [],[]=>True
 |_::t,none::t'=>zAf t t'
 |o::t,some v::t'=>o=some v∧zAf t t'
 |_,_=>False
theorem zC6:∀{t t':List (Option PV)},zAf t t'→t.length=t'.length∧∀(i:Nat) (v:PV),t'[i]?=some (some v)→t[i]?=some (some v)
 | [],[],_=>⟨rfl,by intro i v h;cases h⟩
 |o::t,none::t',h=>by
  obtain ⟨h1,h2⟩:=zC6 (t:=t) (t':=t') h;refine ⟨by simp[h1],fun i v hv=>?_⟩;cases i with
  |zero=>simp at hv
  |succ i=>simpa using h2 i v (by simpa using hv)
 |o::t,some u::t',h=>by
  obtain ⟨rfl,h⟩:=h;obtain ⟨h1,h2⟩:=zC6 (t:=t) (t':=t') h;refine ⟨by simp[h1],fun i v hv=>?_⟩;cases i with
  |zero=>simp at hv;subst hv;simp
  |succ i=>simpa using h2 i v (by simpa using hv)
 | [],none::_,h=>h.elim
 | [],some _::_,h=>h.elim
 |_::_,[],h=>by simp[zAf]at h
theorem rangeK.intro{C:Cx}{F0:SF}{g:Operand}{ps:Array Tmp}{assign body:Code}{st:St}{Q:Exit→St→Prop}{f:FuncId}{fl cl:List PV}(hg:zAu st.t g=some (.fn (.func f) fl cl))(hro:C.ro=none)(hfn:∃fn,C.P.funcs[f]?=some fn∧fn.body.isNone=false∧(fn.name== "runtime.NumGoroutine")=false)
  {v:PV}{upd:List (Nm×SBlk)}{rd:List Nm}{top:Nat}(t0:List (Option PV))(ht:zAf st.t t0)(hc:∀y:YRec,y.R.params=ps→y.R.assign=assign→y.R.body=body→y.t=t0→ICon C.P [y] f (fl++[.fn (.yield y.l) [] []]++cl) (look F0 st.H) C.L st.nx top v upd rd)
  (hq:Q .normal ⟨st.t,zAl st.H upd,top⟩):rangeK C F0 g ps assign body st Q:=by
 unfold rangeK;refine RangeVD.live ?_;unfold zG0;rw[hg];obtain ⟨h1,h2⟩:=zC6 ht;refine ⟨hro,hfn,t0,v,upd,rd,top,⟨h1.symm,fun i v hv=>?_⟩,hc,hq⟩;simp only[TF,zE]at hv ⊢;cases hx:t0[i]? with
 |none=>rw[hx]at hv;cases hv
 |some x=>rw[hx]at hv;simp at hv;subst hv;rw[h2 i v hx];rfl
def zAi(F0:SF)(H:List (Nm×SBlk)):List (Nm×SBlk)→Prop
 | []=>True
 |(n,b)::l=>look F0 H n=some b∧zAi F0 H l
def zAs(L:Nat)(ks:List Nm):List (Nm×SBlk)→Prop
 | []=>True
 |(n,_)::l=>(n.l=L∨n∈ks)∧zAs L ks l
theorem Sub.of{L:Nat}{F0:SF}{st st':St}(hF:∀n:Nm,n.l=L→F0 n=none)(h1:zAf st.t st'.t)(h2:zAi F0 st.H st'.H)(h3:zAs L (keys st'.H) st.H)(h4:st.nx≤st'.nx):Sub L F0 st st':=by
 intro B E0 w0 E a w hd hR;have hk:∀(H:List (Nm×SBlk)) (n:Nm),n.l≠L→n∉keys st'.H→zAs L (keys st'.H) H→look F0 H n=F0 n:=by
  intro H;induction H with
  |nil=>intro n _ _ _;rfl
  | cons x H ih=>
   obtain ⟨m,c⟩:=x;intro n h1 h2 h3;simp only[look];split
   ·rename_i he;subst he;rcases h3.1 with h|h;·exact absurd h h1
    ·exact absurd h h2
   ·exact ih n h1 h2 h3.2
 have hin:∀(H:List (Nm×SBlk)) (n:Nm),zAi F0 st.H H→n∈keys H→look F0 H n=look F0 st.H n:=by
  intro H;induction H with
  |nil=>intro n _ h;cases h
  | cons x H ih=>
   obtain ⟨m,c⟩:=x;intro n h1 h2;simp only[look];split;·rename_i he;subst he;exact h1.1.symm
   ·rename_i he;simp only[keys,zL,wP]at h2;rcases h2 with h2|h2;·exact absurd h2 he
    ·exact ih n h1.2 h2
 have hout:∀(H:List (Nm×SBlk)) (n:Nm),n∉keys H→look F0 H n=F0 n:=by
  intro H;induction H with
  |nil=>intro n _;rfl
  |cons x H ih=>
   obtain ⟨m,c⟩:=x;intro n h;simp only[keys,zL,wP,not_or]at h;simp only[look];rw[if_neg h.1];exact ih n h.2
 have hs:SLe (look F0 st'.H) (look F0 st.H):=by
  intro n b hb;by_cases hkn:n∈keys st'.H;·rw[hin st'.H n h2 hkn]at hb;exact .inr (.inl hb)
  ·rw[hout st'.H n hkn]at hb;by_cases hl:n.l=L;·rw[hF n hl]at hb;cases hb
   ·rw[←hk st.H n hl hkn h3]at hb;exact .inr (.inl hb)
 have hS:=zUS hR.step.rel hs;obtain ⟨t1,t2⟩:=zC6 h1;refine ⟨E,hR.step.trans hS,⟨by rw[←t1];exact hR.tmps.size,fun i v hv=>?_⟩,hR.marks.mono hS.ext,fun n a b=>?_⟩
 ·simp only[TF]at hv;rw[zE]at hv;cases hx:st'.t[i]? with
  |none=>rw[hx]at hv;cases hv
  |some x=>
   rw[hx]at hv;simp at hv;subst hv;have:=t2 i v hx;obtain ⟨v',a1,a2⟩:=hR.tmps.val i v (by simp[TF,zE,this]);exact ⟨v',a1,VR.mono hS.ext _ _ a2⟩
 ·have:=hR.news n a b;exact ⟨this.1,by omega⟩
end Go.Tx
end
section
namespace Go.Tx
theorem PostF.of{T:Tys}{F:SF}{rl:List ResultVar}{L:Nat}{v:PV}{upd:List (Nm×SBlk)}{e:Exit}{st:St}(he:e= .normal∨e= .ret){p:Prop}{v0:PV}(h:zC5 T (look F st.H) st.t rl=some (p,v0))(hp:p)(hw:Wk (look F st.H) v0 v)(hn:∀n∈wkN v0 v,n.l=L+1)
  (hf:Tx.nf v=true)(ho:UpdIn L (look F st.H) upd)(ha:UpdAll L (keys upd) st.H):PostF T F rl L v upd e st:=⟨he,⟨_,_,h,hp,hw,hn⟩,hf,ho,ha⟩
theorem PostF.int{T:Tys}{F:SF}{rl:List ResultVar}{L:Nat}{k:IntKind}{a b:Int}{e:Exit}{st:St}(he:e= .normal∨e= .ret)(h:zC5 T (look F st.H) st.t rl=some (True∧True,.int k a))(hab:a=b)(ha:UpdAll L [] st.H):PostF T F rl L (.int k b) [] e st:=
 ⟨he,⟨_,_,h,⟨trivial,trivial⟩,by subst hab;rfl,by intro n hn;cases hn⟩,rfl,trivial,ha⟩
theorem PostF.bool{T:Tys}{F:SF}{rl:List ResultVar}{L:Nat}{a b:Bool}{e:Exit}{st:St}(he:e= .normal∨e= .ret)(h:zC5 T (look F st.H) st.t rl=some (True∧True,.bool a))(hab:a=b)(ha:UpdAll L [] st.H):PostF T F rl L (.bool b) [] e st:=
 ⟨he,⟨_,_,h,⟨trivial,trivial⟩,by subst hab;rfl,by intro n hn;cases hn⟩,rfl,trivial,ha⟩
theorem zMf(x:Int){b:Int}(h0:0≤b)(h1:b≤62):x.fdiv (2^min b.toNat 64)=x/2^b.toNat:=by
 have hm:min b.toNat 64=b.toNat:=by omega
 rw[hm,Int.fdiv_eq_ediv_of_nonneg];exact Int.le_of_lt (Int.pow_pos (by decide))
theorem zTF{x b:Int}(h0:0≤b)(h1:b≤62)(hx:0≤x)(hx2:x<2^b.toNat):x.fdiv (2^min b.toNat 64)=0:=by
 rw[zMf x h0 h1];exact Int.ediv_eq_zero_of_lt hx hx2
theorem zRb{b:Int}(h0:0≤b)(h1:b≤32):(2:Int)^b.toNat≤4294967296∧1≤(2:Int)^b.toNat:=by
 have hp:(2:Nat)^b.toNat≤2^32:=uI (by omega) (by omega);have hp1:1≤(2:Nat)^b.toNat:=Nat.one_le_two_pow;have hc:((2:Int)^b.toNat)=((2^b.toNat:Nat):Int):=by simp
 rw[hc];generalize 2^b.toNat=m at hp hp1;omega
theorem dF{p:Prop}[Decidable p](h:¬p):decide p=false:=decide_eq_false h
theorem dT{p:Prop}[Decidable p](h:p):decide p=true:=decide_eq_true h
theorem neF{a b:Int}(h:a=b):(a !=b)=false:=by simp[h]
theorem neT{a b:Int}(h:a≠b):(a !=b)=true:=by simp[h]
theorem eqF{a b:Int}(h:a≠b):(a==b)=false:=by simp[h]
end Go.Tx
end
