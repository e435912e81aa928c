/- Lemmas for the walk: U18, U15d, U18d, U18x. -/
import Derived.Test.YtifhjhbfhdcahaaGreatP07
set_option linter.all false
section
namespace Go.Tx
open Go.Sx (zAB)
structure YRec where
 l:Nat
 R:Loop
 t:List (Option PV)
structure Cx where
 P:Program
 T:Tys
 ms:Meths
 wr:Bool
 L:Nat
 ro:Option Nat
 ys:List YRec
 /-- deferred calls that were there ahead of the walk -/
 B:List Deferred
 /-- may a call end in the panic ch, and what must hold of the state then -/
 dies:Bool
 ch:List PanicEntry
 dq:St→Prop
def Cx.calm(C:Cx):Cx:={C with dies:=false}
structure Cx.Ok (C:Cx):Prop where
 T:C.T.Ok C.P
 A:zDp C.T
 mixed:C.P.follows .mixedOrders=true
 ms:C.ms.Ok C.P
def CallVC(P:Program)(f:FuncId)(args:List PV)(F:SF)(L nx:Nat)(K:PV→List (Nm×SBlk)→List Nm→Nat→Prop):Prop:=
 (∃args2 v,WkL F args args2∧zBC v=true∧Con P f args2 (fun _=>none) L nx nx v [] []∧K v [] (zAt args args2) nx)∨
 (∃args2 v upd rd top,WkL F args args2∧Con P f args2 (F.upd (unown F (zAt args args2))) L nx top v upd rd∧K v (unown F (zAt args args2)++upd) (zAt args args2++rd) top)
theorem CallVC.pure{P:Program}{f:FuncId}{args args2:List PV}{F:SF}{L nx:Nat}{K:PV→List (Nm×SBlk)→List Nm→Nat→Prop}{v:PV}(hw:WkL F args args2)(hc:Con P f args2 (fun _=>none) L nx nx v [] [])(hp:zBC v=true)(hk:K v [] (zAt args args2) nx):CallVC P f args F L nx K:=.inl ⟨_,_,hw,hp,hc,hk⟩
theorem CallVC.gen{P:Program}{f:FuncId}{args args2:List PV}{F:SF}{L nx top:Nat}{K:PV→List (Nm×SBlk)→List Nm→Nat→Prop}{v:PV}{upd:List (Nm×SBlk)}{rd:List Nm}(hw:WkL F args args2)
  (hc:Con P f args2 (F.upd (unown F (zAt args args2))) L nx top v upd rd)(hk:K v (unown F (zAt args args2)++upd) (zAt args args2++rd) top):CallVC P f args F L nx K:=.inr ⟨_,_,_,_,_,hw,hc,hk⟩
def DieVC(C:Cx)(F0:SF)(t:List (Option PV))(H:List (Nm×SBlk))(nx:Nat)(f:FuncId)(asx:List PV):Prop:=
 ∃args2 upd rd,WkL (look F0 H) asx args2∧DCon C.P C.ch f args2 ((look F0 H).upd (unown (look F0 H) (zAt asx args2))) C.L upd rd∧C.dq ⟨t,zAl H (unown (look F0 H) (zAt asx args2)++upd),nx⟩
def CallVD(C:Cx)(p:Prop)(F0:SF)(t:List (Option PV))(H:List (Nm×SBlk))(nx:Nat)(f:FuncId)(asx:List PV):Prop:=
 match C.dies with
 |false=>p
 |true=>p∨DieVC C F0 t H nx f asx
def zGv(C:Cx)(t:List (Option PV))(H:List (Nm×SBlk))(nx:Nat)(x:Operand):Prop:=
 match C.dies,zAu t x with
 |true,some (.ifc ty (.agg []))=>C.ch=[{v:=.iface ty (.agg #[]),recovered:=false}]∧C.dq ⟨t,H,nx⟩
 |_,_=>False
abbrev FPs:=List (List Nm×List Nm)
abbrev RK:=List (Option PV)→List (Nm×SBlk)→Nat→FPs→Prop
def brB(g want:Bool)(A B:Prop):Prop:=(g=want→A)∧(g= !want→B)
def zBG(ops:List Oper)(t:List (Option PV))(j:Nat):Option PV:=
 match ops[j]? with
 |some o=>match o.dst with|some d=>t.getD d none|none=>none
 |none=>none
def zJz(ops:List Oper)(t:List (Option PV))(j:Nat)(g:Bool):List (Option PV):=
 match ops[j]? with
 |some o=>zCR t o.dst (.bool g)
 |none=>t
def zIJ(C:Cx)(F0:SF)(o:Oper)(t:List (Option PV))(H:List (Nm×SBlk))(nx:Nat)(fps:FPs)(K:RK):Prop:=
 match o.op with
 | .call ⟨.value fo,args,_⟩=>
  match zAu t fo,vals (zAu t) args.toList with
  |some (.fn (.func f) xs ys),some asx=>CallVD C (CallVC C.P f (xs++asx++ys) (look F0 H) C.L nx (fun v upd rd nx'=>K (zCR t o.dst v) (zAl H upd) nx' (fps++[(rd,keys upd)]))) F0 t H nx f (xs++asx++ys)
  |_,_=>False
 | .call ⟨.invoke x name,args,_⟩=>
  match zAu t x,vals (zAu t) args.toList with
  |some (.ifc ty v),some asx=>
   match C.ms.get ty name with
   |some f=>CallVD C (CallVC C.P f (v::asx) (look F0 H) C.L nx (fun v upd rd nx'=>K (zCR t o.dst v) (zAl H upd) nx' (fps++[(rd,keys upd)]))) F0 t H nx f (v::asx)
   |none=>False
  |_,_=>False
 | .panic x=>zGv C t H nx x
 | op=>
  match zEU C.ch C.T (zAu t) (look F0 H) ⟨C.L,nx⟩ op with
  |some r=>r.vc∧K (zCR t o.dst r.v) (zAl H r.upd) (nx+32) (fps++[(r.rd,keys r.upd)])
  |none=>
   match zCy C.T C.wr (zAu t) (look F0 H) ⟨C.L,nx⟩ op with
   |some r=>r.vc∧K (zCR t o.dst r.v) (zAl H r.upd) (nx+32) (fps++[(r.rd,keys r.upd)])
   |none=>False
def zDj(C:Cx)(F0:SF)(ops:List Oper):List Oper→List (Option PV)→List (Nm×SBlk)→Nat→FPs→RK→Prop
 | [],t,H,nx,fps,K=>K t H nx fps
 | o ::l,t,H,nx,fps,K=>
  match o.guard with
  |none=>zIJ C.calm F0 o t H nx fps (fun t H nx fps=>zDj C F0 ops l t H nx fps K)
  | some (j,want)=>
   match zBG ops t j with
   | some (.bool g)=>
    brB g want (zIJ C.calm F0 o (zJz ops t j want) H nx fps (fun t H nx fps=>zDj C F0 ops l t H nx fps K))
     (zDj C F0 ops l (zCR (zJz ops t j (!want)) o.dst zAN) H nx (fps++[([],[])]) K)
   |some (.tup [])=>zDj C F0 ops l (zCR t o.dst zAN) H nx (fps++[([],[])]) K
   |_=>False
section
variable {C : Cx} {F0 : SF}
theorem zCN{ops:List Oper}{t:List (Option PV)}{j:Nat}{g:Bool}(h:zBG ops t j=some (.bool g)):zJz ops t j g=t:=by
 unfold zBG at h;unfold zJz;cases ho:ops[j]? with
 |none=>rfl
 | some o=>
  rw[ho]at h;simp only at h ⊢;cases hd:o.dst with
  |none=>rfl
  | some d=>
   rw[hd]at h;simp only at h;simp only[zCR];apply List.ext_getElem?;intro k;rw[vQ];by_cases hk:d=k
   ·subst hk;rw[if_pos rfl];rw[zE]at h;cases hx:t[d]? with
    |none=>rw[hx]at h;cases h
    |some x=>
     rw[hx]at h;simp at h;subst h;rw[if_pos (zAB hx)]
   ·rw[if_neg hk]
theorem CallVD.calm{C:Cx}{p:Prop}{F0:SF}{t:List (Option PV)}{H:List (Nm×SBlk)}{nx:Nat}{f:FuncId}{asx:List PV}:CallVD C.calm p F0 t H nx f asx=p:=rfl
theorem CallVD.cases{C:Cx}{p:Prop}{F0:SF}{t:List (Option PV)}{H:List (Nm×SBlk)}{nx:Nat}{f:FuncId}{asx:List PV}(h:CallVD C p F0 t H nx f asx):p∨(C.dies=true∧DieVC C F0 t H nx f asx):=by
 unfold CallVD at h;cases hd:C.dies<;>rw[hd]at h
 ·exact .inl h
 ·exact h.imp id fun h=>⟨rfl,h⟩
theorem CallVD.live{C:Cx}{p:Prop}{F0:SF}{t:List (Option PV)}{H:List (Nm×SBlk)}{nx:Nat}{f:FuncId}{asx:List PV}(h:p):CallVD C p F0 t H nx f asx:=by
 unfold CallVD;cases C.dies;·exact h
 ·exact .inl h
theorem CallVD.die{C:Cx}{p:Prop}{F0:SF}{t:List (Option PV)}{H:List (Nm×SBlk)}{nx:Nat}{f:FuncId}{asx:List PV}(hd:C.dies=true)(h:DieVC C F0 t H nx f asx):CallVD C p F0 t H nx f asx:=by
 unfold CallVD;rw[hd];exact .inr h
def DOp(C:Cx)(F0:SF)(o:Oper)(t:List (Option PV))(H:List (Nm×SBlk))(nx:Nat):Prop:=
 C.dies=true∧∃upd rd,zLX C.P C.ch (zAu t) (look F0 H) C.L o upd rd∧C.dq ⟨t,zAl H upd,nx⟩
theorem DieVC.op{o:Oper}{t:List (Option PV)}{H:List (Nm×SBlk)}{nx:Nat}{f:FuncId}{asx:List PV}(hd:C.dies=true)(ho:zHj C.P (zAu t) o f asx)(h:DieVC C F0 t H nx f asx):DOp C F0 o t H nx:=by
 obtain ⟨args2,upd,rd,hw,hc,hk⟩:=h;exact ⟨hd,_,_,zHk ho hw hc,hk⟩
theorem zKj(hC:C.Ok){o:Oper}{t:List (Option PV)}{H:List (Nm×SBlk)}{nx:Nat}{fps:FPs}{K:RK}(h:zIJ C F0 o t H nx fps K):
  (∃r top,OpFact C.P (zAu t) (look F0 H) C.L nx top o r∧K (zCR t o.dst r.v) (zAl H r.upd) top (fps++[(r.rd,keys r.upd)]))∨DOp C F0 o t H nx:=by
 unfold zIJ at h;split at h
 ·rename_i fo args ats ho;split at h;rotate_left;·exact h.elim
  rename_i f xs ys asx hv has;rcases h.cases with (⟨args2,v,hw,hp,hc,hk⟩|⟨args2,v,upd,rd,top,hw,hc,hk⟩)|⟨hd,h⟩;·exact .inl ⟨_,_,zGu (zCi ho hv has) hw hp hc,hk⟩
  ·exact .inl ⟨_,_,zGt (zCi ho hv has) hw hc,hk⟩
  ·exact .inr (h.op hd (zCi ho hv has))
 ·rename_i x name args ats ho;split at h;rotate_left;·exact h.elim
  rename_i ty v asx hv has;split at h;rotate_left;·exact h.elim
  rename_i f hg;rcases h.cases with (⟨args2,v,hw,hp,hc,hk⟩|⟨args2,v,upd,rd,top,hw,hc,hk⟩)|⟨hd,h⟩;·exact .inl ⟨_,_,zGu (zDS hC.ms ho hv has hg) hw hp hc,hk⟩
  ·exact .inl ⟨_,_,zGt (zDS hC.ms ho hv has hg) hw hc,hk⟩
  ·exact .inr (h.op hd (zDS hC.ms ho hv has hg))
 ·rename_i x ho;unfold zGv at h;split at h
  ·rename_i ty hd hv;exact .inr ⟨hd,[],[],zJx ho hv h.1,h.2⟩
  ·exact h.elim
 ·split at h
  ·rename_i r hr;exact .inl ⟨r,_,zLZ hC.T hr h.1,h.2⟩
  split at h;rotate_left;·exact h.elim
  rename_i r hr;exact .inl ⟨r,_,zFZ hC.T hC.A hr h.1,h.2⟩
theorem zIK(hC:C.Ok){o:Oper}{t:List (Option PV)}{H:List (Nm×SBlk)}{nx:Nat}{fps:FPs}{K:RK}(h:zIJ C.calm F0 o t H nx fps K):
  ∃r top,OpFact C.P (zAu t) (look F0 H) C.L nx top o r∧K (zCR t o.dst r.v) (zAl H r.upd) top (fps++[(r.rd,keys r.upd)]):=by
 have hC':C.calm.Ok:=⟨hC.T,hC.A,hC.mixed,hC.ms⟩;rcases zKj hC' h with h|⟨h,_⟩;·exact h
 ·cases h
theorem zIL(hC:C.Ok){ops:List Oper}{m:Nat}{K:RK}(hd:∀o∈ops,∀d,o.dst=some d→d<m):∀(l:List Oper) (t:List (Option PV)) (H:List (Nm×SBlk)) (nx:Nat) (fps:FPs),(∀o∈l,o∈ops)→t.length=m→zDj C F0 ops l t H nx fps K→
  ∃rs ls t' H' nx',Tr C.P ops C.L m l (TF t) (look F0 H) nx rs ls (TF t') (look F0 H') nx'∧t'.length=m∧K t' H' nx' (fps++rs.map zDE)
 | [],t,H,nx,fps,_,hm,h=>⟨[],[],t,H,nx,.nil _ _ _,hm,by simpa[zDj] using h⟩
 | o ::l,t,H,nx,fps,hsub,hm,h=>by
  have hdo:∀x,o.dst=some x→x<m:=hd o (hsub o (by simp));have hsub':∀o∈l,o∈ops:=fun x hx=>hsub x (by simp[hx])
  have run:(∀j want,o.guard=some (j,want)→zAq ops (TF t) j=some (.bool want))→zIJ C.calm F0 o t H nx fps (fun t H nx fps=>zDj C F0 ops l t H nx fps K)→
    ∃rs ls t' H' nx',Tr C.P ops C.L m (o::l) (TF t) (look F0 H) nx rs ls (TF t') (look F0 H') nx'∧t'.length=m∧K t' H' nx' (fps++rs.map zDE):=by
   intro hg hop;obtain ⟨r,top,h1,h2⟩:=zIK hC hop;obtain ⟨rs,ls,t',H',nx',h3,h4,h5⟩:=zIL hC hd l _ _ _ _ hsub' (by rw[zAr];exact hm) h2;rw[zBw]at h1;refine ⟨some r::rs,nx::ls,t',H',nx',.run hg h1 ?_,h4,?_⟩
   ·have e:=zDd (t:=t) (o:=o) (r:=some r) (by rw[hm];exact hdo);simp only at e;rw[←e,←zAP];exact h3
   ·simpa[zDE,zIF,hw] using h5
  have skip:∀j want,o.guard=some (j,want)→Off (zAq ops (TF t) j) want→zDj C F0 ops l (zCR t o.dst zAN) H nx (fps++[([],[])]) K→
    ∃rs ls t' H' nx',Tr C.P ops C.L m (o::l) (TF t) (look F0 H) nx rs ls (TF t') (look F0 H') nx'∧t'.length=m∧K t' H' nx' (fps++rs.map zDE):=by
   intro j want hg hoff hk;obtain ⟨rs,ls,t',H',nx',h3,h4,h5⟩:=zIL hC hd l _ _ _ _ hsub' (by rw[zAr];exact hm) hk;refine ⟨none::rs,nx::ls,t',H',nx',.skip hg hoff ?_,h4,?_⟩
   ·have e:=zDd (t:=t) (o:=o) (r:=none) (by rw[hm];exact hdo);simp only at e;rw[←e];exact h3
   ·simpa[zDE,zIF,hw,keys] using h5
  have hgv:∀j,zAq ops (TF t) j=zBG ops t j:=fun j=>rfl
  simp only[zDj]at h;split at h
  ·rename_i hg;exact run (fun j want he=>by rw[hg]at he;cases he) h
  ·rename_i j want hg;split at h
   ·rename_i g hb;by_cases hgw:g=want
    ·subst hgw;have h1:=h.1 rfl;rw[zCN hb]at h1;refine run (fun j' want' he=>?_) h1;rw[hg]at he;simp only[zZ,wL]at he;obtain ⟨rfl,rfl⟩:=he;rw[hgv];exact hb
    ·have hgn:g= !want:=by cases g<;>cases want<;>simp_all
     have h1:=h.2 hgn;subst hgn;rw[zCN hb]at h1;exact skip j want hg (.inl (by rw[hgv];exact hb)) h1
   ·rename_i hb;exact skip j want hg (.inr (by rw[hgv];exact hb)) h
   ·exact h.elim
end
def InvY(ys:List YRec)(E:Env)(F:SF)(w:World):Prop:=
 ∀y∈ys,y.R.state= .ready∧y.R.pending=none∧w.heap[y.l]?=some (.loop y.R)∧TRelF w (Zn E F w) E (TF y.t) y.t.length y.R.tmps
theorem InvY.step{ys:List YRec}{E E':Env}{F F':SF}{w w':World}(h:InvY ys E F w)(hR:HRel E F w)(hS:StepR E F w E' F' w'):InvY ys E' F' w':=fun y hy=>by
 obtain ⟨a,b,c,d⟩:=h y hy;exact ⟨a,b,(hS.keep _ (zBl c) (hR.unowned (zBR c))).trans c,d.mono hS.ext⟩
theorem InvY.nil{E:Env}{F:SF}{w:World}:InvY [] E F w:=fun _ h=>by cases h
def YCon(P:Program)(y:YRec)(args:List PV)(F:SF)(L nx top:Nat)(v:PV)(upd:List (Nm×SBlk))(rd:List Nm):Prop:=
 nx≤top∧∀(F2:SF),(∀n∈rd,F2 n=F n)→∀(E:Env) (w:World) (args':List Value),HRel E F2 w→(∀k,nx≤k→k<top→E ⟨L,k⟩=none)→(∀n:Nm,L<n.l→E n=none)→
  VRl w (Zn E F2 w) E args args'→InvY [y] E F2 w→args'.length=y.R.params.size∧
   RoundIn (W none) 0 P y.l y.R.fn ((y.R.params.zip args'.toArray).foldl (fun tmps (t,a)=>tmps.setIfInBounds t a) y.R.tmps) y.R.assign y.R.body w (fun e w'=>∃v',e= .returned v'∧zBH E F2 w L nx top v upd v' w')
def YVC(P:Program)(ys:List YRec)(l:Nat)(asx:List PV)(F:SF)(L nx:Nat)(K:PV→List (Nm×SBlk)→Nat→Prop):Prop:=
 ∃y∈ys,y.l=l∧∃v upd rd top,YCon P y asx F L nx top v upd rd∧K v upd top
def zRJ:Option PV→Option PV→Option Nat
 |some (.fs _ rs),some .nilS=>some rs.length
 |some (.sl _ _ l),some .nilS=>some l
 |_,_=>none
def zRA(T:Tys)(ρ:Operand→Option PV):Op→Option (Bool×Nat)
 | .binOp .eql t x y _=>match T.get t with|some {k:=.slice _,..}=>(zRJ (ρ x) (ρ y)).map fun n=>(true,n)|_=>none
 | .binOp .neq t x y _=>match T.get t with|some {k:=.slice _,..}=>(zRJ (ρ x) (ρ y)).map fun n=>(false,n)|_=>none
 |_=>none
def zRK:Bool→Bool→Bool
 |true,b=>b
 |false,b=>!b
def zSP(ρ:Operand→Option PV):Op→Option (Nat×List PV)
 | .call ⟨.value fo,args,_⟩=>match ρ fo,vals ρ args.toList with|some (.fn (.yield l) [] []),some asx=>some (l,asx)|_,_=>none
 |_=>none
def zRL(T:Tys)(F:SF)(ρ:Operand→Option PV):Op→Option Prop
 | .slice t x (some lo) (some hi) (some mx)=>
  match T.get t with
  | some {k:=.slice e,..}=>match T.get e,ρ x,ρ lo,ρ hi,ρ mx with
   |some _,some (.sl n 0 _),some (.int _ l),some (.int _ h),some (.int _ m)=>match F n with
    |some (.rows _ _ _ _ rs)=>some (0≤l∧l≤h∧h≤m∧m≤rs.length)
    |_=>none
   |_,_,_,_,_=>none
  |_=>none
 |_=>none
def zHl(t:List (Option PV)):Option Nat→List (Option PV)
 |none=>t
 |some d=>t.set d none
abbrev SK:=List (Option PV)→List (Nm×SBlk)→Nat→Prop
def zPt(K:SK):RK:=fun t H nx _=>K t H nx
def ycK(d:Option Nat)(t:List (Option PV))(H:List (Nm×SBlk))(K:SK):PV→List (Nm×SBlk)→Nat→Prop:=fun v upd nx=>K (zCR t d v) (zAl H upd) nx
def nilK(b0:Bool)(n:Nat)(d:Option Nat)(t:List (Option PV))(H:List (Nm×SBlk))(nx:Nat)(K:SK):Prop:=∀b:Bool,(b=true→n=0)→K (zCR t d (.bool (zRK b0 b))) H nx
def zPu(P:Program)(ρ:Operand→Option PV)(F:SF)(L nx top:Nat)(o:Oper)(r1 r2:Res):Prop:=
 (∀c,o.op≠ .defer c)∧nx≤top∧∀(E:Env) (w:World) (ρ':Operand→Value),HRel E F w→(∀k,nx≤k→E ⟨L,k⟩=none)→(∀n:Nm,L<n.l→E n=none)→zJp w (Zn E F w) E ρ ρ'→
   zES P (fun v' w'=>∃r,(r=r1∨r=r2)∧∃E',VR w' (Zn E' (F.upd r.upd) w') E' r.v v'∧StepR E F w E' (F.upd r.upd) w'∧∀n,E n=none→E' n≠none→n.l=L∧nx≤n.i∧n.i<top) ((execOp ρ' o).run P w)
def zHm:List PanicEntry→Op→Bool
 | [a,_],.call ⟨.builtin .append,_,_⟩=>match a.v with| .bool true=>true|_=>false
 | [_,b],.call ⟨.value (.func f),_,_⟩=>match b.v with| .int _ n=>n==(f:Int)|_=>false
 |_,_=>false
def zPv(C:Cx)(F0:SF)(o:Oper)(t:List (Option PV))(H:List (Nm×SBlk))(nx:Nat)(K:SK):Prop:=
 ∃r1 r2 top,zPu C.P (zAu t) (look F0 H) C.L nx top o r1 r2∧K (zCR t o.dst r1.v) (zAl H r1.upd) top∧K (zCR t o.dst r2.v) (zAl H r2.upd) top
def zI1(C:Cx)(F0:SF)(o:Oper)(t:List (Option PV))(H:List (Nm×SBlk))(nx:Nat)(K:SK):Prop:=
 match zRA C.T (zAu t) o.op with
 |some (b0,n)=>nilK b0 n o.dst t H nx K
 | none=>
  match zSP (zAu t) o.op with
  |some (l,asx)=>YVC C.P C.ys l asx (look F0 H) C.L nx (ycK o.dst t H K)
  | none=>
   match zRL C.T (look F0 H) (zAu t) o.op with
   |some p=>p∧K (zHl t o.dst) H nx
   |none=>
    match zHm C.ch o.op with
    |false=>zIJ C F0 o t H nx [] (zPt K)
    |true=>zIJ C F0 o t H nx [] (zPt K)∨zPv C F0 o t H nx K
def zDT(C:Cx)(F0:SF)(ops:List Oper):List Oper→List (Option PV)→List (Nm×SBlk)→Nat→SK→Prop
 | [],t,H,nx,K=>K t H nx
 | o ::l,t,H,nx,K=>
  match o.guard with
  |none=>zI1 C F0 o t H nx (fun t H nx=>zDT C F0 ops l t H nx K)
  | some (j,want)=>
   match zBG ops t j with
   | some (.bool g)=>
    brB g want (zI1 C F0 o (zJz ops t j want) H nx (fun t H nx=>zDT C F0 ops l t H nx K))
     (zDT C F0 ops l (zCR (zJz ops t j (!want)) o.dst zAN) H nx K)
   |some (.tup [])=>zDT C F0 ops l (zCR t o.dst zAN) H nx K
   |_=>False
theorem zPw{P:Program}{T:Tys}(hT:T.Ok P){w:World}{Z:Nat→Prop}{E:Env}{ρ:Operand→Option PV}{ρ':Operand→Value}(hρ:zJp w Z E ρ ρ'){o:Oper}{b0:Bool}{n:Nat}(h:zRA T ρ o.op=some (b0,n)):
  (∀c,o.op≠ .defer c)∧∃b:Bool,(b=true→n=0)∧(execOp ρ' o).run P w= .ok (.value (.bool (zRK b0 b))) w:=by
 have key:∀(x y:Option PV) (x' y':Value) (m:Nat) (t:TypeId) (e:TypeId),zRJ x y=some m→(∀v,x=some v→VR w Z E v x')→(∀v,y=some v→VR w Z E v y')→(underlying t).run P w= .ok (.slice e) w→
   ∃b:Bool,(b=true→m=0)∧(Op.equal t x' y').run P w= .ok b w∧(∃a l c,x'= .slice a l c)∧y'= .slice none 0 0:=by
  intro x y x' y' m t e hl hx hy hd;unfold zRJ at hl;split at hl
  ·rename_i wd rs;injection hl with hl;subst hl;have h1:=hx _ rfl;have h2:=hy _ rfl;simp only[VR]at h1 h2;subst h2;obtain ⟨a,cap,rfl,_,_,_,_,hor⟩:=h1;cases a with
   |none=>
    refine ⟨true,fun _=>?_,Sx.zFt fun d=>by simp[Op.equalIn,hd],⟨_,_,_,rfl⟩,rfl⟩;rcases hor with rfl|⟨b,o,cs,e,fz,ha,_⟩;·rfl
    ·cases ha
   |some a=>exact ⟨false,(fun h=>by cases h),Sx.zFt fun d=>by simp[Op.equalIn,hd],⟨_,_,_,rfl⟩,rfl⟩
  ·rename_i nn r l;injection hl with hl;subst hl;have h1:=hx _ rfl;have h2:=hy _ rfl;simp only[VR]at h1 h2;subst h2;obtain ⟨i,_,hor⟩:=h1;rcases hor with ⟨_,rfl,rfl⟩|⟨_,rfl⟩
   ·cases hz:i.za with
    |none=>exact ⟨true,fun _=>rfl,Sx.zFt fun d=>by simp[Op.equalIn,hd],⟨_,_,_,rfl⟩,rfl⟩
    |some a=>exact ⟨false,(fun h=>by cases h),Sx.zFt fun d=>by simp[Op.equalIn,hd],⟨_,_,_,rfl⟩,rfl⟩
   ·exact ⟨false,(fun h=>by cases h),Sx.zFt fun d=>by simp[Op.equalIn,hd],⟨_,_,_,rfl⟩,rfl⟩
  ·cases hl
 have hsl:∀(t:TypeId) (i:TI) (e:TypeId),T.get t=some i→i.k= .slice e→∃e',(underlying t).run P w= .ok (.slice e') w:=by
  intro t i e h1 h2;obtain ⟨z,hz⟩:=hT t i h1;obtain ⟨d,hd,hk⟩:=hz.run_underlying w;rw[h2]at hk;obtain rfl:=Sx.zAS hk;exact ⟨_,hd⟩
 cases ho:o.op<;>rw[ho]at h<;>simp only[zRA]at h<;>try (cases h;done)
 rename_i op t x y yt;refine ⟨(fun c hc=>by cases hc),?_⟩;unfold execOp;rw[ho];cases op<;>simp only[zRA]at h<;>try (cases h;done)
 all_goals
  split at h;rotate_left;·cases h
  rename_i hti;simp only[zV,wL]at h;obtain ⟨m,h1,rfl,rfl⟩:=h;obtain ⟨e',hd⟩:=hsl t _ _ hti rfl;obtain ⟨b,q1,q2,⟨a,l,c,q3⟩,q4⟩:=key _ _ (ρ' x) (ρ' y) _ t e' h1 (fun v hv=>hρ _ _ hv) (fun v hv=>hρ _ _ hv) hd;refine ⟨b,q1,?_⟩;rw[q3,q4]at q2;simp[q3,q4,eqGuard,binOp,q2,zRK]
theorem zOI{P:Program}{T:Tys}(hT:T.Ok P){w:World}{E:Env}{F:SF}(h0:HRel E F w){ρ:Operand→Option PV}{ρ':Operand→Value}(hρ:zJp w (Zn E F w) E ρ ρ'){o:Oper}{p:Prop}(h:zRL T F ρ o.op=some p)(hp:p):
  (∀c,o.op≠ .defer c)∧∃v,(execOp ρ' o).run P w= .ok (.value v) w:=by
 cases ho:o.op<;>rw[ho]at h<;>simp only[zRL]at h<;>try (cases h;done)
 rename_i t x lo hi mx;refine ⟨(fun c hc=>by cases hc),?_⟩;cases lo with
 |none=>simp at h
 |some lo=>
 cases hi with
 |none=>simp at h
 |some hi=>
 cases mx with
 |none=>simp at h
 |some mx=>
 simp only at h;split at h;rotate_left;·cases h
 rename_i hti;obtain ⟨z,ht⟩:=hT _ _ hti;obtain ⟨d,hd,hk⟩:=ht.run_underlying w;obtain rfl:=Sx.zAS hk;split at h;rotate_left;·cases h
 rename_i ei n ln kl l kh hh km m hei hx hl hhi hm;obtain ⟨z2,ht2⟩:=hT _ _ hei;have hsz:=ht2.run_sizeOf w;split at h;rotate_left;·cases h
 rename_i e wd own pp rs hF;injection h with h;subst h;obtain ⟨c1,c2,c3,c4⟩:=hp;have vx:=hρ _ _ hx;have vl:=hρ _ _ hl;have vh:=hρ _ _ hhi;have vm:=hρ _ _ hm;simp only[VR]at vx vl vh vm;have hcap:∃a len cap,ρ' x= .slice a len cap∧rs.length≤cap:=by
  obtain ⟨i,hi,hor⟩:=vx;rcases hor with ⟨hz,rfl,hv⟩|⟨hz,hv⟩
  ·refine ⟨_,_,_,hv,?_⟩;obtain ⟨j,hj,hq⟩:=h0.blk n _ hF;rw[hi]at hj;injection hj with hj;subst hj;rcases hq with ⟨_,q,_⟩|⟨q,_⟩;·rw[q];simp
   ·rw[hz]at q;cases q
  ·exact ⟨_,_,_,hv,by have:=(zAJ h0 hF hi hz).le;omega⟩
 obtain ⟨a,len,cap,hv,hcp⟩:=hcap;have b1:∀code,(Instr.sliceBound (ρ' mx) cap code).run P w= .ok m.toNat w:=fun code=>by
  simp only[Instr.sliceBound,vm,asIntOf,zB,zI,zD];rw[if_pos ⟨by omega,by omega⟩,zI]
 have b2:∀code,(Instr.sliceBound (ρ' hi) m.toNat code).run P w= .ok hh.toNat w:=fun code=>by
  simp only[Instr.sliceBound,vh,asIntOf,zB,zI,zD];rw[if_pos ⟨by omega,by omega⟩,zI]
 have b3:∀code,(Instr.sliceBound (ρ' lo) hh.toNat code).run P w= .ok l.toNat w:=fun code=>by
  simp only[Instr.sliceBound,vl,asIntOf,zB,zI,zD];rw[if_pos ⟨by omega,by omega⟩,zI]
 have b4:(Instr.sliceBounds true len cap (some (ρ' lo)) (some (ρ' hi)) (some (ρ' mx))).run P w= .ok (l.toNat,hh.toNat,m.toNat) w:=by
  simp only[Instr.sliceBounds,zB,b1,b2,b3,zD,zI]
 refine ⟨.slice (if m.toNat=l.toNat then a else a.map (·.add (l.toNat*ei.size))) (hh.toNat-l.toNat) (m.toNat-l.toNat),?_⟩;unfold execOp;rw[ho];simp only[wJ,Instr.sliceAt,zB,hd,zD,Instr.slice,hv,b4,hsz,zI]
theorem zMS{P:Program}{l:Nat}{f:FuncId}{tmps:Array Value}{assign body:Code}{w:World}{R:Ending→World→Prop}(ro:Option Nat)(n:Nat)(h:RoundIn (W none) 0 P l f tmps assign body w R):RoundIn (W ro) n P l f tmps assign body w R:=
 ⟨trivial,fun c cs _=>h.2 c cs (room_wide _)⟩
theorem zMT{C:Cx}{F0:SF}(hC:C.Ok){o:Oper}{t:List (Option PV)}{H:List (Nm×SBlk)}{nx:Nat}{K:SK}(h:zI1 C F0 o t H nx K){E:Env}{a:Act}{w:World}(hR:HRel E (look F0 H) w)(hT:TRelF w (Zn E (look F0 H) w) E (TF t) t.length a.tmps)
  (hfr:∀k,nx≤k→E ⟨C.L,k⟩=none)(hdp:∀n:Nm,C.L<n.l→E n=none)(hy:InvY C.ys E (look F0 H) w)(hd:∀d,o.dst=some d→d<t.length){ro:Option Nat}{n:Nat}{next:Act→World→Prop}{Q:Exit→Act→World→Prop}
  (hD:∀st' E' w',C.dies=true→C.dq st'→st'.t=t→st'.nx=nx→StepR E (look F0 H) w E' (look F0 st'.H) w'→TRelF w' (Zn E' (look F0 st'.H) w') E' (TF t) t.length a.tmps→(∀n,E n=none→E' n=none)→Q (.panic C.ch) a w')
  (hK:∀t' H' nx' E' v w',t'.length=t.length→K t' H' nx'→nx≤nx'→StepR E (look F0 H) w E' (look F0 H') w'→TRelF w' (Zn E' (look F0 H') w') E' (TF t') t.length (a.put o.dst v).tmps→(∀n,E n=none→E' n≠none→n.l=C.L∧nx≤n.i∧n.i<nx')→next (a.put o.dst v) w'):
  o.uponIn (W ro) n C.P a next Q ((o.semAt (W ro).round a.eval).run C.P w):=by
 have hev:zJp w (Zn E (look F0 H) w) E (zAu t) a.eval:=by rw[zBw];exact hT.eval
 have fin:∀(v:PV) (upd:List (Nm×SBlk)) (top:Nat) (v':Value) (w':World) (E':Env),K (zCR t o.dst v) (zAl H upd) top→nx≤top→VR w' (Zn E' ((look F0 H).upd upd) w') E' v v'→StepR E (look F0 H) w E' ((look F0 H).upd upd) w'→(∀n,E n=none→E' n≠none→n.l=C.L∧nx≤n.i∧n.i<top)→next (a.put o.dst v') w':=by
  intro v upd top v' w' E' hk hle hv hs hn;refine hK _ _ _ E' _ _ (zAr _ _ _) hk hle (by rw[zAP];exact hs) ?_ hn;have e:=zDd (t:=t) (o:=o) (r:=some (zAH True v)) hd;simp only[zAH]at e;rw[e,zAP];exact TRelF.putR (r:=some (zAH True v)) (hT.mono hs.ext) hv hd
 unfold zI1 at h;split at h
 ·rename_i b0 m hn;obtain ⟨hnd,b,q1,q2⟩:=zPw (w:=w) (P:=C.P) hC.T hev hn;rw[Oper.semAt_eq (W ro).round a.eval o hnd,q2];show next _ _;refine fin _ [] nx _ _ E (h b q1) (zH _) (by simp[VR]) (StepR.refl hR) (fun n h1 h2=>absurd h1 h2)
 ·split at h
  ·rename_i l asx hyl;obtain ⟨y,hmem,rfl,v,upd,rd,top,⟨hle,hc⟩,hk⟩:=h;have hop:∃fo args ats,o.op= .call ⟨.value fo,args,ats⟩∧zAu t fo=some (.fn (.yield y.l) [] [])∧vals (zAu t) args.toList=some asx:=by
    unfold zSP at hyl;split at hyl
    ·rename_i fo args ats ho;split at hyl
     ·rename_i l' as' h1 h2;injection hyl with hyl;injection hyl with e1 e2;subst e1;subst e2;exact ⟨fo,args,ats,ho,h1,h2⟩
     ·cases hyl
    ·cases hyl
   obtain ⟨fo,args,ats,ho,h1,h2⟩:=hop;have hfv:=hev _ _ h1;simp only[VR,VRl]at hfv;obtain ⟨fl',cl',he,rfl,rfl⟩:=hfv;have hargs:=zDQ hev h2;have hy1:InvY [y] E (look F0 H) w:=fun z hz=>by simp only[qP]at hz;subst hz;exact hy z hmem
   obtain ⟨c1,c2⟩:=hc _ (fun _ _=>rfl) E w _ hR (fun k a _=>hfr k a) hdp hargs hy1;have hheap:=(hy y hmem).2.2.1;rw[Oper.semAt_eq (W ro).round a.eval o (fun c hc=>by rw[ho]at hc;cases hc)];have hrun:(execOp a.eval o).run C.P w= .ok (.round y.l y.R.fn ((y.R.params.zip (args.toList.map a.eval).toArray).foldl (fun tmps (t,a)=>tmps.setIfInBounds t a) y.R.tmps) y.R.assign y.R.body) w:=by
    unfold execOp;rw[ho];simp only[resolve,he,Deferred.ofValue,zB,zI,zD,invoke];rw[show (([]:List Value).toArray++args.map a.eval)=(args.toList.map a.eval).toArray from by apply vG;simp];exact run_yield hheap (by simpa using c1)
   rw[hrun];refine ⟨(fun hd=>by cases hd),(zMS ro (n-1) c2).mono ?_⟩
   rintro e w' ⟨v',rfl,E',g1,g2,g3⟩
   exact fin v upd top v' w' E' hk hle g1 g2 g3
  ·split at h
   ·rename_i p hc3;obtain ⟨hp,hk⟩:=h;obtain ⟨hnd,v,q2⟩:=zOI (w:=w) (P:=C.P) hC.T hR hev hc3 hp;rw[Oper.semAt_eq (W ro).round a.eval o hnd,q2];show next _ _;refine hK _ _ _ E _ _ ?_ hk (zH _) (StepR.refl hR) ?_ (fun n h1 h2=>absurd h1 h2)
    ·cases o.dst<;>simp[zHl]
    ·cases hod:o.dst with
     |none=>simpa[zHl,Act.put] using hT
     |some d=>
      simp only[zHl,Act.put];refine ⟨by simpa using hT.size,fun i u hu=>?_⟩;simp only[TF,zE,vQ]at hu;by_cases hdi:d=i
      ·subst hdi;rw[if_pos rfl]at hu;split at hu<;>simp at hu
      ·rw[if_neg hdi]at hu;obtain ⟨v',a1,a2⟩:=hT.val i u (by simpa[TF,zE] using hu);exact ⟨v',by rw[Array.getElem?_setIfInBounds];rw[if_neg hdi];exact a1,a2⟩
   have h':zIJ C F0 o t H nx [] (zPt K)∨zPv C F0 o t H nx K:=by
    split at h;·exact .inl h
    ·exact h
   rcases h' with h|⟨r1,r2,top,⟨hnd,hnt,hs⟩,k1,k2⟩;rotate_left
   ·rw[Oper.semAt_eq (W ro).round a.eval o hnd];have hL:=hs E w a.eval hR hfr hdp hev;refine zEC hL ?_
    rintro v w' ⟨r,hr,E',hv',hstep,hfi⟩
    rcases hr with rfl|rfl;·exact fin _ _ top v w' E' k1 hnt hv' hstep hfi
    ·exact fin _ _ top v w' E' k2 hnt hv' hstep hfi
   rcases zKj hC h with ⟨r,top,hf,hk⟩|⟨hdi,upd,rd,⟨hnd,hs⟩,hk⟩;rotate_left
   ·rw[Oper.semAt_eq (W ro).round a.eval o hnd];refine zIz (hs _ _ (fun _ _=>rfl) (fun _ _=>rfl) E w a.eval hR hdp hev) ?_
    rintro w' ⟨E',hstep,hno⟩
    rw[←zAP]at hstep;exact hD ⟨t,zAl H upd,nx⟩ E' w' hdi hk rfl rfl hstep (hT.mono hstep.ext) hno
   obtain ⟨hnd,hnt,hs⟩:=hf;rw[Oper.semAt_eq (W ro).round a.eval o hnd];have hL:=hs _ _ (fun _ _=>rfl) (fun _ _=>rfl) E w a.eval hR (fun k a _=>hfr k a) hdp hev;refine zEC hL ?_
   rintro v w' ⟨E',hv',hstep,hfi⟩
   exact fin r.v r.upd top v w' E' hk hnt hv' hstep hfi
theorem seq_ok{C:Cx}{F0:SF}(hC:C.Ok){E0:Env}{F1:SF}{w0:World}{ds:List Deferred}{m base:Nat}{ro:Option Nat}{n:Nat}{ops:List Oper}{Q:Exit→Act→World→Prop}{K:SK}
  (hds:∀o∈ops,∀d,o.dst=some d→d<m)(hR0:HRel E0 F1 w0)(hDQ:∀st E a w,C.dies=true→C.dq st→st.t.length=m→base≤st.nx→StepR E0 F1 w0 E (look F0 st.H) w→TRelF w (Zn E (look F0 st.H) w) E (TF st.t) m a.tmps→a.defers=ds→(∀n,E0 n=none→E n≠none→n.l=C.L∧base≤n.i∧n.i<st.nx)→Q (.panic C.ch) a w)(hfr:∀k,base≤k→E0 ⟨C.L,k⟩=none)(hdp:∀n:Nm,C.L<n.l→E0 n=none)(hy:InvY C.ys E0 F1 w0)
  (hQ:∀t H nx E a w,K t H nx→t.length=m→base≤nx→StepR E0 F1 w0 E (look F0 H) w→TRelF w (Zn E (look F0 H) w) E (TF t) m a.tmps→a.defers=ds→(∀n,E0 n=none→E n≠none→n.l=C.L∧base≤n.i∧n.i<nx)→Q .normal a w):
  ∀(l:List Oper) (i:Nat) (t:List (Option PV)) (H:List (Nm×SBlk)) (nx:Nat),ops.drop i=l→i≤ops.length→t.length=m→base≤nx→zDT C F0 ops l t H nx K→∀(E:Env) (a:Act) (w:World),StepR E0 F1 w0 E (look F0 H) w→TRelF w (Zn E (look F0 H) w) E (TF t) m a.tmps→a.defers=ds→
   (∀n,E0 n=none→E n≠none→n.l=C.L∧base≤n.i∧n.i<nx)→wpOpsIn (W ro) n C.P ops.toArray Q ((List.range ops.length).drop i) a w:=by
 intro l;induction l with
 | nil=>
  intro i t H nx hd hi hm hb h E a w hS hT hdf hn;have hlen:i=ops.length:=by
   have:=List.drop_eq_nil_iff.1 hd;omega
  subst hlen;rw[uD (by simp)];exact hQ t H nx E a w h hm hb hS hT hdf hn
 | cons o l ih=>
  intro i t H nx hd hi hm hb h E a w hS hT hdf hn;have hlt:i<ops.length:=by
   rcases wT i ops.length with h|h;·exact h
   ·rw[uD h]at hd;cases hd
  have hoi:ops[i]?=some o:=by
   have:=vX (xs:=ops) (i:=i) (j:=0);rw[hd]at this;simpa using this.symm
  have hdr:(List.range ops.length).drop i=i::(List.range ops.length).drop (i+1):=by
   rw[List.drop_eq_getElem_cons (by simpa using hlt)];simp
  have hd':ops.drop (i+1)=l:=by
   have:=List.drop_eq_getElem_cons hlt;rw[hd]at this;injection this with _ h2;exact h2.symm
  rw [hdr];simp only[wpOpsIn,wR,hoi];have hdo:∀d,o.dst=some d→d<m:=hds o (zO hoi);have run:(∀j want,o.guard=some (j,want)→zAq ops (TF t) j=some (.bool want))→zI1 C F0 o t H nx (fun t H nx=>zDT C F0 ops l t H nx K)→
    (if Region.wanted o (yielded ops.toArray a.tmps)=true then o.wpIn (W ro) n C.P a w (wpOpsIn (W ro) n C.P ops.toArray Q ((List.range ops.length).drop (i+1))) Q
     else (∀f,o.about C.P w a.eval=some f→(W ro).fn f)∧wpOpsIn (W ro) n C.P ops.toArray Q ((List.range ops.length).drop (i+1)) (a.put o.dst undef) w):=by
   intro hg hop;have hw:Region.wanted o (yielded ops.toArray a.tmps)=true:=by
    cases hgd:o.guard with
    |none=>simp[Region.wanted,hgd]
    |some jw=>
     obtain ⟨j,want⟩:=jw;rw[zBu hT hgd (hg j want hgd)];simp
   rw[if_pos hw];refine ⟨fun _ _=>trivial,?_⟩;refine zMT hC hop hS.rel (by rw[hm];exact hT) (fun k hk=>?_) (fun q hq=>?_) (hy.step hR0 hS) (by rw[hm];exact hdo) (fun st' E' w' e1 e2 e3 e4 e5 e6 e7=>?_) ?_
   ·cases he:E ⟨C.L,k⟩ with
    |none=>rfl
    |some x=>have:=(hn ⟨C.L,k⟩ (hfr k (by omega)) (by rw[he];simp)).2.2;simp only at this;omega
   ·cases he:E q with
    |none=>rfl
    |some x=>have:=(hn q (hdp q hq) (by rw[he];simp)).1;omega
   ·refine hDQ st' E' a w' e1 e2 (by rw[e3];exact hm) (by omega) (hS.trans e5) (by rw[e3,←hm];exact e6) hdf fun q h1 h2=>?_
    cases he:E q with
    |none=>exact absurd (e7 q he) h2
    |some x=>have:=hn q h1 (by rw[he];simp);exact ⟨this.1,this.2.1,by omega⟩
   ·intro t' H' nx' E' v w' e1 e2 e3 e4 e5 e6;refine ih (i+1) t' H' nx' hd' (by omega) (by rw[e1];exact hm) (by omega) e2 E' _ w' (hS.trans e4) (by rw[hm]at e5;exact e5) (by cases hdd:o.dst<;>simp[Act.put,hdf]) ?_;intro q h1 h2;cases he:E q with
    |none=>have:=e6 q he h2;exact ⟨this.1,by omega,this.2.2⟩
    |some x=>have:=hn q h1 (by rw[he];simp);exact ⟨this.1,this.2.1,by omega⟩
  have skip:∀j want,o.guard=some (j,want)→Off (zAq ops (TF t) j) want→zDT C F0 ops l (zCR t o.dst zAN) H nx K→
    (if Region.wanted o (yielded ops.toArray a.tmps)=true then o.wpIn (W ro) n C.P a w (wpOpsIn (W ro) n C.P ops.toArray Q ((List.range ops.length).drop (i+1))) Q
     else (∀f,o.about C.P w a.eval=some f→(W ro).fn f)∧wpOpsIn (W ro) n C.P ops.toArray Q ((List.range ops.length).drop (i+1)) (a.put o.dst undef) w):=by
   intro j want hg hoff hk;rw[zFb hT hg hoff];simp only[wC,if_false];refine ⟨fun _ _=>trivial,ih (i+1) _ H nx hd' (by omega) (by rw[zAr];exact hm) hb hk E _ w hS ?_ (by cases hdd:o.dst<;>simp[Act.put,hdf]) hn⟩;have e:=zDd (t:=t) (o:=o) (r:=none) (by rw[hm];exact hdo);simp only at e;rw[e];exact hT.putR (r:=none) zBr hdo
  have hgv:∀j,zAq ops (TF t) j=zBG ops t j:=fun j=>rfl
  simp only[zDT]at h;split at h
  ·rename_i hg;exact run (fun j want he=>by rw[hg]at he;cases he) h
  ·rename_i j want hg;split at h
   ·rename_i g hb';by_cases hgw:g=want
    ·subst hgw;have h1:=h.1 rfl;rw[zCN hb']at h1;exact run (fun j' want' he=>by rw[hg]at he;injection he with he;injection he with e1 e2;subst e1;subst e2;rw[hgv];exact hb') h1
    ·have hgn:g= !want:=by cases g<;>cases want<;>first|rfl|exact absurd rfl hgw
     have h1:=h.2 hgn;subst hgn;rw[zCN hb']at h1;exact skip j want hg (.inl (by rw[hgv];exact hb')) h1
   ·rename_i hb';exact skip j want hg (.inr (by rw[hgv];exact hb')) h
   ·exact h.elim
theorem zAk{P:Program}{w:World}{f:FuncId}{fn:Func}{args:Array Value}(h1:P.funcs[f]?=some fn)(h2:fn.body.isNone=false)(h3:(fn.name== "runtime.NumGoroutine")=false):(callFunc f args).run P w= .ok (.enter f args) w:=by
 simp[callFunc,program,Sem.run,h1];rw[if_neg (by simpa using h3)];simp only[Option.isNone_eq_false_iff]at h2;obtain ⟨b,hb⟩:=Option.isSome_iff_exists.1 h2;simp[hb]
def ICon(P:Program)(ys:List YRec)(f:FuncId)(args:List PV)(F:SF)(L nx top:Nat)(v:PV)(upd:List (Nm×SBlk))(rd:List Nm):Prop:=
 nx≤top∧∀(F2:SF),(∀n∈rd,F2 n=F n)→∀(E:Env) (w:World) (args':List Value),HRel E F2 w→(∀k,nx≤k→k<top→E ⟨L,k⟩=none)→(∀n:Nm,L<n.l→E n=none)→
  VRl w (Zn E F2 w) E args args'→InvY ys E F2 w→zES P (zBH E F2 w L nx top v upd) ((callFunc f args'.toArray).run P w)
def IDCon(P:Program)(ys:List YRec)(ch:List PanicEntry)(f:FuncId)(args:List PV)(F:SF)(L:Nat)(upd:List (Nm×SBlk))(rd:List Nm):Prop:=
 ∀(F2:SF),(∀n∈rd,F2 n=F n)→∀(E:Env) (w:World) (args':List Value),HRel E F2 w→(∀n:Nm,L<n.l→E n=none)→
  VRl w (Zn E F2 w) E args args'→InvY ys E F2 w→Dies P ch (DGives E F2 w upd) ((callFunc f args'.toArray).run P w)
theorem IDCon.con{P:Program}{ch:List PanicEntry}{f:FuncId}{args:List PV}{F:SF}{L:Nat}{upd:List (Nm×SBlk)}{rd:List Nm}(h:IDCon P [] ch f args F L upd rd):DCon P ch f args F L upd rd:=
 fun F2 h2 E w args' hR hdp hargs=>h F2 h2 E w args' hR hdp hargs InvY.nil
end Go.Tx
end
section
namespace Go.Tx
open Go.Sx (zAB)
section
variable {P : Program} {E0 : Env} {F0 : SF} {w0 : World}
def KF(P:Program)(ch:List PanicEntry)(ops:List Oper)(lev:Nat)(f:Nat→Option PV)(F:SF)(ez:Nat)(rs:List (Option Res))(ls:List Nat)(d:Nat)(du:List (Nm×SBlk))(j:Nat)(o:Oper)(r:Option Res):Prop:=
 (j=d∧∃r',r=some r'∧zLX P ch (zDi (zA4 (fun n=>decide (n<j)) 0 (twL ops rs) f)) (zA4 (fun n=>decide (n<j)) 0 (rs.map hw) F) lev o du r'.rd∧
   ∀q want,o.guard=some (q,want)→zAq ops (zA4 (fun n=>decide (n<j)) 0 (twL ops rs) f) q=some (.bool want))∨
 (j ≠d∧(ord ops d j=true∨
  match r with
  | some r=>OpFact P (zDi (zA4 (fun n=>decide (n<j)) 0 (twL ops rs) f)) (zA4 (fun n=>decide (n<j)) 0 (rs.map hw) F) lev (lo ls ez j) (lo ls ez (j+1)) o r∧
    ∀q want,o.guard=some (q,want)→zAq ops (zA4 (fun n=>decide (n<j)) 0 (twL ops rs) f) q=some (.bool want)
  |none=>∃q want,o.guard=some (q,want)∧Off (zAq ops (zA4 (fun n=>decide (n<j)) 0 (twL ops rs) f) q) want))
theorem zLa{ops:List Oper}{lev ez m:Nat}{ds:List Deferred}{ro:Option Nat}{n:Nat}{Q:Exit→Act→World→Prop}{t0:Nat→Option PV}{H0:SF}{rs:List (Option Res)}{ls:List Nat}
  {ch:List PanicEntry}{d:Nat}{du:List (Nm×SBlk)}(hlen:ops.length=rs.length)(hls:ls.length=ops.length)(hmon:∀i,lo ls ez i≤lo ls ez (i+1))(hat:∀(j:Nat) (o:Oper) (r:Option Res),ops[j]?=some o→rs[j]?=some r→KF P ch ops lev t0 H0 ez rs ls d du j o r)(hst:zA7 ops m=true)(hdy:DynOk ops rs){L L':Nat→Bool}{E:Env}{a:Act}{w:World}{j:Nat}{o:Oper}
  (hInv:DInv E0 F0 w0 lev ls ez m ds ops rs t0 H0 L E a w)(hcl:∀q k,L q=true→zC1 ops q k→L k=true)(hpre:∀k,zC1 ops j k→L k=true)(hoj:ops[j]?=some o)(hLj:L j=false)(hLd:L d=false)
  (hL'j:L' j=true)(hL':∀i,i≠j→L' i=L i){K:Act→World→Prop}(hK:j≠d→∀E' a' w',DInv E0 F0 w0 lev ls ez m ds ops rs t0 H0 L' E' a' w'→K a' w')
  (hDie:∀E' w',StepR E (zA4 L 0 (rs.map hw) H0) w E' (SF.upd (zA4 L 0 (rs.map hw) H0) du) w'→(∀n,E n=none→E' n=none)→Q (.panic ch) a w'):
  wpOpIn (W ro) n P ops.toArray Q j K a w:=by
 obtain ⟨s1,s2,s3⟩:=zBF hst;have hez:lo ls ez ops.length=ez:=by simp[lo,←hls]
 have hjz:lo ls ez (j+1)≤ez:=by have:=zCQ hmon (show j+1≤ops.length from zAB hoj);rw[hez]at this;exact this
 have hjl:=zAB hoj;obtain ⟨r,hrj⟩:∃r,rs[j]?=some r:=⟨_,zS (by omega)⟩;have hd:∀x,o.dst=some x→x<m:=s2 o (zO hoj);have hordj:∀i,ord ops i j=true→L i=true:=zEB s1 hcl j hpre;have hordq:∀q i,L q=true→ord ops i q=true→L i=true:=fun q i hq=>zEB s1 hcl q (fun k hk=>hcl q k hq hk) i
 have hun1:∀q,j<q→L q=true→zET ops q j=true:=by
  intro q hq hL;have h1:ord ops q j=false:=by
   cases h:ord ops q j with
   |false=>rfl
   |true=>have:=zKg s1 j q h;omega
  have h2:ord ops j q=false:=by
   cases h:ord ops j q with
   |false=>rfl
   |true=>have:=hordq q j hL h;rw[hLj]at this;cases this
  simp[zET,h1,h2];omega
 have hun2:∀q,q<j→L q=false→zET ops q j=true:=by
  intro q hq hL;have h1:ord ops j q=false:=by
   cases h:ord ops j q with
   |false=>rfl
   |true=>have:=zKg s1 q j h;omega
  have h2:ord ops q j=false:=by
   cases h:ord ops q j with
   |false=>rfl
   |true=>have:=hordj q h;rw[hL]at this;cases this
  simp[zET,h1,h2];omega
 have hslot:∀k,k∈looks ops o→zA4 L 0 (twL ops rs) t0 k=zA4 (fun q=>decide (q<j)) 0 (twL ops rs) t0 k:=by
  intro k hk;refine zBZ _ rfl ?_;intro q x hx hkx;simp only[zP];obtain ⟨oq,rq,h1,h2,rfl⟩:=zFd hx;have hdq:=zFe hkx;rcases uZ q j with hq|hq|hq
  ·have:L q=true:=by
    cases h:L q with
    |true=>rfl
    |false=>exact (s3 q j oq o h1 hoj (hun2 q hq h) k hdq hk).elim
   simp[this,hq]
  ·subst hq;simp[hLj]
  ·have:L q=false:=by
    cases h:L q with
    |false=>rfl
    |true=>exact (s3 q j oq o h1 hoj (hun1 q hq h) k hdq hk).elim
   simp[this];omega
 have hname:∀k:Nm,k∈zIF r→zA4 L 0 (rs.map hw) H0 k=zA4 (fun q=>decide (q<j)) 0 (rs.map hw) H0 k:=by
  intro k hk;refine zBZ _ rfl ?_;intro q x hx hkx;simp only[zP];rw[wE]at hx;cases hrq:rs[q]? with
  |none=>rw[hrq]at hx;cases hx
  | some rq=>
   rw[hrq]at hx;simp only[wJ,zZ]at hx;subst hx;rcases uZ q j with hq|hq|hq
   ·have:L q=true:=by
     cases h:L q with
     |true=>rfl
     |false=>exact (zFc hdy hrq hrj (hun2 q hq h) hkx (.inl hk)).elim
    simp[this,hq]
   ·subst hq;simp[hLj]
   ·have:L q=false:=by
     cases h:L q with
     |false=>rfl
     |true=>exact (zFc hdy hrq hrj (hun1 q hq h) hkx (.inl hk)).elim
    simp[this];omega
 have hinsT:zA4 L' 0 (twL ops rs) t0=zAX (zA4 L 0 (twL ops rs) t0) (tw o r):=by
  refine zDR (zIG hoj hrj) hL'j hL' ?_;intro q y hq hy hLq k hk hky;obtain ⟨oq,rq,h1,_,rfl⟩:=zFd hy;exact s3 q j oq o h1 hoj (hun1 q hq hLq) k (zFe hky) (by simp[looks,zFe hk])
 have hinsH:zA4 L' 0 (rs.map hw) H0=zAX (zA4 L 0 (rs.map hw) H0) (hw r):=by
  refine zDR (by simp[hrj]) hL'j hL' ?_;intro q y hq hy hLq k hk hky;rw[wE]at hy;cases hrq:rs[q]? with
  |none=>rw[hrq]at hy;cases hy
  |some rq=>
   rw[hrq]at hy;simp only[wJ,zZ]at hy;subst hy;exact zFc hdy hrq hrj (hun1 q hq hLq) hky (.inr hk)
 have hguard:∀q want,o.guard=some (q,want)→zAq ops (zA4 L 0 (twL ops rs) t0) q=zAq ops (zA4 (fun q=>decide (q<j)) 0 (twL ops rs) t0) q:=by
  intro q want hg;unfold zAq;cases hoq:ops[q]? with
  |none=>rfl
  | some oq=>
   simp only;cases hdq:oq.dst with
   |none=>rfl
   |some d=>
    simp only;exact hslot d (by simp[looks,hg,hoq,hdq])
 have hfr:∀k,lo ls ez j≤k→k<lo ls ez (j+1)→E ⟨lev,k⟩=none:=by
  intro k h1 h2;cases hek:E ⟨lev,k⟩ with
  |none=>rfl
  | some x=>
   obtain ⟨i,hi,h3,h4⟩:=hInv.fresh k (vP (zCQ hmon (uM j)) h1) (by omega) (by rw[hek];simp);have:i=j:=by
    rcases uZ i j with hl|hl|hl;·have:=zCQ hmon (show i+1≤j from hl);omega
    ·exact hl
    ·have:=zCQ hmon (show j+1≤i from hl);omega
   subst this;rw[hLj]at hi;cases hi
 have hdef:∀v,(a.put o.dst v).defers=ds:=by intro v;cases hdd:o.dst<;>simp[Act.put,hInv.defers]
 have hfresh':∀E':Env,(∀n,E n=none→E' n≠none→n.l=lev∧lo ls ez j≤n.i∧n.i<lo ls ez (j+1))→∀k,lo ls ez 0≤k→k<ez→E' ⟨lev,k⟩≠none→∃i,L' i=true∧lo ls ez i≤k∧k<lo ls ez (i+1):=by
  intro E' hF k hk hkz hne;cases hek:E ⟨lev,k⟩ with
  |none=>
   obtain ⟨_,h1,h2⟩:=hF ⟨lev,k⟩ hek hne;exact ⟨j,hL'j,h1,h2⟩
  |some x=>
   obtain ⟨i,hi,h3⟩:=hInv.fresh k hk hkz (by rw[hek];simp);refine ⟨i,?_,h3⟩;by_cases hij:i=j;·rw[hij];exact hL'j
   ·rw[hL' i hij];exact hi
 have hnews':∀E':Env,(∀n,E n=none→E' n≠none→n.l=lev∧lo ls ez j≤n.i∧n.i<lo ls ez (j+1))→∀n,E0 n=none→E' n≠none→n.l=lev∧lo ls ez 0≤n.i∧n.i<ez:=by
  intro E' hF k hk hne;cases hek:E k with
  |none=>
   obtain ⟨h0,h1,h2⟩:=hF k hek hne;have:=zCQ hmon (uM j);exact ⟨h0,by omega,by omega⟩
  |some x=>exact hInv.news k hk (by rw[hek];simp)
 have hdeep':∀E':Env,(∀n,E n=none→E' n≠none→n.l=lev∧lo ls ez j≤n.i∧n.i<lo ls ez (j+1))→∀n:Nm,lev<n.l→E' n=none:=by
  intro E' hF n hn;cases he:E' n with
  |none=>rfl
  |some x=>have:=(hF n (hInv.deep n hn) (by rw[he];simp)).1;omega
 unfold wpOpIn;rw[wR,hoj];simp only;have hj:=hat j o r hoj hrj;rcases hj with ⟨rfl,r,rfl,⟨hnd,hs⟩,hg⟩|⟨hjd,hj⟩
 ·-- it dies
  have hw':Region.wanted o (yielded ops.toArray a.tmps)=true:=by
   cases hgd:o.guard with
   |none=>simp[Region.wanted,hgd]
   |some jw=>
    obtain ⟨q,want⟩:=jw;rw[zBu hInv.tmps hgd (by rw[hguard q want hgd];exact hg q want hgd)];simp
  rw[if_pos hw'];refine ⟨fun _ _=>trivial,?_⟩;rw[Oper.semAt_eq (W ro).round a.eval o hnd];have hL:=hs (zDi (zA4 L 0 (twL ops rs) t0)) (zA4 L 0 (rs.map hw) H0) (fun x hx=>by
    cases x with
    |tmp i=>exact hslot i (by simp only[looks,zKf,vS,List.mem_filterMap];exact .inl (.inr ⟨.tmp i,hx,rfl⟩))
    |_=>rfl) (fun k hk=>hname k hk) E w a.eval hInv.step.rel hInv.deep hInv.tmps.eval
  refine zIz hL ?_
  rintro w' ⟨E',q1,q2⟩
  exact hDie E' w' q1 q2
 rcases hj with hj|hj;·have:=hordj d hj;rw[hLd]at this;cases this
 cases r with
 | some r=>
  simp only at hj;obtain ⟨⟨hnd,_,hs⟩,hg⟩:=hj;have hw':Region.wanted o (yielded ops.toArray a.tmps)=true:=by
   cases hgd:o.guard with
   |none=>simp[Region.wanted,hgd]
   |some jw=>
    obtain ⟨q,want⟩:=jw;rw[zBu hInv.tmps hgd (by rw[hguard q want hgd];exact hg q want hgd)];simp
  rw[if_pos hw'];refine ⟨fun _ _=>trivial,?_⟩;rw[Oper.semAt_eq (W ro).round a.eval o hnd];have hL:=hs (zDi (zA4 L 0 (twL ops rs) t0)) (zA4 L 0 (rs.map hw) H0) (fun x hx=>by
    cases x with
    |tmp i=>exact hslot i (by simp only[looks,zKf,vS,List.mem_filterMap];exact .inl (.inr ⟨.tmp i,hx,rfl⟩))
    |_=>rfl) (fun k hk=>hname k hk) E w a.eval hInv.step.rel hfr hInv.deep hInv.tmps.eval
  refine zEC hL ?_
  rintro v w' ⟨E',hv',hstep,hfi⟩
  rw[zA6]at hstep hv';refine hK hjd E' _ w' ⟨?_,?_,hdef v,hfresh' E' hfi,hnews' E' hfi,hdeep' E' hfi⟩;·rw[hinsH];exact hInv.step.trans hstep
  ·rw[hinsT,hinsH];exact (hInv.tmps.mono hstep.ext).putR (r:=some r) hv' hd
 | none=>
  simp only at hj;obtain ⟨q,want,hg,hb⟩:=hj;have hw':Region.wanted o (yielded ops.toArray a.tmps)=false:=by
   exact zFb hInv.tmps hg (by rw[hguard q want hg];exact hb)
  rw[hw'];simp only[wC,if_false];refine ⟨fun _ _=>trivial,hK hjd E _ w ⟨?_,?_,hdef undef,hfresh' E (fun k h1 h2=>absurd h1 h2),hInv.news,hInv.deep⟩⟩;·rw[hinsH];exact hInv.step
  ·rw[hinsT,hinsH];exact hInv.tmps.putR (r:=none) zBr hd
theorem zOK{ops:List Oper}{lev ez m:Nat}{ds:List Deferred}{ro:Option Nat}{n:Nat}{Q:Exit→Act→World→Prop}{t0:Nat→Option PV}{H0:SF}{rs:List (Option Res)}{ls:List Nat}
  {ch:List PanicEntry}{d:Nat}{du:List (Nm×SBlk)}(hdl:d<ops.length)(hlen:ops.length=rs.length)(hls:ls.length=ops.length)(hmon:∀i,lo ls ez i≤lo ls ez (i+1))(hat:∀(j:Nat) (o:Oper) (r:Option Res),ops[j]?=some o→rs[j]?=some r→KF P ch ops lev t0 H0 ez rs ls d du j o r)(hst:zA7 ops m=true)(hdy:DynOk ops rs)
  (hDie:∀(L:Nat→Bool) E a w E' w',DInv E0 F0 w0 lev ls ez m ds ops rs t0 H0 L E a w→StepR E (zA4 L 0 (rs.map hw) H0) w E' (SF.upd (zA4 L 0 (rs.map hw) H0) du) w'→(∀n,E n=none→E' n=none)→Q (.panic ch) a w'):
  ∀(fuel:Nat) (listed:Array Bool) (E:Env) (a:Act) (w:World),listed.size=ops.length→(List.range ops.length).countP (fun i=>!listed.getD i false)≤fuel→
   (∀q k,listed.getD q false=true→zC1 ops q k→listed.getD k false=true)→listed.getD d false=false→DInv E0 F0 w0 lev ls ez m ds ops rs t0 H0 (fun i=>listed.getD i false) E a w→
   wpAnyIn (W ro) n P .any ops.toArray Q fuel listed a w:=by
 obtain ⟨s1,s2,_⟩:=zBF hst;have hlt:∀(listed:Array Bool),listed.size=ops.length→∀i,listed.getD i false=true→i<ops.length:=by
  intro listed hs i hi;rcases wT i listed.size with h|h;·omega
  ·simp[Array.getD,Nat.not_lt.2 h]at hi
 have hready:∀(listed:Array Bool),listed.size=ops.length→Region.ready .any ops.toArray listed=[]→∀i,i<ops.length→listed.getD i false=true:=by
  intro listed hs hr i;induction i using Nat.strongRecOn with
  | _ i ih=>
   intro hi;cases hli:listed.getD i false with
   |true=>rfl
   | false=>
    exfalso;have:i∈Region.ready .any ops.toArray listed:=by
     rw[mem_ready];have ho:ops[i]?=some ops[i]:=zS hi;refine ⟨?_,ops[i],by simp[ho],?_⟩
     ·simp only[Array.getD]at hli ⊢;rw[dif_pos (by omega)]at hli ⊢;exact hli
     ·intro e he hb;have hd:zC1 ops i e.on:=⟨ops[i],ho,e,by simpa using he,hb,rfl⟩;have:=zCE s1 hd;exact ih e.on this (by omega)
    rw[hr]at this;cases this
 intro fuel;induction fuel with
 | zero=>
  intro listed E a w hs hc hcl hnd hI;have hall:∀i,i<ops.length→listed.getD i false=true:=by
   intro i hi;cases hli:listed.getD i false with
   |true=>rfl
   |false=>
    have:0<(List.range ops.length).countP (fun i=>!listed.getD i false):=List.countP_pos_iff.2 ⟨i,by simpa using hi,by simp[hli]⟩;omega
  exact absurd (hall d hdl) (by rw[hnd];simp)
 | succ fuel ih=>
  intro listed E a w hs hc hcl hnd hI;refine ⟨fun hr=>absurd (hready listed hs hr d hdl) (by rw[hnd];simp),?_⟩;intro j hj;rw[mem_ready]at hj;obtain ⟨h1,o,h2,h3⟩:=hj;rw[wR]at h2;have hjl:=zAB h2;have hLj:listed.getD j false=false:=by
   simp only[Array.getD]at h1 ⊢;rw[dif_pos (by omega)]at h1 ⊢;exact h1
  have hL'j:(listed.setIfInBounds j true).getD j false=true:=by
   simp only[Array.getD];rw[dif_pos (by simp;omega)];simp
  have hL':∀i,i≠j→(listed.setIfInBounds j true).getD i false=listed.getD i false:=fun i hi=>getD_set_ne false (fun e=>hi e.symm)
  have hpre:∀k,zC1 ops j k→listed.getD k false=true:=by
   rintro k ⟨o',ho',e,he,hb,rfl⟩
   rw[h2]at ho';injection ho' with ho';subst ho';exact h3 e (by simpa using he) hb
  refine zLa hlen hls hmon hat hst hdy (L:=fun i=>listed.getD i false) (L':=fun i=>(listed.setIfInBounds j true).getD i false) hI hcl hpre h2 hLj hnd hL'j hL' ?_ (fun E' w' q1 q2=>hDie _ E a w E' w' hI q1 q2);intro hjd E' a' w' hI';refine ih _ E' a' w' (by simpa using hs) ?_ ?_ (by rw[hL' d (fun e=>hjd e.symm)];exact hnd) hI'
  ·have:=zGs (p:=fun i=>!listed.getD i false) (p':=fun i=>!(listed.setIfInBounds j true).getD i false) (l:=List.range ops.length) (fun x _ hx=>by
    by_cases hxj:x=j;·subst hxj;simp[hL'j]at hx
    ·simpa[hL' x hxj] using hx) (j:=j) (by simpa using hjl) (by simp[hLj]) (by simp[hL'j])
   omega
  ·intro q k hq hd;by_cases hqj:q=j
   ·subst hqj;have:=hpre k hd;by_cases hk:k=q;·rw[hk];exact hL'j
    ·rw[hL' k hk];exact this
   ·rw[hL' q hqj]at hq;by_cases hk:k=j;·rw[hk];exact hL'j
    ·rw[hL' k hk];exact hcl q k hq hd
end
end Go.Tx
end
section
namespace Go.Tx
open Go.Sx (zAB)
def zRM(P:Program)(ch:List PanicEntry)(f:FuncId)(asx:List PV)(F:SF)(L:Nat)(K:List (Nm×SBlk)→List Nm→Prop):Prop:=
 ∃args2 upd rd,WkL F asx args2∧DCon P ch f args2 (F.upd (unown F (zAt asx args2))) L upd rd∧K (unown F (zAt asx args2)++upd) (zAt asx args2++rd)
def zOL(C:Cx)(F0:SF)(o:Oper)(t:List (Option PV))(H:List (Nm×SBlk))(K:List (Nm×SBlk)→List Nm→Prop):Prop:=
 match o.op with
 | .call ⟨.value fo,args,_⟩=>
  match zAu t fo,vals (zAu t) args.toList with
  |some (.fn (.func f) xs ys),some asx=>zRM C.P C.ch f (xs++asx++ys) (look F0 H) C.L K
  |_,_=>False
 |_=>False
def zGN(ops:List Oper)(t:List (Option PV)):Option (Nat×Bool)→Prop
 |none=>True
 |some (j,want)=>zBG ops t j=some (.bool want)
abbrev DK:=List (Nm×SBlk)→RK
def zBo(C:Cx)(F0:SF)(ops:List Oper)(d:Nat)(nv:List Nat):List Oper→Nat→List (Option PV)→List (Nm×SBlk)→Nat→FPs→DK→Prop
 | [],_,t,H,nx,fps,K=>K [] t H nx fps
 | o ::l,i,t,H,nx,fps,K=>
  if i=d then zGN ops t o.guard∧zOL C F0 o t H (fun upd rd=>zBo C F0 ops d nv l (i+1) (zCR t o.dst zAN) H nx (fps++[(rd,[])]) (fun _=>K upd))
  else if nv.contains i=true then zBo C F0 ops d nv l (i+1) (zCR t o.dst zAN) H nx (fps++[([],[])]) K
  else match o.guard with
  |none=>zIJ C.calm F0 o t H nx fps (fun t H nx fps=>zBo C F0 ops d nv l (i+1) t H nx fps K)
  | some (j,want)=>
   match zBG ops t j with
   | some (.bool g)=>
    brB g want (zIJ C.calm F0 o (zJz ops t j want) H nx fps (fun t H nx fps=>zBo C F0 ops d nv l (i+1) t H nx fps K))
     (zBo C F0 ops d nv l (i+1) (zCR (zJz ops t j (!want)) o.dst zAN) H nx (fps++[([],[])]) K)
   |some (.tup [])=>zBo C F0 ops d nv l (i+1) (zCR t o.dst zAN) H nx (fps++[([],[])]) K
   |_=>False
inductive TrD (P:Program) (ch:List PanicEntry) (ops:List Oper) (L d:Nat) (du:List (Nm×SBlk)):List Oper→Nat→(Nat→Option PV)→SF→Nat→List (Option Res)→List Nat→Nat→Prop
 |nil (i:Nat) (f:Nat→Option PV) (F:SF) (nx:Nat):TrD P ch ops L d du [] i f F nx [] [] nx
 | run {o:Oper} {l:List Oper} {i:Nat} {f:Nat→Option PV} {F:SF} {nx top nz:Nat} {r:Res} {rs:List (Option Res)} {ls:List Nat} (hi:i≠d)
   (hg:∀j want,o.guard=some (j,want)→zAq ops f j=some (.bool want)) (hf:OpFact P (zDi f) F L nx top o r)
   (h:TrD P ch ops L d du l (i+1) (zAX f (tw o (some r))) (F.upd r.upd) top rs ls nz):TrD P ch ops L d du (o::l) i f F nx (some r::rs) (nx::ls) nz
 | skip {o:Oper} {l:List Oper} {i:Nat} {f:Nat→Option PV} {F:SF} {nx nz:Nat} {rs:List (Option Res)} {ls:List Nat} {j:Nat} {want:Bool} (hi:i≠d)
   (hg:o.guard=some (j,want)) (hb:Off (zAq ops f j) want)
   (h:TrD P ch ops L d du l (i+1) (zAX f (tw o none)) F nx rs ls nz):TrD P ch ops L d du (o::l) i f F nx (none::rs) (nx::ls) nz
 | never {o:Oper} {l:List Oper} {i:Nat} {f:Nat→Option PV} {F:SF} {nx nz:Nat} {rs:List (Option Res)} {ls:List Nat} (hi:i≠d) (hn:ord ops d i=true)
   (h:TrD P ch ops L d du l (i+1) (zAX f (tw o none)) F nx rs ls nz):TrD P ch ops L d du (o::l) i f F nx (none::rs) (nx::ls) nz
 | die {o:Oper} {l:List Oper} {i:Nat} {f:Nat→Option PV} {F:SF} {nx nz:Nat} {rs:List (Option Res)} {ls:List Nat} {rd:List Nm} (hi:i=d)
   (hg:∀j want,o.guard=some (j,want)→zAq ops f j=some (.bool want)) (hf:zLX P ch (zDi f) F L o du rd)
   (h:TrD P ch ops L d du l (i+1) (zAX f (tw o (some ⟨True,zAN,[],rd⟩))) F nx rs ls nz):TrD P ch ops L d du (o::l) i f F nx (some ⟨True,zAN,[],rd⟩::rs) (nx::ls) nz
section
variable {P : Program} {ch : List PanicEntry} {ops : List Oper} {L d : Nat} {du : List (Nm × SBlk)}
theorem zPQ:∀{l:List Oper} {i:Nat} {f:Nat→Option PV} {F:SF} {nx nz:Nat} {rs:List (Option Res)} {ls:List Nat},TrD P ch ops L d du l i f F nx rs ls nz→
  ls.length=l.length∧lo ls nz 0=nx∧∀i,lo ls nz i≤lo ls nz (i+1):=by
 intro l i f F nx nz rs ls h;have cons:∀{l:List Oper} {o:Oper} {ls:List Nat} {nx top nz:Nat},nx≤top→(ls.length=l.length∧lo ls nz 0=top∧∀i,lo ls nz i≤lo ls nz (i+1))→((nx::ls).length=(o::l).length∧lo (nx::ls) nz 0=nx∧∀i,lo (nx::ls) nz i≤lo (nx::ls) nz (i+1)):=by
  intro l o ls nx top nz hle ⟨h1,h2,h3⟩;refine ⟨by simp[h1],rfl,fun i=>?_⟩;cases i with
  |zero=>simp only[lo,qT,uF]at *;rw[h2];exact hle
  |succ i=>simpa only[lo,uF] using h3 i
 induction h with
 |nil i f F nx=>exact ⟨rfl,rfl,fun i=>by simp[lo]⟩
 |run hi hg hf h ih=>exact cons hf.2.1 ih
 |skip hi hg hb h ih=>exact cons (zH _) ih
 |never hi hn h ih=>exact cons (zH _) ih
 |die hi hg hf h ih=>exact cons (zH _) ih
theorem zRN:∀{l:List Oper} {i:Nat} {f:Nat→Option PV} {F:SF} {nx nz:Nat} {rs:List (Option Res)} {ls:List Nat},TrD P ch ops L d du l i f F nx rs ls nz→
  l.length=rs.length∧∀(j:Nat) (o:Oper) (r:Option Res),l[j]?=some o→rs[j]?=some r→
   (i+j=d∧∃r',r=some r'∧zLX P ch (zDi (zA4 (fun n=>decide (n<i+j)) i (twL l rs) f)) (zA4 (fun n=>decide (n<i+j)) i (rs.map hw) F) L o du r'.rd∧
     ∀q want,o.guard=some (q,want)→zAq ops (zA4 (fun n=>decide (n<i+j)) i (twL l rs) f) q=some (.bool want))∨
   (i +j≠d∧(ord ops d (i+j)=true∨
    match r with
    | some r=>OpFact P (zDi (zA4 (fun n=>decide (n<i+j)) i (twL l rs) f)) (zA4 (fun n=>decide (n<i+j)) i (rs.map hw) F) L (lo ls nz j) (lo ls nz (j+1)) o r∧
      ∀q want,o.guard=some (q,want)→zAq ops (zA4 (fun n=>decide (n<i+j)) i (twL l rs) f) q=some (.bool want)
    |none=>∃q want,o.guard=some (q,want)∧Off (zAq ops (zA4 (fun n=>decide (n<i+j)) i (twL l rs) f) q) want)):=by
 intro l i f F nx nz rs ls hTr;induction hTr with
 |nil i f F nx=>exact ⟨rfl,by intro j o r h;cases h⟩
 | @run o l i f F nx top nz r rs ls hi hg hf htr ih=>
  obtain ⟨h1,h5⟩:=ih;have hlo:=(zPQ htr).2.1;refine ⟨by simp[h1],?_⟩;intro j o' r' ho' hr';cases j with
  |zero=>
   simp at ho' hr';subst ho';subst hr';simp only[wH,zEn];refine .inr ⟨hi,.inr ⟨?_,fun q want hq=>hg q want hq⟩⟩;have e0:lo (nx::ls) nz 0=nx:=rfl;have e1:lo (nx::ls) nz (0+1)=top:=hlo;rw[e0,e1];exact hf
  |succ j=>
   have:=h5 j o' r' (by simpa using ho') (by simpa using hr');simp only[twL,zL,zCb];rw[zA6]at this;rw[show i+(j+1)=i+1+j by omega];exact this
 | @skip o l i f F nx nz rs ls q0 want0 hi hg hb htr ih=>
  obtain ⟨h1,h5⟩:=ih;refine ⟨by simp[h1],?_⟩;intro j o' r' ho' hr';cases j with
  |zero=>
   simp at ho' hr';subst ho';subst hr';simp only[wH,zEn];exact .inr ⟨hi,.inr ⟨q0,want0,hg,hb⟩⟩
  |succ j=>
   have:=h5 j o' r' (by simpa using ho') (by simpa using hr');simp only[twL,zL,zCb];rw[show i+(j+1)=i+1+j by omega];exact this
 | @never o l i f F nx nz rs ls hi hn htr ih=>
  obtain ⟨h1,h5⟩:=ih;refine ⟨by simp[h1],?_⟩;intro j o' r' ho' hr';cases j with
  |zero=>exact .inr ⟨hi,.inl hn⟩
  |succ j=>
   have:=h5 j o' r' (by simpa using ho') (by simpa using hr');simp only[twL,zL,zCb];rw[show i+(j+1)=i+1+j by omega];exact this
 | @die o l i f F nx nz rs ls rd hi hg hf htr ih=>
  obtain ⟨h1,h5⟩:=ih;refine ⟨by simp[h1],?_⟩;intro j o' r' ho' hr';cases j with
  |zero=>
   simp at ho' hr';subst ho';subst hr';simp only[wH,zEn];exact .inl ⟨hi,_,rfl,hf,fun q want hq=>hg q want hq⟩
  |succ j=>
   have:=h5 j o' r' (by simpa using ho') (by simpa using hr');simp only[twL,zL,zCb];rw[show i+(j+1)=i+1+j by omega];exact this
end
section
variable {C : Cx} {F0 : SF} {ops : List Oper} {m d : Nat} {nv : List Nat}
theorem zE8{t:List (Option PV)}{o:Oper}(h:∀x,o.dst=some x→x<t.length):TF (zCR t o.dst zAN)=zAX (TF t) (tw o none):=by
 have e:=zDd (t:=t) (o:=o) (r:=none) h;simp only at e;exact e
theorem zLb(hC:C.Ok)(hd:∀o∈ops,∀d,o.dst=some d→d<m)(hnv:∀i,nv.contains i=true→ord ops d i=true){du:List (Nm×SBlk)}{o:Oper}{l:List Oper}{i:Nat}{t:List (Option PV)}{H:List (Nm×SBlk)}{nx:Nat}{fps:FPs}{K:DK}{R:FPs→Prop}
  (ho:o∈ops)(hm:t.length=m)(hi:i≠d)(h:zBo C F0 ops d nv (o::l) i t H nx fps K)
  (ih:∀t H nx fps,t.length=m→zBo C F0 ops d nv l (i+1) t H nx fps K→∃rs ls nz,TrD C.P C.ch ops C.L d du l (i+1) (TF t) (look F0 H) nx rs ls nz∧R (fps++rs.map zDE)):
  ∃rs ls nz,TrD C.P C.ch ops C.L d du (o::l) i (TF t) (look F0 H) nx rs ls nz∧R (fps++rs.map zDE):=by
 have hdo:∀x,o.dst=some x→x<t.length:=by rw[hm];exact hd o ho
 have run:(∀j want,o.guard=some (j,want)→zAq ops (TF t) j=some (.bool want))→zIJ C.calm F0 o t H nx fps (fun t H nx fps=>zBo C F0 ops d nv l (i+1) t H nx fps K)→
   ∃rs ls nz,TrD C.P C.ch ops C.L d du (o::l) i (TF t) (look F0 H) nx rs ls nz∧R (fps++rs.map zDE):=by
  intro hg hop;obtain ⟨r,top,h1,h2⟩:=zIK hC hop;obtain ⟨rs,ls,nz,h3,h4⟩:=ih _ _ _ _ (by rw[zAr];exact hm) h2;rw[zBw]at h1;refine ⟨some r::rs,nx::ls,nz,.run hi hg h1 ?_,?_⟩
  ·have e:=zDd (t:=t) (o:=o) (r:=some r) hdo
   simp only at e;rw[←e,←zAP];exact h3
  ·simpa[zDE,zIF,hw] using h4
 have skip:∀j want,o.guard=some (j,want)→Off (zAq ops (TF t) j) want→zBo C F0 ops d nv l (i+1) (zCR t o.dst zAN) H nx (fps++[([],[])]) K→
   ∃rs ls nz,TrD C.P C.ch ops C.L d du (o::l) i (TF t) (look F0 H) nx rs ls nz∧R (fps++rs.map zDE):=by
  intro j want hg hoff hk;obtain ⟨rs,ls,nz,h3,h4⟩:=ih _ _ _ _ (by rw[zAr];exact hm) hk;refine ⟨none::rs,nx::ls,nz,.skip hi hg hoff ?_,?_⟩;·rw[←zE8 hdo];exact h3
  ·simpa[zDE,zIF,hw,keys] using h4
 have hgv:∀j,zAq ops (TF t) j=zBG ops t j:=fun j=>rfl
 simp only[zBo]at h;rw[if_neg hi]at h;split at h
 ·rename_i hn;obtain ⟨rs,ls,nz,h3,h4⟩:=ih _ _ _ _ (by rw[zAr];exact hm) h;refine ⟨none::rs,nx::ls,nz,.never hi (hnv _ hn) ?_,?_⟩;·rw[←zE8 hdo];exact h3
  ·simpa[zDE,zIF,hw,keys] using h4
 split at h
 ·rename_i hg;exact run (fun j want he=>by rw[hg]at he;cases he) h
 ·rename_i j want hg;split at h
  ·rename_i g hb;by_cases hgw:g=want
   ·subst hgw;have h1:=h.1 rfl;rw[zCN hb]at h1;refine run (fun j' want' he=>?_) h1;rw[hg]at he;simp only[zZ,wL]at he;obtain ⟨rfl,rfl⟩:=he;rw[hgv];exact hb
   ·have hgn:g= !want:=by cases g<;>cases want<;>simp_all
    have h1:=h.2 hgn;subst hgn;rw[zCN hb]at h1;exact skip j want hg (.inl (by rw[hgv];exact hb)) h1
  ·rename_i hb;exact skip j want hg (.inr (by rw[hgv];exact hb)) h
  ·exact h.elim
theorem zGw(hC:C.Ok)(hd:∀o∈ops,∀d,o.dst=some d→d<m)(hnv:∀i,nv.contains i=true→ord ops d i=true)(du:List (Nm×SBlk)){R:FPs→Prop}:∀(l:List Oper) (i:Nat) (t:List (Option PV)) (H:List (Nm×SBlk)) (nx:Nat) (fps:FPs),(∀o∈l,o∈ops)→d<i→t.length=m→
  zBo C F0 ops d nv l i t H nx fps (fun _ _ _ _ fps=>R fps)→∃rs ls nz,TrD C.P C.ch ops C.L d du l i (TF t) (look F0 H) nx rs ls nz∧R (fps++rs.map zDE)
 | [],i,t,H,nx,fps,_,_,_,h=>⟨[],[],nx,.nil _ _ _ _,by simpa[zBo] using h⟩
 |o::l,i,t,H,nx,fps,hsub,hi,hm,h=>
  zLb hC hd hnv (hsub o (by simp)) hm (by omega) h fun t H nx fps hm h=>zGw hC hd hnv du l (i+1) t H nx fps (fun o ho=>hsub o (by simp[ho])) (by omega) hm h
theorem zCj(hC:C.Ok)(hd:∀o∈ops,∀d,o.dst=some d→d<m)(hnv:∀i,nv.contains i=true→ord ops d i=true){R:List (Nm×SBlk)→FPs→Prop}:∀(l:List Oper) (i:Nat) (t:List (Option PV)) (H:List (Nm×SBlk)) (nx:Nat) (fps:FPs),(∀o∈l,o∈ops)→i≤d→d<i+l.length→t.length=m→
  zBo C F0 ops d nv l i t H nx fps (fun du _ _ _ fps=>R du fps)→∃du rs ls nz,TrD C.P C.ch ops C.L d du l i (TF t) (look F0 H) nx rs ls nz∧R du (fps++rs.map zDE)
 | [],i,t,H,nx,fps,_,h1,h2,_,h=>absurd h2 (by simp;omega)
 | o ::l,i,t,H,nx,fps,hsub,h1,h2,hm,h=>by
  have hdo:∀x,o.dst=some x→x<t.length:=by rw[hm];exact hd o (hsub o (by simp))
  by_cases hi:i=d
  ·simp only[zBo]at h;rw[if_pos hi]at h;obtain ⟨hg,h⟩:=h;have hgm:∀j want,o.guard=some (j,want)→zAq ops (TF t) j=some (.bool want):=by
    intro j want he;rw[he]at hg;exact hg
   unfold zOL at h;split at h
   ·rename_i fo args ats hop;split at h
    ·rename_i f xs ys asx hv has;obtain ⟨args2,upd,rd,hw1,hc,hk⟩:=h;have hf:=zHk (zCi hop hv has) hw1 hc;rw[zBw]at hf;obtain ⟨rs,ls,nz,h3,h4⟩:=zGw hC hd hnv (unown (look F0 H) (zAt (xs++asx++ys) args2)++upd) (R:=R (unown (look F0 H) (zAt (xs++asx++ys) args2)++upd)) l (i+1) _ H nx _ (fun o ho=>hsub o (by simp[ho])) (by omega) (by rw[zAr];exact hm) hk;refine ⟨_,some ⟨True,zAN,[],zAt (xs++asx++ys) args2++rd⟩::rs,nx::ls,nz,.die hi hgm hf ?_,?_⟩
     ·have e:=zDd (t:=t) (o:=o) (r:=some ⟨True,zAN,[],zAt (xs++asx++ys) args2++rd⟩) hdo
      simp only at e;rw[←e];exact h3
     ·simpa[zDE,zIF,hw,keys] using h4
    ·exact h.elim
   ·exact h.elim
  ·-- ahead of it
   have:∀(R:List (Nm×SBlk)→FPs→Prop),zBo C F0 ops d nv (o::l) i t H nx fps (fun du _ _ _ fps=>R du fps)→∃du rs ls nz,TrD C.P C.ch ops C.L d du (o::l) i (TF t) (look F0 H) nx rs ls nz∧R du (fps++rs.map zDE):=by
    intro R h;have run:(∀j want,o.guard=some (j,want)→zAq ops (TF t) j=some (.bool want))→zIJ C.calm F0 o t H nx fps (fun t H nx fps=>zBo C F0 ops d nv l (i+1) t H nx fps (fun du _ _ _ fps=>R du fps))→
      ∃du rs ls nz,TrD C.P C.ch ops C.L d du (o::l) i (TF t) (look F0 H) nx rs ls nz∧R du (fps++rs.map zDE):=by
     intro hg hop;obtain ⟨r,top,h1',h2'⟩:=zIK hC hop;obtain ⟨du,rs,ls,nz,h3,h4⟩:=zCj hC hd hnv l (i+1) _ _ _ _ (fun o ho=>hsub o (by simp[ho])) (by omega) (by simp at h2;omega) (by rw[zAr];exact hm) h2';rw[zBw]at h1';refine ⟨du,some r::rs,nx::ls,nz,.run hi hg h1' ?_,?_⟩
     ·have e:=zDd (t:=t) (o:=o) (r:=some r) hdo
      simp only at e;rw[←e,←zAP];exact h3
     ·simpa[zDE,zIF,hw] using h4
    have skip:∀j want,o.guard=some (j,want)→Off (zAq ops (TF t) j) want→zBo C F0 ops d nv l (i+1) (zCR t o.dst zAN) H nx (fps++[([],[])]) (fun du _ _ _ fps=>R du fps)→
      ∃du rs ls nz,TrD C.P C.ch ops C.L d du (o::l) i (TF t) (look F0 H) nx rs ls nz∧R du (fps++rs.map zDE):=by
     intro j want hg hoff hk;obtain ⟨du,rs,ls,nz,h3,h4⟩:=zCj hC hd hnv l (i+1) _ _ _ _ (fun o ho=>hsub o (by simp[ho])) (by omega) (by simp at h2;omega) (by rw[zAr];exact hm) hk;refine ⟨du,none::rs,nx::ls,nz,.skip hi hg hoff ?_,?_⟩;·rw[←zE8 hdo];exact h3
     ·simpa[zDE,zIF,hw,keys] using h4
    have hgv:∀j,zAq ops (TF t) j=zBG ops t j:=fun j=>rfl
    simp only[zBo]at h;rw[if_neg hi]at h;split at h
    ·rename_i hn;obtain ⟨du,rs,ls,nz,h3,h4⟩:=zCj hC hd hnv l (i+1) _ _ _ _ (fun o ho=>hsub o (by simp[ho])) (by omega) (by simp at h2;omega) (by rw[zAr];exact hm) h;refine ⟨du,none::rs,nx::ls,nz,.never hi (hnv _ hn) ?_,?_⟩;·rw[←zE8 hdo];exact h3
     ·simpa[zDE,zIF,hw,keys] using h4
    split at h
    ·rename_i hg;exact run (fun j want he=>by rw[hg]at he;cases he) h
    ·rename_i j want hg;split at h
     ·rename_i g hb;by_cases hgw:g=want
      ·subst hgw;have h1:=h.1 rfl;rw[zCN hb]at h1;refine run (fun j' want' he=>?_) h1;rw[hg]at he;simp only[zZ,wL]at he;obtain ⟨rfl,rfl⟩:=he;rw[hgv];exact hb
      ·have hgn:g= !want:=by cases g<;>cases want<;>simp_all
       have h1:=h.2 hgn;subst hgn;rw[zCN hb]at h1;exact skip j want hg (.inl (by rw[hgv];exact hb)) h1
     ·rename_i hb;exact skip j want hg (.inr (by rw[hgv];exact hb)) h
     ·exact h.elim
   exact this R h
end
def sel(S:Nat→Bool):Nat→List (Option Res)→List (Nm×SBlk)
 |_,[]=>[]
 |i,r::l=>(if S i=true then hw r else [])++sel S (i+1) l
theorem zDU{κ α:Type}[DecidableEq κ]:∀(l l':List (κ×α)) (f:κ→Option α),zAX f (l++l')=zAX (zAX f l) l'
 | [],_,_=>rfl
 |(n,v)::l,l',f=>zDU l l' _
theorem zKk(S:Nat→Bool):∀(rs:List (Option Res)) (i:Nat) (F:SF),F.upd (sel S i rs)=zA4 S i (rs.map hw) F
 | [],_,_=>rfl
 |r::l,i,F=>by
  rw[zA6];simp only[sel,zL,zA4,zDU];rw[←zKk S l (i+1),zA6];split<;>rfl
theorem zKl{S:Nat→Bool}{n:Nm}:∀{rs:List (Option Res)} {i:Nat},n∈keys (sel S i rs)→∃r∈rs,n∈keys (hw r)
 | [],_,h=>by cases h
 | r::l,i,h=>by
  simp only[sel,keys,wQ,vS]at h;rcases h with h|h
  ·split at h;·exact ⟨r,by simp,h⟩
   ·cases h
  ·obtain ⟨r',h1,h2⟩:=zKl h;exact ⟨r',by simp[h1],h2⟩
def zGy(C:Cx)(m:Nat)(H:List (Nm×SBlk))(W:List Nm)(nx:Nat):Prop:=
 ∀H',(∀n∈keys H',n∈W)→C.dq ⟨List.replicate m none,zAl H H',nx⟩
end Go.Tx
end
section
namespace Go.Tx
open Go.Sx (zAB)
def zGz(C:Cx)(F0:SF)(i0 j0:Nat):List Oper→Nat→List (Option PV)→List (Nm×SBlk)→List (Nm×SBlk)→Nat→FPs→RK→Prop
 | [],_,t,H,_,nx,fps,K=>K t H nx fps
 | o::l,i,t,H,Hs,nx,fps,K=>
  match o.guard with
  |some _=>False
  | none=>
   if i=j0 then
    match zCy C.T C.wr (zAu t) (look F0 H) ⟨C.L,nx⟩ o.op,zCy C.T C.wr (zAu t) (look F0 Hs) ⟨C.L,nx⟩ o.op with
    |some r,some r'=>r.vc∧r'.vc∧r'.v=r.v∧r.upd=[]∧r'.upd=[]∧r'.rd=r.rd∧zGz C F0 i0 j0 l (i+1) (zCR t o.dst r.v) H Hs (nx+32) (fps++[(r.rd,[])]) K
    |_,_=>False
   else zIJ C.calm F0 o t H nx fps (fun t H' nx fps=>zGz C F0 i0 j0 l (i+1) t H' (if i=i0 then H else Hs) nx fps K)
section
variable {C : Cx} {F0 : SF}
theorem zIM(hC:C.Ok){ops:List Oper}{i0 j0 m:Nat}(hij:i0<j0){K:RK}(hd:∀o∈ops,∀d,o.dst=some d→d<m):∀(l:List Oper) (i:Nat) (t:List (Option PV)) (H Hs:List (Nm×SBlk)) (nx:Nat) (fps:FPs),(∀o∈l,o∈ops)→t.length=m→zGz C F0 i0 j0 l i t H Hs nx fps K→
  ∃ rs ls t' H' nx',Tr C.P ops C.L m l (TF t) (look F0 H) nx rs ls (TF t') (look F0 H') nx'∧t'.length=m∧K t' H' nx' (fps++rs.map zDE)∧
   ∀(k:Nat) (o:Oper) (r:Res),i+k=j0→l[k]?=some o→rs[k]?=some (some r)→
    OpFact C.P (zDi (zA4 (fun q=>decide (q<i+k)) i (twL l rs) (TF t))) (if i0<i then look F0 Hs else zA4 (fun q=>decide (q<i0)) i (rs.map hw) (look F0 H)) C.L (lo ls nx' k) (lo ls nx' (k+1)) o r
 | [],i,t,H,Hs,nx,fps,_,hm,h=>⟨[],[],t,H,nx,.nil _ _ _,hm,by simpa[zGz] using h,fun k o r _ ho=>by cases ho⟩
 | o ::l,i,t,H,Hs,nx,fps,hsub,hm,h=>by
  have hdo:∀x,o.dst=some x→x<m:=hd o (hsub o (by simp));have hsub':∀o∈l,o∈ops:=fun x hx=>hsub x (by simp[hx])
  simp only[zGz]at h;split at h;·exact h.elim
  rename_i hgd;have hg:∀j want,o.guard=some (j,want)→zAq ops (TF t) j=some (.bool want):=fun j want he=>by rw[hgd]at he;cases he
  split at h
  ·rename_i hi;split at h;rotate_left;·exact h.elim
   rename_i r r' hr hr';obtain ⟨v1,v2,e1,e2,e3,e4,h⟩:=h;obtain ⟨rs,ls,t',H',nx',h3,h4,h5,_⟩:=zIM hC hij hd l (i+1) _ H Hs _ _ hsub' (by rw[zAr];exact hm) h;have f1:=zFZ hC.T hC.A hr v1;have f2:=zFZ hC.T hC.A hr' v2;rw[zBw]at f1 f2;have er:r'=⟨r'.vc,r.v,r.upd,r.rd⟩:=by cases r;cases r';simp_all
   have f3:OpFact C.P (zDi (TF t)) (look F0 Hs) C.L nx (nx+32) o r:=by
    rw[er]at f2;exact f2
   refine ⟨some r::rs,nx::ls,t',H',nx',.run hg f1 ?_,h4,?_,?_⟩
   ·have e:=zDd (t:=t) (o:=o) (r:=some r) (by rw[hm];exact hdo);simp only at e;rw[←e,e2];exact h3
   ·simpa[zDE,zIF,hw,e2,keys] using h5
   ·intro k o' r2 hk ho' hr2;have:k=0:=by omega
    subst this;simp at ho' hr2;subst ho';subst hr2;have hlo:=(zJv h3).2.1;have e0:lo (nx::ls) nx' 0=nx:=rfl;have e1:lo (nx::ls) nx' (0+1)=nx+32:=hlo;rw[if_pos (by omega),e0,e1,wH,zEn];exact f3
  ·rename_i hi;obtain ⟨r,top,f1,h⟩:=zIK hC h;obtain ⟨rs,ls,t',H',nx',h3,h4,h5,h6⟩:=zIM hC hij hd l (i+1) _ _ _ _ _ hsub' (by rw[zAr];exact hm) h;rw[zBw]at f1;refine ⟨some r::rs,nx::ls,t',H',nx',.run hg f1 ?_,h4,?_,?_⟩
   ·have e:=zDd (t:=t) (o:=o) (r:=some r) (by rw[hm];exact hdo);simp only at e;rw[←e,←zAP];exact h3
   ·simpa[zDE,zIF,hw] using h5
   ·intro k o' r2 hk ho' hr2;cases k with
    |zero=>exact absurd hk hi
    | succ k=>
     have h7:=h6 k o' r2 (by omega) (by simpa using ho') (by simpa using hr2);have e:=zDd (t:=t) (o:=o) (r:=some r) (by rw[hm];exact hdo);simp only at e;rw[e]at h7;simp only[twL,zL,zCb];have e9:lo (nx::ls) nx' (k+1)=lo ls nx' k:=rfl;have e10:lo (nx::ls) nx' (k+1+1)=lo ls nx' (k+1):=rfl;rw[e9,e10];have:(if i0<i then look F0 Hs else zA4 (fun q=>decide (q<i0)) i (hw (some r)::rs.map hw) (look F0 H))=(if i0<i+1 then look F0 (if i=i0 then H else Hs) else zA4 (fun q=>decide (q<i0)) (i+1) (rs.map hw) (look F0 (zAl H r.upd))):=by
      rcases uZ i0 i with hl|hl|hl;·rw[if_pos hl,if_pos (by omega),if_neg (by omega)]
      ·subst hl;rw[if_neg (by omega),if_pos (by omega),if_pos rfl];exact zEn
      ·rw[if_neg (by omega),if_neg (by omega)];simp only[zA4];rw[if_pos (by simpa using hl),zAP,zA6];rfl
     rw[this];exact h7
def zI2(ops:List Oper)(fps:FPs)(i0 j0:Nat):Bool:=
 decide (i0<j0)&&(fps.zipIdx.all fun x=>fps.zipIdx.all fun y=>!zET ops x.2 y.2||(zOE x.1.2 y.1.2&&((x.2==i0&&y.2==j0)||zOE x.1.2 y.1.1)))&&
 fps.zipIdx.all fun x=>!(decide (i0<x.2)&&decide (x.2<j0))||zOE x.1.2 (fps.getD j0 ([],[])).1
theorem zJ0{ops:List Oper}{rs:List (Option Res)}{i0 j0:Nat}(h:zI2 ops (rs.map zDE) i0 j0=true):zIy ops rs (some (i0,j0)):=by
 unfold zI2 at h;simp only[zC,decide_eq_true_eq]at h;obtain ⟨⟨h1,h2⟩,h3⟩:=h;rw[wK]at h2 h3;refine ⟨fun i j ri rj hi hj hu k hk=>?_,fun i1 j1 he=>?_⟩
 ·have h4:=h2 (zDE ri,i) (by rw[uL];simp[hi]);rw[wK]at h4;have h5:=h4 (zDE rj,j) (by rw[uL];simp[hj]);simp only[hu,zT,Bool.false_or,zC]at h5;refine ⟨fun hl=>?_,fun hl=>zC3 h5.1 (by simpa[zDE] using hk) (by simpa[zDE] using hl)⟩;rcases vV _ _ ▸h5.2 with h6|h6
  ·simp only[zC,beq_iff_eq]at h6;rw[h6.1,h6.2]
  ·exact (zC3 h6 (by simpa[zDE] using hk) (by simpa[zDE] using hl)).elim
 ·injection he with he;injection he with e1 e2;subst e1;subst e2;refine ⟨h1,fun q rq rj hq1 hq2 hrq hrj k hk hl=>?_⟩;have h4:=h3 (zDE rq,q) (by rw[uL];simp[hrq]);simp only[hq1,hq2,decide_true,uP,zT,Bool.false_or]at h4;refine zC3 h4 (by simpa[zDE] using hk) ?_;simpa[zDE,zE,hrj] using hl
end
end Go.Tx
end
