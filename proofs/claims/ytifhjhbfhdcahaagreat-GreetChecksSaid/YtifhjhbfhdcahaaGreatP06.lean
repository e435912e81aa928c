/- Lemmas for the walk: T9f, T12, T13a, T13b, T13c, U14. -/
import Derived.Test.YtifhjhbfhdcahaaGreatP05
set_option linter.all false
section
namespace Go.Tx
open Go.Sx (TK tk zBe cellsOf zAD zAB zAS zBM zB1)
def zDq(T:Tys)(F:SF)(t:TypeId)(n:Nm)(lo hi mx:Option PV):Option Res:=
 match T.get t with
 | some {k:=.array m e,..}=>
  match T.get e,F n,zAn hi m,lo,mx with
  |some ei,some (.rows e' wd own true [row]),some h,none,none=>
   if ei.size==1&&wd==m then some {vc:=0≤h∧h≤m∧m≤1000000,v:=.fs 1 ((row.map fun x=>[x]).take h.toNat),upd:=if own then [(n,.rows e' wd false true [row])] else [],rd:=[n]} else none
  |_,_,_,_,_=>none
 |_=>none
def zCa(T:Tys)(F:SF)(t:TypeId)(x:PV)(lo hi mx:Option PV):Option Res:=
 match x with
 | .ptr n 0 0=>zDq T F t n lo hi mx
 |x=>zCD T F t x lo hi mx
section
variable {P : Program} {T : Tys} {E : Env} {F F' : SF} {nx : Nm} {w : World} {r : Res}
theorem zU9{Z:Nat→Prop}{cs:Array Value}:∀{l:List PV} {o:Nat},VRc w Z E l o cs→VRr w Z E (l.map fun x=>[x]) o cs
 | [],_,_=>by simp[VRr]
 |x::l,o,h=>by
  simp only[VRc,VRr,zL,vC,wW]at h ⊢;exact ⟨⟨h.1,trivial⟩,zU9 h.2⟩
theorem zIw(hT:T.Ok P)(h:HRel E F w){t:TypeId}{n:Nm}{x':Value}{lo hi mx:Option PV}{lo' hi' mx':Option Value}(hs:zDq T F t n lo hi mx=some r)(hvc:r.vc)(hx:VR w (Zn E F w) E (.ptr n 0 0) x')
  (hlo:zJk lo lo')(hhi:zJk hi hi')(hmx0:mx=none→mx'=none):
  ∃v',(Instr.sliceAt t x' lo' hi' mx').run P w= .ok v' w∧Gives E F nx w r v' w:=by
 unfold zDq at hs;split at hs;rotate_left;·cases hs
 rename_i m e _ _ _ _ _ hti;split at hs;rotate_left;·cases hs
 rename_i ei e' wd own row hh hei hF hhh;split at hs;rotate_left;·cases hs
 rename_i hc;simp only[zC,beq_iff_eq]at hc;obtain ⟨hsz,rfl⟩:=hc;injection hs with hs;subst hs;obtain ⟨c1,c2,c3⟩:=hvc;obtain rfl:=hmx0 rfl;simp only[zJk]at hlo;subst hlo;obtain ⟨z,ht⟩:=hT _ _ hti;obtain ⟨d,hd,hk⟩:=ht.run_underlying w;obtain ⟨n',ee,rfl⟩:∃n' e',d= .array n' e':=by cases d<;>simp[tk]at hk ⊢
 simp only[tk,TK.array.injEq]at hk;obtain ⟨rfl,rfl⟩:=hk;obtain ⟨z2,ht2⟩:=hT _ _ hei;have hso:=ht2.run_sizeOf w;simp only[VR]at hx;obtain ⟨i,hie,hz,rfl⟩:=hx;have hR:=zAJ h hF hie hz;obtain ⟨cs,fz,b1,b2,b3,b4⟩:=hR.cells;have hle:=hR.le;have hcap:=hR.cap;have hlen:=hR.len row (by simp);have hwp:=hR.wd_pos;have ho:=hR.o0;have hb:=zAb (P:=P) (w:=w) (isS:=false) (len:=n') (cap:=n') (lo:=none) (hi:=hi) (lo':=none) (hi':=hi') (l:=0) (h:=hh) rfl hhh rfl hhi (by omega) c1 c2;have hF4:SLe (F.upd (if own then [(n,SBlk.rows e' n' false true [row])] else [])) F:=by
  cases own;·exact SLe.refl F
  ·intro m b hm;simp only[if_true,SF.upd,SF.set]at hm;split at hm
   ·rename_i he;subst he;injection hm with hm;subst hm;exact .inr (.inr (.inl ⟨_,_,_,_,hF,rfl⟩))
   ·exact .inr (.inl hm)
 have hS:=zUS h hF4;refine ⟨.slice (some ⟨i.b,i.o+(0*i.wd+0),none⟩) hh.toNat n',?_,E,?_,hS,FreshIn.refl _ _⟩
 ·simp only[Instr.sliceAt,zB,hd,zD,Instr.sureAddr,zI,hb,hso];simp[Sx.addr_add]
 ·simp only[VR];refine ⟨some ⟨i.b,i.o+(0*i.wd+0),none⟩,n',?_,?_,?_,by omega,?_,.inr ⟨i.b,i.o+(0*i.wd+0),cs,e',fz,rfl,?_,b1,?_⟩⟩;·simp[hlen];omega
  ·simp[hlen];omega
  ·simp only[maxLen];omega
  ·intro rw' hr;have:=vR hr;simp only[List.mem_map]at this;obtain ⟨x,_,rfl⟩:=this;rfl
  ·refine ⟨zBl b1,fun m c j hm ho2 hj hjz he=>?_⟩;by_cases hmn:m=n
   ·subst hmn;cases own with
    |false=>
     have h9:F m=some c:=hm;rw[hF]at h9;injection h9 with h9;subst h9;cases ho2
    |true=>
     simp only[if_true,SF.upd,SF.set]at hm;injection hm with hm;subst hm;cases ho2
   ·exact h.sep m n c _ j i (hF4.own hm ho2) hF hmn ho2 rfl hj hie hjz hz he
  ·have h5:VRr w (Zn E F w) Env.no [row] i.o cs:=b4;simp only[VRr,and_true]at h5;have h6:=zU9 h5;have h7:=VRr.drop (l:=0) (n:=hh.toNat) (wd:=1) (by intro r hr;simp only[List.mem_map]at hr;obtain ⟨x,_,rfl⟩:=hr;rfl) h6;simp only[uU,Nat.zero_mul,wH]at h7 ⊢;exact VRr.mono hS.ext.no _ _ _ h7
def zCx(T:Tys)(F:SF)(t xt:TypeId)(n:Nm)(l:Nat):Option Res:=
 match T.get t,T.get xt with
 |some {k:=.slice e,..},some {k:=.slice _,..}=>
  match T.get e,F n with
  |some ei,some (.rows _ _ _ _ rs)=>if ei.size==0 then none else some {vc:=l≤rs.length,v:=.sl n 0 l,upd:=[],rd:=[n]}
  |_,_=>none
 |_,_=>none
def zB9(T:Tys)(F:SF)(nx:Nm)(t xt:TypeId)(s x:PV):Option Res:=
 match s,x with
 | .sl n 0 l,.nilS=>zCx T F t xt n l
 |s,x=>zB8 T F nx t xt s x
theorem zH9(hT:T.Ok P)(h:HRel E F w){t xt ty:TypeId}{n:Nm}{l:Nat}{s' x':Value}(hs:zCx T F t xt n l=some r)(hvc:r.vc)(hds:VR w (Zn E F w) E (.sl n 0 l) s')(hdx:VR w (Zn E F w) E .nilS x'):
  ∃v' w',(Builtin.append_ #[t,xt] ty #[s',x']).run P w= .ok v' w'∧Gives E F nx w r v' w':=by
 unfold zCx at hs;split at hs;rotate_left;·cases hs
 rename_i e _ _ _ _ _ e2 _ _ _ _ _ hti hxi;split at hs;rotate_left;·cases hs
 rename_i ei e' wd own p rs hei hF;split at hs;·cases hs
 injection hs with hs;subst hs;simp only at hvc;obtain ⟨z0,ht0⟩:=hT _ _ hti;obtain ⟨d,hd,hk⟩:=ht0.sx.desc;obtain rfl:=zAS hk;obtain ⟨z1,ht1⟩:=hT _ _ hxi;obtain ⟨d1,hd1,hk1⟩:=ht1.sx.desc;obtain rfl:=zAS hk1;obtain ⟨z,ht⟩:=hT _ _ hei;obtain ⟨ix,hx,hx0,hx1,hx2⟩:=ht.sx.info;have hv0:=hds;simp only[VR]at hdx hds;subst hdx;obtain ⟨i,hi,hor⟩:=hds;have hlen:(Builtin.lenOf (.slice none 0 0)).run P w= .ok 0 w:=rfl;rcases hor with ⟨hz,hl0,rfl⟩|⟨hz,rfl⟩
 ·refine ⟨.slice i.za 0 0,w,?_,Gives.still h rfl hv0⟩;rw[zCP t xt ty e ix hd (.inl ⟨_,hd1⟩) hx i.za _ hlen rfl];cases i.za<;>rfl
 ·have hR:=zAJ h hF hi hz;have hle:=hR.le;refine ⟨.slice (some ⟨i.b,i.o+zJa i 0 l,none⟩) (l+0) (i.n-0),w,?_,Gives.still h rfl hv0⟩;exact run_append_room' t xt ty e ix hd (.inl ⟨_,hd1⟩) hx ⟨i.b,i.o+zJa i 0 l,none⟩ l (i.n-0) [] _ 0 hlen rfl (by omega) rfl
theorem zIA(hT:T.Ok P)(h:HRel E F w)(hE:E nx=none){t xt ty:TypeId}{s x:PV}{s' x':Value}{r:Res}(hs:zB9 T F nx t xt s x=some r)(hvc:r.vc)(hds:VR w (Zn E F w) E s s')(hdx:VR w (Zn E F w) E x x'):
  ∃v' w',(Builtin.append_ #[t,xt] ty #[s',x']).run P w= .ok v' w'∧Gives E F nx w r v' w':=by
 unfold zB9 at hs;split at hs;·exact zH9 hT h hs hvc hds hdx
 ·exact zH8 hT h hE hs hvc hds hdx
theorem zIx(hT:T.Ok P)(h:HRel E F w){t:TypeId}{x:PV}{x':Value}{lo hi mx:Option PV}{lo' hi' mx':Option Value}{r:Res}(hs:zCa T F t x lo hi mx=some r)(hvc:r.vc)(hx:VR w (Zn E F w) E x x')
  (hlo:zJk lo lo')(hhi:zJk hi hi')(hmx0:mx=none→mx'=none):
  ∃v',(Instr.sliceAt t x' lo' hi' mx').run P w= .ok v' w∧Gives E F nx w r v' w:=by
 unfold zCa at hs;split at hs;·exact zIw hT h hs hvc hx hlo hhi hmx0
 ·exact zGj hT h hs hvc hx hlo hhi hmx0
end
end Go.Tx
end
section
namespace Go.Tx
open Go.Sx (TK tk zBe cellsOf zAD zAB zAO zGJ)
def zEc(ρ:Operand→Option PV):Option Operand→Option (Option PV)
 |none=>some none
 |some o=>(ρ o).map some
def vals(ρ:Operand→Option PV):List Operand→Option (List PV)
 | []=>some []
 |x::l=>(ρ x).bind fun v=>(vals ρ l).map fun l'=>v::l'
def zEd(ρ:Operand→Option PV):List (Nat×Operand)→Option (List (Nat×PV))
 | []=>some []
 |x::l=>(ρ x.2).bind fun v=>(zEd ρ l).map fun l'=>(x.1,v)::l'
def zDr(T:Tys)(ρ:Operand→Option PV)(F:SF)(nx:Nm)(c:Call):Option Res:=
 match c.callee with
 | .builtin b=>
  match b,c.args.toList,c.argTypes.toList with
  | .len,[x],[t]=>(ρ x).bind (zEY T F t)
  | .append,[s,x],[t,xt]=>(ρ s).bind fun a=>(ρ x).bind fun b=>zB9 T F nx t xt a b
  | .min,[x,y],_=>(ρ x).bind fun a=>(ρ y).bind fun b=>zFu false a b
  | .max,[x,y],_=>(ρ x).bind fun a=>(ρ y).bind fun b=>zFu true a b
  | .unsafeSliceData,[x],_=>(ρ x).bind (zBV F)
  | .clear,[x],[t]=>(ρ x).bind (zDO T F t)
  | .copy,[s,x],[t,xt]=>(ρ s).bind fun a=>(ρ x).bind fun b=>zEm T F t xt a b
  | .unsafeString,[x,y],[t,_]=>(ρ x).bind fun a=>(ρ y).bind fun b=>zB6 T F t a b
  |_,_,_=>none
 |_=>none
def zCy(T:Tys)(wr:Bool)(ρ:Operand→Option PV)(F:SF)(nx:Nm):Op→Option Res
 | .move x=>(ρ x).map (zAH True)
 | .assign x=>(ρ x).map (zAH True)
 | .pick c a b=>(ρ c).bind fun c=>(ρ a).bind fun a=>(ρ b).bind fun b=>zEj c a b
 | .alloc t=>zCT T nx t
 | .box t x=>(ρ x).bind fun v=>zKW T nx t v
 | .build t parts=>(zEd ρ parts.toList).bind (zDK T t)
 | .buildSlice t len parts=>(zEd ρ parts.toList).bind (zBE T nx t len)
 | .load t a=>(ρ a).bind (zBq T F t)
 | .store t a x=>(ρ a).bind fun p=>(ρ x).bind fun v=>zCB T F t p v
 | .nilCheck x=>(ρ x).bind zDJ
 | .binOp op t x y _=>(ρ x).bind fun a=>(ρ y).bind fun b=>(zGc T wr op t a b).map fun q=>zAH q.1 q.2
 | .unOp op _ x=>(ρ x).bind (zJh wr op)
 | .convert src dst x=>(ρ x).bind (zE5 T F nx src dst)
 | .sliceToArrayPointer t x=>(ρ x).bind (zKb T t)
 | .makeInterface t x=>(ρ x).bind fun v=>match T.get t with|some {k:=.iface,..}=>none|some _=>some (zAH True (.ifc t v))|none=>none
 | .makeFunc fn first captured=>if zGJ fn=false then none else (vals ρ first.toList).bind fun a=>(vals ρ captured.toList).map fun b=>zAH True (.fn fn a b)
 | .makeSlice t l c=>(ρ l).bind fun l=>(ρ c).bind fun c=>zBT T nx t l c
 | .slice t x lo hi mx=>(ρ x).bind fun x=>(zEc ρ lo).bind fun lo=>(zEc ρ hi).bind fun hi=>(zEc ρ mx).bind fun mx=>zCa T F t x lo hi mx
 | .fieldAddr s x f=>(ρ x).bind fun x=>zDH T s x f
 | .indexAddr t x i=>(ρ x).bind fun x=>(ρ i).bind fun i=>zAy T F t x i
 | .index t x i=>(ρ x).bind fun x=>(ρ i).bind fun i=>zDI T t x i
 | .field t x f=>(ρ x).bind fun x=>zH5 T t x f
 | .extract x i=>(ρ x).bind fun x=>zB3 x i
 | .makeMap t none=>zB5 T nx t
 | .lookup t x i ok=>(ρ x).bind fun x=>(ρ i).bind fun i=>zCL T F t x i ok
 | .mapUpdate t m k v=>(ρ m).bind fun m=>(ρ k).bind fun k=>(ρ v).bind fun v=>zAz T F t m k v
 | .insert t m k v=>(ρ m).bind fun m=>(ρ k).bind fun k=>(ρ v).bind fun v=>zAz T F t m k v
 | .call c=>zDr T ρ F nx c
 |_=>none
section
variable {P : Program} {T : Tys} {E : Env} {F : SF} {nx : Nm} {w : World}
def zJp(w:World)(Z:Nat→Prop)(E:Env)(ρ:Operand→Option PV)(ρ':Operand→Value):Prop:=∀x v,ρ x=some v→VR w Z E v (ρ' x)
theorem zDQ{Z:Nat→Prop}{ρ:Operand→Option PV}{ρ':Operand→Value}(hρ:zJp w Z E ρ ρ'):∀{l:List Operand} {vs:List PV},vals ρ l=some vs→VRl w Z E vs (l.map ρ')
 | [],vs,h=>by simp[vals]at h;subst h;simp[VRl]
 |x::l,vs,h=>by
  simp only[vals,zM,zV]at h;obtain ⟨v,h1,l',h2,rfl⟩:=h;simp only[VRl,zL];exact ⟨_,_,rfl,hρ _ _ h1,zDQ hρ h2⟩
theorem zFX{Z:Nat→Prop}{ρ:Operand→Option PV}{ρ':Operand→Value}(hρ:zJp w Z E ρ ρ'):∀{l:List (Nat×Operand)} {vs:List (Nat×PV)},zEd ρ l=some vs→PRel w Z E vs (l.map fun x=>(x.1,ρ' x.2))
 | [],vs,h=>by simp[zEd]at h;subst h;exact .nil
 |x::l,vs,h=>by
  simp only[zEd,zM,zV]at h;obtain ⟨v,h1,l',h2,rfl⟩:=h;exact .cons (hρ _ _ h1) (zFX hρ h2)
theorem zFY{Z:Nat→Prop}{ρ:Operand→Option PV}{ρ':Operand→Value}(hρ:zJp w Z E ρ ρ'){o:Option Operand}{v:Option PV}(h:zEc ρ o=some v):zJk v (o.map ρ'):=by
 cases o with
 |none=>simp[zEc]at h;subst h;rfl
 |some x=>
  simp only[zEc,zV]at h;obtain ⟨u,h1,rfl⟩:=h;have:=hρ _ _ h1;cases u<;>first|trivial|(simp only[VR]at this;simp[zJk,this])
theorem zAY{K:Value→World→Prop}{s:Sem Value}{v':Value}{w':World}(hr:s.run P w= .ok v' w')(hk:K v' w'):zES P K ((do pure (.value (←s)):Sem Next).run P w):=by
 simp[hr,zES,Sx.zES,hk]
theorem zLT(hT:T.Ok P)(h:HRel E F w)(hE0:E nx=none){ρ:Operand→Option PV}{ρ':Operand→Value}(hρ:zJp w (Zn E F w) E ρ ρ'){c:Call}{ty:TypeId}{r:Res}
  (hs:zDr T ρ F nx c=some r)(hvc:r.vc):zES P (fun v' w'=>Gives E F nx w r v' w') ((do let d ←resolve ρ' c ty;invoke d.target d.args:Sem Next).run P w):=by
 obtain ⟨callee,⟨args⟩,⟨argTypes⟩⟩:=c;unfold zDr at hs;split at hs;rotate_left;·cases hs
 rename_i b hc;simp only at hc;subst hc;split at hs
 ·rename_i x t ha ht;simp only at ha ht;subst ha;subst ht;simp only[zM]at hs;obtain ⟨a,h1,h2⟩:=hs;obtain ⟨v',r1,r2⟩:=zIv (P:=P) (nx:=nx) (ty:=ty) hT h h2 (hρ _ _ h1);simp only[resolve,invoke,builtin,zB,zI,zD,uY,zL,wM,r1];exact r2
 ·rename_i s x t xt ha ht;simp only at ha ht;subst ha;subst ht;simp only[zM]at hs;obtain ⟨a,h1,b,h2,h3⟩:=hs;obtain ⟨v',w',r1,r2⟩:=zIA (ty:=ty) hT h hE0 h3 hvc (hρ _ _ h1) (hρ _ _ h2);simp only[resolve,invoke,builtin,zB,zI,zD,uY,zL,wM,r1];exact r2
 ·rename_i x y ha;simp only at ha;subst ha;simp only[zM]at hs;obtain ⟨a,h1,b,h2,h3⟩:=hs;obtain ⟨v',r1,r2⟩:=zGk (P:=P) (nx:=nx) (ty:=ty) (ts:=argTypes.toArray) h h3 (hρ _ _ h1) (hρ _ _ h2);simp only[wC,if_false]at r1;simp only[resolve,invoke,builtin,zB,zI,zD,uY,zL,wM,r1];exact r2
 ·rename_i x y ha;simp only at ha;subst ha;simp only[zM]at hs;obtain ⟨a,h1,b,h2,h3⟩:=hs;obtain ⟨v',r1,r2⟩:=zGk (P:=P) (nx:=nx) (ty:=ty) (ts:=argTypes.toArray) h h3 (hρ _ _ h1) (hρ _ _ h2);simp only[if_true]at r1;simp only[resolve,invoke,builtin,zB,zI,zD,uY,zL,wM,r1];exact r2
 ·rename_i x ha;simp only at ha;subst ha;simp only[zM]at hs;obtain ⟨a,h1,h2⟩:=hs;obtain ⟨v',r1,r2⟩:=zGn (P:=P) (nx:=nx) (ty:=ty) (ts:=argTypes.toArray) h h2 hvc (hρ _ _ h1);simp only[resolve,invoke,builtin,zB,zI,zD,uY,zL,wM,r1];exact r2
 ·rename_i x t ha ht;simp only at ha ht;subst ha;subst ht;simp only[zM]at hs;obtain ⟨a,h1,h2⟩:=hs;obtain ⟨v',w',r1,r2⟩:=zJn (P:=P) (nx:=nx) (ty:=ty) hT h h2 hvc (hρ _ _ h1);simp only[resolve,invoke,builtin,zB,zI,zD,uY,zL,wM,r1];exact r2
 ·rename_i s x t xt ha ht;simp only at ha ht;subst ha;subst ht;simp only[zM]at hs;obtain ⟨a,h1,b,h2,h3⟩:=hs;obtain ⟨v',w',r1,r2⟩:=zLR (P:=P) (nx:=nx) (ty:=ty) hT h h3 hvc (hρ _ _ h1) (hρ _ _ h2);simp only[resolve,invoke,builtin,zB,zI,zD,uY,zL,wM,r1];exact r2
 ·rename_i x y t t2 ha ht;simp only at ha ht;subst ha;subst ht;simp only[zM]at hs;obtain ⟨a,h1,b,h2,h3⟩:=hs;obtain ⟨v',w',r1,r2⟩:=zH6 (P:=P) (nx:=nx) (it:=t2) (ty:=ty) hT h h3 hvc (hρ _ _ h1) (hρ _ _ h2);simp only[resolve,invoke,builtin,zB,zI,zD,uY,zL,wM,r1];exact r2
 ·cases hs
set_option maxHeartbeats 400000 in
theorem zN9(hT:T.Ok P)(hA:zDp T)(h:HRel E F w)(hE0:E nx=none){wr:Bool}{ρ:Operand→Option PV}{ρ':Operand→Value}(hρ:zJp w (Zn E F w) E ρ ρ'){o:Oper}{r:Res}
  (hs:zCy T wr ρ F nx o.op=some r)(hvc:r.vc):zES P (fun v' w'=>Gives E F nx w r v' w') ((execOp ρ' o).run P w):=by
 unfold execOp;cases ho:o.op<;>rw[ho]at hs<;>simp only[zCy]at hs<;>try (cases hs;done)
 case move x=>
  simp only[zV]at hs;obtain ⟨v,h1,rfl⟩:=hs;exact Gives.still h rfl (hρ _ _ h1)
 case assign x=>
  simp only[zV]at hs;obtain ⟨v,h1,rfl⟩:=hs;exact Gives.still h rfl (hρ _ _ h1)
 case pick c a b=>
  simp only[zM]at hs;obtain ⟨vc,h1,va,h2,vb,h3,h4⟩:=hs;obtain ⟨v',r1,r2⟩:=zHe (P:=P) (nx:=nx) h h4 hvc (hρ _ _ h1) (hρ _ _ h2) (hρ _ _ h3);have:(do pure (.value (if ←asBool (ρ' c) then ρ' a else ρ' b)):Sem Next).run P w= .ok (.value v') w:=by
   simp only[zB,zI]at r1 ⊢;cases hb:(asBool (ρ' c)).run P w with
   |ok b w2=>rw[hb]at r1;simp only[zD]at r1 ⊢;injection r1 with r1 r3;subst r1;subst r3;rfl
   |halt x w2=>rw[hb]at r1;cases r1
  simp only[this];exact r2
 case alloc t=>
  obtain ⟨v',w',r1,r2⟩:=zGa hT h hE0 hs;exact zAY r1 r2
 case box t x=>
  simp only[zM]at hs;obtain ⟨v,h1,h2⟩:=hs;obtain ⟨v',w',r1,r2⟩:=zIt (P:=P) h hE0 h2 hvc (hρ _ _ h1);exact zAY r1 r2
 case build t parts=>
  simp only[zM]at hs;obtain ⟨ps,h1,h2⟩:=hs;obtain ⟨v',r1,r2⟩:=zGh (nx:=nx) hT hA h h2 hvc (zFX hρ h1);have hparts:(parts.map fun(i,x)=>(i,ρ' x))=(parts.toList.map fun x=>(x.1,ρ' x.2)).toArray:=by apply vG;simp
  simp only[hparts,zB,r1,zD,zI];exact r2
 case buildSlice t len parts=>
  simp only[zM]at hs;obtain ⟨ps,h1,h2⟩:=hs;obtain ⟨v',w',r1,r2⟩:=zDb hT h hE0 h2 hvc (zFX hρ h1);have hparts:(parts.map fun(i,x)=>(i,ρ' x))=(parts.toList.map fun x=>(x.1,ρ' x.2)).toArray:=by apply vG;simp
  simp only[hparts,zB,r1,zD,zI];exact r2
 case load t a=>
  simp only[zM]at hs;obtain ⟨v,h1,h2⟩:=hs;obtain ⟨v',r1,r2⟩:=zHc (nx:=nx) hT h h2 hvc (hρ _ _ h1);exact zAY r1 r2
 case store t a x=>
  simp only[zM]at hs;obtain ⟨p,h1,v,h2,h3⟩:=hs;obtain ⟨w',r1,r2⟩:=zGZ (nx:=nx) hT h h3 hvc (hρ _ _ h1) (hρ _ _ h2);simp only[zB,r1,zD,zI];exact r2
 case makeMap t hint=>
  cases hint with
  |none=>
   obtain ⟨v',w',r1,r2⟩:=zE4 (P:=P) h hE0 hs;simp only[Option.map_none];exact zAY r1 r2
  |some x=>cases hs
 case lookup t x i ok=>
  simp only[zM]at hs;obtain ⟨a,h1,b,h2,h3⟩:=hs;obtain ⟨v',r1,r2⟩:=zF0 (P:=P) (nx:=nx) hT h h3 hvc (hρ _ _ h1) (hρ _ _ h2);exact zAY r1 r2
 case mapUpdate t m k x=>
  simp only[zM]at hs;obtain ⟨a,h1,b,h2,c,h3,h4⟩:=hs;obtain ⟨w',r1,r2⟩:=zCY (P:=P) (nx:=nx) hT h h4 hvc (hρ _ _ h1) (hρ _ _ h2) (hρ _ _ h3);simp only[zB,r1,zD,zI];exact r2
 case insert t m k x=>
  simp only[zM]at hs;obtain ⟨a,h1,b,h2,c,h3,h4⟩:=hs;obtain ⟨w',r1,r2⟩:=zCY (P:=P) (nx:=nx) hT h h4 hvc (hρ _ _ h1) (hρ _ _ h2) (hρ _ _ h3);simp only[zB,r1,zD,zI];exact r2
 case nilCheck x=>
  simp only[zM]at hs;obtain ⟨v,h1,h2⟩:=hs;have hd:=hρ _ _ h1;unfold zDJ at h2;split at h2
  ·injection h2 with h2;subst h2;have hd0:=hd;simp only[VR]at hd;obtain ⟨i,_,_,he⟩:=hd;simp only[he];rw[he]at hd0;exact Gives.still h rfl hd0
  ·injection h2 with h2;subst h2;have hd0:=hd;simp only[VR]at hd;obtain ⟨b,o,cs,e,fz,he,_⟩:=hd;simp only[he];rw[he]at hd0;exact Gives.still h rfl hd0
  ·cases h2
 case binOp op t x y yt=>
  simp only[zM,zV]at hs;obtain ⟨a,h1,b,h2,⟨p,v⟩,h3,rfl⟩:=hs;obtain ⟨v',r1,r2⟩:=zIu (P:=P) (w:=w) hT x y h3 hvc (hρ _ _ h1) (hρ _ _ h2);exact zAY r1 (Gives.still h rfl r2)
 case unOp op t x=>
  simp only[zM]at hs;obtain ⟨a,h1,h2⟩:=hs;obtain ⟨v',r1,r2⟩:=zKX (P:=P) (nx:=nx) h h2 hvc (hρ _ _ h1);exact zAY r1 r2
 case convert src dst x=>
  simp only[zM]at hs;obtain ⟨a,h1,h2⟩:=hs;obtain ⟨v',w',r1,r2⟩:=zJo hT h hE0 h2 hvc (hρ _ _ h1);exact zAY r1 r2
 case sliceToArrayPointer t x=>
  simp only[zM]at hs;obtain ⟨a,h1,h2⟩:=hs;obtain ⟨v',r1,r2⟩:=zMJ (P:=P) (nx:=nx) hT h h2 hvc (hρ _ _ h1);exact zAY r1 r2
 case makeInterface t x=>
  simp only[zM]at hs;obtain ⟨a,h1,h2⟩:=hs;split at h2;·cases h2
  ·rename_i ti hni hti;injection h2 with h2;subst h2;obtain ⟨z,ht⟩:=hT _ _ hti;obtain ⟨d,hd,hk⟩:=ht.run_underlying w;refine zAY (s:=Instr.makeInterface t (ρ' x)) (v':=.iface t (ρ' x)) (w':=w) ?_ (Gives.still h rfl (by simp only[zAH,VR];exact ⟨_,rfl,hρ _ _ h1⟩));simp only[Instr.makeInterface,zB,hd,zD];cases d<;>first|rfl|skip
   exfalso;simp only[tk]at hk;cases ti with
   |mk k z s b e=>simp only at hk;subst hk;exact hni _ _ _ _ _ rfl
  ·cases h2
 case makeFunc fn first captured=>
  split at hs;·cases hs
  simp only[zM,zV]at hs;obtain ⟨a,h1,b,h2,rfl⟩:=hs;refine zAY (s:=Instr.makeFunc fn (first.map ρ') (captured.map ρ')) (v':=.func fn (first.map ρ') (captured.map ρ')) (w':=w) rfl (Gives.still h rfl ?_);simp only[zAH,VR];exact ⟨first.toList.map ρ',captured.toList.map ρ',by congr 1<;>(apply vG;simp),zDQ hρ h1,zDQ hρ h2⟩
 case makeSlice t l c=>
  simp only[zM]at hs;obtain ⟨a,h1,b,h2,h3⟩:=hs;obtain ⟨v',w',r1,r2⟩:=zDo hT h hE0 h3 hvc (hρ _ _ h1) (hρ _ _ h2);exact zAY r1 r2
 case slice t x lo hi mx=>
  simp only[zM]at hs;obtain ⟨a,h1,lo',h2,hi',h3,mx',h4,h5⟩:=hs;have hm:mx'=none→mx.map ρ'=none:=fun hm=>by subst hm;exact zFY hρ h4
  obtain ⟨v',r1,r2⟩:=zIx (nx:=nx) hT h h5 hvc (hρ _ _ h1) (zFY hρ h2) (zFY hρ h3) hm;exact zAY r1 r2
 case fieldAddr s x f=>
  simp only[zM]at hs;obtain ⟨a,h1,h2⟩:=hs;obtain ⟨v',r1,r2⟩:=zGg (nx:=nx) hT h h2 (hρ _ _ h1);exact zAY r1 r2
 case indexAddr t x i=>
  simp only[zM]at hs;obtain ⟨a,h1,b,h2,h3⟩:=hs;obtain ⟨v',r1,r2⟩:=zDn (nx:=nx) hT h h3 hvc (hρ _ _ h1) (hρ _ _ h2);exact zAY r1 r2
 case index t x i=>
  simp only[zM]at hs;obtain ⟨a,h1,b,h2,h3⟩:=hs;obtain ⟨v',r1,r2⟩:=zGi (nx:=nx) hT h h3 hvc (hρ _ _ h1) (hρ _ _ h2);exact zAY r1 r2
 case field t x f=>
  simp only[zM]at hs;obtain ⟨a,h1,h2⟩:=hs;obtain ⟨v',r1,r2⟩:=zLO (nx:=nx) hT h h2 hvc (hρ _ _ h1);exact zAY r1 r2
 case extract x i=>
  simp only[zM]at hs;obtain ⟨a,h1,h2⟩:=hs;obtain ⟨v',r1,r2⟩:=zE0 (P:=P) (nx:=nx) h h2 (hρ _ _ h1);exact zAY r1 r2
 case call c=>exact zLT hT h hE0 hρ hs hvc
end
end Go.Tx
end
section
namespace Go.Tx
section
variable {T : Tys} {F F' : SF} {nx : Nm} {r : Res}
theorem zJq(i:TI)(wd:Nat)(rs:List (List PV))(row c:Nat)(rd:List Nm):(zCC i wd rs row c rd).rd=rd:=by unfold zCC;split<;>rfl
theorem zOA{t:TypeId}{v:PV}(h:zBq T F t v=some r)(hl:∀n∈r.rd,F' n=F n):zBq T F' t v=some r:=by
 unfold zBq at h ⊢;split at h
 ·rename_i n row c;try simp only
  split at h;rotate_left;·cases h
  rename_i i e wd own p rs hti hF;have hn:n∈r.rd:=by injection h with h;subst h;rw[zJq];simp
  try rw[hti]
  rw[hl n hn,hF];exact h
 ·exact h
 ·cases h
theorem zMK{t:TypeId}{p v:PV}(h:zCB T F t p v=some r)(hl:∀n∈r.rd,F' n=F n):zCB T F' t p v=some r:=by
 unfold zCB at h ⊢;split at h;rotate_left;·cases h
 rename_i n row c;try simp only
 split at h;rotate_left;·cases h
 rename_i i e wd ex rs vs hti hF hv;have hn:n∈r.rd:=by injection h with h;subst h;simp
 try rw[hti]
 rw[hl n hn,hF];first|exact h|(rw[hv];exact h)
theorem zIB{t:TypeId}{x i:PV}(h:zAy T F t x i=some r)(hl:∀n∈r.rd,F' n=F n):zAy T F' t x i=some r:=by
 unfold zAy at h ⊢;split at h;rotate_left;·cases h
 try simp only
 split at h
 ·rename_i hti;try rw[hti]
  try simp only
  split at h;rotate_left;·cases h
  rename_i ei hei;try simp only[hei]
  split at h
  ·rename_i n row l;try simp only
   split at h;rotate_left;·cases h
   rename_i e0 wd own ex rs hF;have hn:n∈r.rd:=by
    split at h;·injection h with h;subst h;simp
    ·cases h
   rw[hl n hn,hF];exact h
  ·exact h
  ·cases h
 ·rename_i hti;try rw[hti]
  exact h
 ·cases h
theorem zML{t:TypeId}{x:PV}{lo hi mx:Option PV}(h:zCD T F t x lo hi mx=some r)(hl:∀n∈r.rd,F' n=F n):zCD T F' t x lo hi mx=some r:=by
 unfold zCD at h ⊢;split at h
 ·rename_i hti;first|exact h|(rw[hti];exact h)
 ·rename_i hti;try rw[hti]
  try simp only
  split at h;rotate_left;·cases h
  rename_i ei hei;try simp only[hei]
  split at h
  ·rename_i n row len;try simp only
   split at h;rotate_left;·cases h
   rename_i e0 wd own p rs l hh hF hl' hhh;have hn:n∈r.rd:=by
    split at h;·injection h with h;subst h;simp
    ·cases h
   rw[hl n hn,hF];first|exact h|(rw[hl',hhh];exact h)
  ·exact h
  ·exact h
  ·cases h
 ·cases h
theorem zKe{src dst:TypeId}{x:PV}(h:zCo T F nx src dst x=some r)(hl:∀n∈r.rd,F' n=F n):zCo T F' nx src dst x=some r:=by
 unfold zCo at h ⊢;split at h;rotate_left;·cases h
 rename_i si di hsi hdi;try rw[hsi,hdi]
 try simp only
 split at h
 ·rename_i h1 h2;first|exact h|(rw[h1,h2];exact h)
 ·rename_i h1 h2;first|exact h|(rw[h1,h2];exact h)
 ·rename_i e h1 h2;try rw[h1,h2]
  try simp only
  split at h;rotate_left;·cases h
  rename_i hei;try rw[hei]
  try simp only
  split at h
  ·rename_i n row l;try simp only
   split at h;rotate_left;·cases h
   rename_i hF;have hn:n∈r.rd:=by
    split at h;·injection h with h;subst h;simp
    ·cases h
   rw[hl n hn,hF];exact h
  ·exact h
  ·exact h
  ·cases h
 ·rename_i h1 h2;first|exact h|(rw[h1,h2];exact h)
 ·rename_i t0 h1 h2;try rw[h1,h2]
  try simp only
  split at h;rotate_left;·cases h
  rename_i n r' c;try simp only
  split at h;rotate_left;·cases h
  rename_i hF hti;split at h;·cases h
  rename_i hz;have:=h;injection this with this;rw[hl n (by rw[←this];simp),hF,hti];simp only;rw[if_neg hz];exact h
 ·rename_i u h1 h2;try rw[h1,h2]
  try simp only
  split at h;rotate_left;·cases h
  rename_i n r' c;try simp only
  split at h;rotate_left;·cases h
  rename_i hF;split at h;rotate_left;·cases h
  rename_i hei hu;split at h;rotate_left;·cases h
  rename_i hz;have:=h;injection this with this;rw[hl n (by rw[←this];simp),hF];simp only[hei,hu];rw[if_pos hz];exact h
 ·cases h
theorem zPr{t:TypeId}{x:PV}(h:zEY T F t x=some r)(hl:∀n∈r.rd,F' n=F n):zEY T F' t x=some r:=by
 unfold zEY at h ⊢;split at h
 ·rename_i hti;first|exact h|(rw[hti];exact h)
 ·rename_i hti;first|exact h|(rw[hti];exact h)
 ·rename_i hti;try rw[hti]
  try simp only
  split at h
  ·rename_i q;try simp only
   split at h;rotate_left;·cases h
   rename_i hF;have hn:q∈r.rd:=by injection h with h;subst h;simp
   rw[hl q hn,hF];exact h
  ·exact h
  ·cases h
 ·rename_i hti;first|exact h|(rw[hti];exact h)
 ·cases h
theorem zIC{size:Nat}{xt:TypeId}{x:PV}{q:Prop}{p:Bool}{xs:List (List PV)}{rd:List Nm}(h:zBs T F size xt x=some (q,p,xs,rd))(hl:∀n∈rd,F' n=F n):zBs T F' size xt x=some (q,p,xs,rd):=by
 unfold zBs at h ⊢;split at h
 ·rename_i hti;try rw[hti]
  try simp only
  split at h
  ·rename_i m row l;try simp only
   split at h;rotate_left;·cases h
   rename_i hF;have hn:m∈rd:=by
    split at h
    ·simp only[zZ,wL]at h;rw[←h.2.2.2];simp
    ·cases h
   rw[hl m hn,hF];exact h
  ·exact h
  ·exact h
  ·cases h
 ·rename_i hti;first|exact h|(rw[hti];exact h)
 ·cases h
theorem zLU{t xt:TypeId}{s x:PV}(h:zBh T F nx t xt s x=some r)(hl:∀n∈r.rd,F' n=F n):zBh T F' nx t xt s x=some r:=by
 unfold zBh at h ⊢;split at h;rotate_left;·cases h
 rename_i hti;try rw[hti]
 try simp only
 split at h;rotate_left;·cases h
 rename_i ei hei;try simp only[hei]
 split at h;·cases h
 rename_i hc;rw[if_neg hc];split at h;·cases h
 rename_i q px xs rd hsrc;split at h
 ·have hl2:∀n∈rd,F' n=F n:=by injection h with h;subst h;exact hl
  rw[zIC hsrc hl2];exact h
 ·rename_i n l;split at h;rotate_left;·cases h
  rename_i e' wd p rs hF;split at h;rotate_left;·cases h
  rename_i hc2;have hrd:r.rd=n::rd:=by split at h<;>(injection h with h;subst h;rfl)
  rw[hrd]at hl;rw[zIC hsrc (fun m hm=>hl m (by simp[hm]))];try simp only
  rw[hl n (by simp),hF];try simp only
  rw[if_pos hc2];exact h
 ·cases h
theorem zJr{t:TypeId}{s x:PV}(h:zB7 T F nx t s x=some r)(hl:∀n∈r.rd,F' n=F n):zB7 T F' nx t s x=some r:=by
 unfold zB7 at h ⊢;split at h;rotate_left;·cases h
 rename_i hti;try rw[hti]
 try simp only
 split at h;rotate_left;·cases h
 rename_i ei hei;try simp only[hei]
 split at h;·cases h
 rename_i hc;rw[if_neg hc];split at h;rotate_left;·cases h
 rename_i n l m;split at h;rotate_left;·cases h
 rename_i e' wd p rs hF;split at h;rotate_left;·cases h
 rename_i hc2;have hrd:r.rd=[n]:=by injection h with h;subst h;rfl
 rw[hrd]at hl;simp only[hl n (by simp),hF];rw[if_pos hc2];exact h
theorem zJs{t xt:TypeId}{s x:PV}(h:zB8 T F nx t xt s x=some r)(hl:∀n∈r.rd,F' n=F n):zB8 T F' nx t xt s x=some r:=by
 unfold zB8 at h ⊢;split at h;·exact zJr h hl
 ·exact zLU h hl
theorem zJt{t xt:TypeId}{s x:PV}(h:zB9 T F nx t xt s x=some r)(hl:∀n∈r.rd,F' n=F n):zB9 T F' nx t xt s x=some r:=by
 unfold zB9 at h ⊢;split at h
 ·rename_i n l;unfold zCx at h ⊢;split at h;rotate_left;·cases h
  rename_i h1 h2;try simp only[h1,h2]
  split at h;rotate_left;·cases h
  rename_i h3 h4;split at h;·cases h
  rename_i h5;have hrd:r.rd=[n]:=by injection h with h;subst h;rfl
  rw[hrd]at hl;try simp only[h3,hl n (by simp),h4]
  rw[if_neg h5];exact h
 ·exact zJs h hl
theorem zLV{t:TypeId}{x:PV}{lo hi mx:Option PV}(h:zCa T F t x lo hi mx=some r)(hl:∀n∈r.rd,F' n=F n):zCa T F' t x lo hi mx=some r:=by
 unfold zCa at h ⊢;split at h
 ·rename_i n;unfold zDq at h ⊢;split at h;rotate_left;·cases h
  rename_i h1;try simp only[h1]
  split at h;rotate_left;·cases h
  rename_i h2 h3 h4;split at h;rotate_left;·cases h
  rename_i h5;have hrd:r.rd=[n]:=by injection h with h;subst h;rfl
  rw[hrd]at hl;try simp only[h2,hl n (by simp),h3,h4]
  rw[if_pos h5];exact h
 ·exact zML h hl
theorem zID{x:PV}(h:zBV F x=some r)(hl:∀n∈r.rd,F' n=F n):zBV F' x=some r:=by
 unfold zBV at h ⊢;split at h;·exact h
 ·split at h;rotate_left;·cases h
  rename_i hF;have:=h;injection this with this;rw[hl _ (by rw[←this];simp),hF];exact h
 ·cases h
theorem zJu{pt:TypeId}{x y:PV}(h:zB6 T F pt x y=some r)(hl:∀n∈r.rd,F' n=F n):zB6 T F' pt x y=some r:=by
 unfold zB6 at h ⊢;split at h;·exact h
 ·split at h;rotate_left;·cases h
  rename_i hF hp;split at h;rotate_left;·cases h
  rename_i he;split at h;rotate_left;·cases h
  rename_i hc;have:=h;injection this with this;rw[hl _ (by rw[←this];simp),hF,hp];simp only[he];rw[if_pos hc];exact h
 ·cases h
theorem zMM{t:TypeId}{x:PV}(h:zDO T F t x=some r)(hl:∀n∈r.rd,F' n=F n):zDO T F' t x=some r:=by
 unfold zDO at h ⊢;split at h;rotate_left;·cases h
 rename_i n r0 l;split at h;rotate_left;·cases h
 rename_i e _ _ _ _ _ hti;try simp only[hti]
 split at h;rotate_left;·cases h
 rename_i ei hei;try simp only[hei]
 split at h;rotate_left;·cases h
 rename_i e' wd p rs hF;split at h;rotate_left;·cases h
 rename_i hc;have hrd:r.rd=[n]:=by injection h with h;subst h;rfl
 rw[hrd]at hl;rw[hl n (by simp),hF];try simp only
 rw[if_pos hc];exact h
theorem zOB{t xt:TypeId}{s x:PV}(h:zEm T F t xt s x=some r)(hl:∀n∈r.rd,F' n=F n):zEm T F' t xt s x=some r:=by
 unfold zEm at h ⊢;split at h;rotate_left;·cases h
 rename_i n r0 l;split at h;rotate_left;·cases h
 rename_i e _ _ _ _ _ hti;try simp only[hti]
 split at h;rotate_left;·cases h
 rename_i ei hei;try simp only[hei]
 split at h;·cases h
 rename_i hsz;rw[if_neg hsz];split at h;·cases h
 rename_i q px xs rd hsrc;split at h;rotate_left;·cases h
 rename_i e' wd p rs hF;split at h;rotate_left;·cases h
 rename_i hc;have hrd:r.rd=n::rd:=by injection h with h;subst h;rfl
 rw[hrd]at hl;rw[zIC hsrc (fun m hm=>hl m (by simp[hm]))];try simp only
 rw[hl n (by simp),hF];try simp only
 rw[if_pos hc];exact h
theorem zOC{ρ:Operand→Option PV}{c:Call}(h:zDr T ρ F nx c=some r)(hl:∀n∈r.rd,F' n=F n):zDr T ρ F' nx c=some r:=by
 unfold zDr at h ⊢;split at h;rotate_left;·cases h
 rename_i b hc;try simp only
 split at h
 ·simp only[zM]at h ⊢;obtain ⟨v,q1,q2⟩:=h;exact ⟨v,q1,zPr q2 hl⟩
 ·simp only[zM]at h ⊢;obtain ⟨v,q1,u,q2,q3⟩:=h;exact ⟨v,q1,u,q2,zJt q3 hl⟩
 ·exact h
 ·exact h
 ·simp only[zM]at h ⊢;obtain ⟨v,q1,q2⟩:=h;exact ⟨v,q1,zID q2 hl⟩
 ·simp only[zM]at h ⊢;obtain ⟨v,q1,q2⟩:=h;exact ⟨v,q1,zMM q2 hl⟩
 ·simp only[zM]at h ⊢;obtain ⟨v,q1,u,q2,q3⟩:=h;exact ⟨v,q1,u,q2,zOB q3 hl⟩
 ·simp only[zM]at h ⊢;obtain ⟨v,q1,u,q2,q3⟩:=h;exact ⟨v,q1,u,q2,zJu q3 hl⟩
 ·cases h
end
end Go.Tx
end
section
namespace Go.Tx
section
variable {T : Tys} {F F' : SF} {nx : Nm} {r : Res}
theorem zRH {wr:Bool}{ρ:Operand→Option PV}{o:Op}(h:zCy T wr ρ F nx o=some r)(hl:∀n∈r.rd,F' n=F n):zCy T wr ρ F' nx o=some r:=by
  cases o<;>simp only[zCy]at h ⊢
  case load t a=>
    simp only[zM]at h ⊢;obtain ⟨v,q1,q2⟩:=h;exact ⟨v,q1,zOA q2 hl⟩
  case store t a x=>
    simp only[zM]at h ⊢;obtain ⟨v,q1,u,q2,q3⟩:=h;exact ⟨v,q1,u,q2,zMK q3 hl⟩
  case convert s d x=>
    simp only[zM]at h ⊢;obtain ⟨v,q1,q2⟩:=h;refine ⟨v,q1,?_⟩;unfold zE5 at q2 ⊢;split at q2
    ·exact zN8 q2 hl
    · rename_i hno
      first
        |exact zKe q2 hl
        | (split
           · rename_i h1 h2
             exact (hno _ _ _ _ _ _ _ _ _ _ _ _ h1 h2).elim
           ·exact zKe q2 hl)
  case slice t x lo hi mx=>
    simp only[zM]at h ⊢;obtain ⟨v,q1,a,q2,b,q3,c,q4,q5⟩:=h;exact ⟨v,q1,a,q2,b,q3,c,q4,zLV q5 hl⟩
  case indexAddr t x i=>
    simp only[zM]at h ⊢;obtain ⟨v,q1,u,q2,q3⟩:=h;exact ⟨v,q1,u,q2,zIB q3 hl⟩
  case lookup t x i ok=>
    simp only[zM]at h ⊢;obtain ⟨v,q1,u,q2,q3⟩:=h;refine ⟨v,q1,u,q2,?_⟩;unfold zCL at q3 ⊢;split at q3;rotate_left
    ·cases q3
    rename_i hti;try rw[hti]
    try simp only
    split at q3;rotate_left
    ·cases q3
    rename_i ei hki hei;try rw[hki,hei]
    try simp only
    split at q3
    · rename_i rr
      split at q3;rotate_left
      ·cases q3
      rename_i hF;have hrr:rr∈r.rd:=by injection q3 with q3;subst q3;simp[zDN]
      try simp only
      rw[hl rr hrr,hF];exact q3
    ·exact q3
    ·cases q3
  case mapUpdate t m k v=>
    simp only[zM]at h ⊢;obtain ⟨v,q1,u,q2,z,q3,q4⟩:=h;refine ⟨v,q1,u,q2,z,q3,?_⟩;unfold zAz at q4 ⊢;split at q4
    · rename_i kt et _ _ _ _ _ rr n hti
      have hrr:rr∈r.rd:=by
        split at q4
        ·injection q4 with q4;subst q4;simp
        ·cases q4
      rw[hl rr hrr];exact q4
    ·cases q4
  case insert t m k v=>
    simp only[zM]at h ⊢;obtain ⟨v,q1,u,q2,z,q3,q4⟩:=h;refine ⟨v,q1,u,q2,z,q3,?_⟩;unfold zAz at q4 ⊢;split at q4
    · rename_i kt et _ _ _ _ _ rr n hti
      have hrr:rr∈r.rd:=by
        split at q4
        ·injection q4 with q4;subst q4;simp
        ·cases q4
      rw[hl rr hrr];exact q4
    ·cases q4
  case makeMap t hint=>cases hint<;>simp only[zCy]at h ⊢ <;>exact h
  case call c=>exact zOC h hl
  all_goals first|exact h|cases h
end
end Go.Tx
end
section
namespace Go.Tx
section
variable {T : Tys} {F F' : SF} {nx : Nm} {r : Res}
theorem zCz{ρ ρ':Operand→Option PV}:∀{l:List Operand},(∀x∈l,ρ x=ρ' x)→vals ρ l=vals ρ' l
 | [],_=>rfl
 |x::l,h=>by simp only[vals,h x (by simp),zCz (l:=l) (fun y hy=>h y (by simp[hy]))]
theorem zDs{ρ ρ':Operand→Option PV}:∀{l:List (Nat×Operand)},(∀x∈l,ρ x.2=ρ' x.2)→zEd ρ l=zEd ρ' l
 | [],_=>rfl
 |x::l,h=>by simp only[zEd,h x (by simp),zDs (l:=l) (fun y hy=>h y (by simp[hy]))]
theorem zDt{ρ ρ':Operand→Option PV}{o:Option Operand}(h:∀x,o=some x→ρ x=ρ' x):zEc ρ o=zEc ρ' o:=by
 cases o with
 |none=>rfl
 |some x=>simp[zEc,h x rfl]
theorem zOD{wr:Bool}{ρ ρ':Operand→Option PV}{o:Op}(h:∀x∈o.operands.toList,ρ x=ρ' x):zCy T wr ρ F nx o=zCy T wr ρ' F nx o:=by
 cases o<;>simp only[zCy]<;>simp only[Op.operands]at h
 case move x=>rw[h x (by simp)]
 case assign x=>rw[h x (by simp)]
 case pick c a b=>rw[h c (by simp),h a (by simp),h b (by simp)]
 case box t x=>rw[h x (by simp)]
 case build t ps=>rw[zDs (fun x hx=>h x.2 (by simp;exact ⟨x.1,by simpa using hx⟩))]
 case buildSlice t n ps=>rw[zDs (fun x hx=>h x.2 (by simp;exact ⟨x.1,by simpa using hx⟩))]
 case load t a=>rw[h a (by simp)]
 case store t a v=>rw[h a (by simp),h v (by simp)]
 case nilCheck x=>rw[h x (by simp)]
 case binOp op t x y yt=>rw[h x (by simp),h y (by simp)]
 case unOp op t x=>rw[h x (by simp)]
 case convert s d x=>rw[h x (by simp)]
 case makeInterface t x=>rw[h x (by simp)]
 case sliceToArrayPointer t x=>rw[h x (by simp)]
 case makeFunc fn a b=>
  rw[zCz (fun x hx=>h x (by simp;exact .inl (by simpa using hx))),zCz (fun x hx=>h x (by simp;exact .inr (by simpa using hx)))]
 case makeSlice t l c=>rw[h l (by simp),h c (by simp)]
 case lookup t x i ok=>rw[h x (by simp),h i (by simp)]
 case mapUpdate t m k v=>rw[h m (by simp),h k (by simp),h v (by simp)]
 case insert t m k v=>rw[h m (by simp),h k (by simp),h v (by simp)]
 case makeMap t hint=>cases hint<;>rfl
 case slice t x lo hi mx=>
  rw[h x (by simp),zDt (o:=lo) (fun y hy=>h y (by simp[hy])),zDt (o:=hi) (fun y hy=>h y (by simp[hy])),zDt (o:=mx) (fun y hy=>h y (by simp[hy]))]
 case fieldAddr s x f=>rw[h x (by simp)]
 case indexAddr t x i=>rw[h x (by simp),h i (by simp)]
 case index t x i=>rw[h x (by simp),h i (by simp)]
 case field t x f=>rw[h x (by simp)]
 case extract x i=>rw[h x (by simp)]
 case call c=>
  obtain ⟨callee,⟨args⟩,ats⟩:=c;simp only[Call.operands]at h;have ha:∀x∈args,ρ x=ρ' x:=fun x hx=>h x (by simp[hx])
  simp only[zDr];cases callee with
  |builtin b=>
   simp only;split;·rw[ha _ (by simp)]
   ·rw[ha _ (by simp),ha _ (by simp)]
   ·rw[ha _ (by simp),ha _ (by simp)]
   ·rw[ha _ (by simp),ha _ (by simp)]
   ·rw[ha _ (by simp)]
   ·rw[ha _ (by simp)]
   ·rw[ha _ (by simp),ha _ (by simp)]
   ·rw[ha _ (by simp),ha _ (by simp)]
   ·rfl
  |value f=>rfl
  |invoke x m=>rfl
 all_goals rfl
theorem zIE{wr:Bool}{ρ:Operand→Option PV}{o:Oper}(h:zCy T wr ρ F nx o.op=some r):∀c,o.op≠ .defer c:=by
 intro c hc;rw[hc]at h;cases h
end
end Go.Tx
end
section
namespace Go.Tx
section
variable {κ : Type} [DecidableEq κ] {α : Type}
def keys(x:List (κ×α)):List κ:=x.map (·.1)
def zAX(f:κ→Option α):List (κ×α)→(κ→Option α)
 | []=>f
 |(n,v)::l=>zAX (fun k=>if k=n then some v else f k) l
def zA4(S:Nat→Bool):Nat→List (List (κ×α))→(κ→Option α)→(κ→Option α)
 |_,[],f=>f
 |i,x::l,f=>zA4 S (i+1) l (if S i=true then zAX f x else f)
theorem zAc{k:κ}:∀{x:List (κ×α)} {f:κ→Option α},k∉keys x→zAX f x k=f k
 | [],_,_=>rfl
 |(n,v)::l,f,h=>by
  simp only[keys,zL,wP,not_or]at h;simp only[zAX];rw[zAc h.2];simp[h.1]
theorem zEA{k:κ}:∀{x:List (κ×α)} {f g:κ→Option α},k∈keys x→zAX f x k=zAX g x k
 | [],_,_,h=>by cases h
 | (n,v)::l,f,g,h=>by
  simp only[zAX];by_cases hk:k∈keys l;·exact zEA hk
  ·rw[zAc hk,zAc hk];simp only[keys,zL,wP]at h;rcases h with h|h;·simp[h]
   ·exact absurd h hk
theorem zGq{k:κ}{x:List (κ×α)}{f g:κ→Option α}(h:f k=g k):zAX f x k=zAX g x k:=by
 by_cases hk:k∈keys x;·exact zEA hk
 ·rw[zAc hk,zAc hk,h]
theorem zBZ{k:κ}:∀(ws:List (List (κ×α))) {i:Nat} {f g:κ→Option α} {S S':Nat→Bool},f k=g k→(∀(j:Nat) (x:List (κ×α)),ws[j]?=some x→k∈keys x→S (i+j)=S' (i+j))→
  zA4 S i ws f k=zA4 S' i ws g k
 | [],_,_,_,_,_,h,_=>h
 | x::l,i,f,g,S,S',h,hs=>by
  simp only[zA4];refine zBZ l ?_ ?_
  ·by_cases hk:k∈keys x
   ·have:=hs 0 x rfl hk;simp only[wH]at this;rw[this];split;·exact zEA hk
    ·exact h
   ·split<;>split<;>first|(rw[zAc hk,zAc hk];exact h)|(rw[zAc hk];exact h)|exact h
  ·intro j y hy hk;have:=hs (j+1) y (by simpa using hy) hk;rw[show i+1+j=i+(j+1) by omega];exact this
theorem zC0{k:κ}(ws:List (List (κ×α))){i:Nat}{f:κ→Option α}{S:Nat→Bool}(h:∀(j:Nat) (x:List (κ×α)),ws[j]?=some x→S (i+j)=true→k∉keys x):zA4 S i ws f k=f k:=by
 induction ws generalizing i f with
 |nil=>rfl
 |cons x l ih=>
  simp only[zA4];rw[ih (fun j y hy hs=>h (j+1) y (by simpa using hy) (by rw[show i+(j+1)=i+1+j by omega];exact hs))];split
  ·rename_i hsi;exact zAc (h 0 x rfl (by simpa using hsi))
  ·rfl
theorem zMN{k:κ}{g:κ→Option α}(ws:List (List (κ×α))){i j:Nat}{f:κ→Option α}{S:Nat→Bool}{x:List (κ×α)}(hx:ws[j]?=some x)(hS:S (i+j)=true)(hk:k∈keys x)
  (h:∀(q:Nat) (y:List (κ×α)),j<q→ws[q]?=some y→S (i+q)=true→k∉keys y):zA4 S i ws f k=zAX g x k:=by
 induction ws generalizing i j f with
 |nil=>cases hx
 | cons y l ih=>
  simp only[zA4];cases j with
  |zero=>
   simp at hx;subst hx;simp only[wH]at hS;rw[if_pos hS,zC0 l (fun q z hz hs=>h (q+1) z (by omega) (by simpa using hz) (by rw[show i+(q+1)=i+1+q by omega];exact hs))];exact zEA hk
  |succ j=>
   refine ih (j:=j) (by simpa using hx) (by rw[show i+1+j=i+(j+1) by omega];exact hS) ?_;intro q z hq hz hs;exact h (q+1) z (by omega) (by simpa using hz) (by rw[show i+(q+1)=i+1+q by omega];exact hs)
theorem zDR{ws:List (List (κ×α))}{f:κ→Option α}{S S':Nat→Bool}{j:Nat}{x:List (κ×α)}(hx:ws[j]?=some x)(hj:S' j=true)(hoth:∀i,i≠j→S' i=S i)
  (h:∀(q:Nat) (y:List (κ×α)),j<q→ws[q]?=some y→S q=true→∀k∈keys x,k∉keys y):zA4 S' 0 ws f=zAX (zA4 S 0 ws f) x:=by
 funext k;by_cases hk:k∈keys x
 ·refine zMN ws hx (by simpa using hj) hk ?_;intro q y hq hy hs;simp only[zP]at hs;exact h q y hq hy (by rw[←hoth q (by omega)];exact hs) k hk
 ·rw[zAc hk];refine zBZ ws rfl ?_;intro q y hy hky;simp only[zP];apply hoth
  rintro rfl
  rw[hx]at hy;injection hy with hy;subst hy;exact hk hky
end
def mask(o:Oper)(acc:List Nat):Nat:=
 o.after.toList.foldl (fun s e=>if Region.binds .any e then s ||| 2^e.on ||| acc.getD e.on 0 else s) 0
def zQ9:List Oper→List Nat→List Nat
 | [],acc=>acc
 |o::l,acc=>zQ9 l (acc++[mask o acc])
theorem zHi(acc:List Nat)(i:Nat):∀(l:List Edge) (s:Nat),(l.foldl (fun s e=>if Region.binds .any e then s ||| 2^e.on ||| acc.getD e.on 0 else s) s).testBit i=true→
  s.testBit i=true∨∃e∈l,Region.binds .any e=true∧(e.on=i∨(acc.getD e.on 0).testBit i=true)
 | [],s,h=>.inl h
 | e::l,s,h=>by
  simp only[List.foldl_cons]at h;rcases zHi acc i l _ h with h|⟨e',h1,h2⟩
  ·split at h
   ·rename_i hb;simp only[Nat.testBit_or,vV,Nat.testBit_two_pow,decide_eq_true_eq]at h;rcases h with (h|h)|h;·exact .inl h
    ·exact .inr ⟨e,by simp,hb,.inl h⟩
    ·exact .inr ⟨e,by simp,hb,.inr h⟩
   ·exact .inl h
  ·exact .inr ⟨e',by simp[h1],h2⟩
def zC1(ops:List Oper)(j k:Nat):Prop:=∃o,ops[j]?=some o∧∃e∈o.after.toList,Region.binds .any e=true∧e.on=k
theorem zGr(ops:List Oper):∀(l done:List Oper) (acc:List Nat),ops=done++l→acc.length=done.length→
  (∀j i,j<acc.length→(acc.getD j 0).testBit i=true→∃k,zC1 ops j k∧(k=i∨(acc.getD k 0).testBit i=true))→(∀j k,j<acc.length→zC1 ops j k→k<j)→(∀j k,zC1 ops j k→k<j)→
  (∀j i,(((zQ9 l acc).getD j 0).testBit i=true→∃k,zC1 ops j k∧(k=i∨((zQ9 l acc).getD k 0).testBit i=true)))
 | [],done,acc,_,hl,h,_,_=>by
  intro j i hj;simp only[zQ9]at hj ⊢;by_cases hja:j<acc.length;·exact h j i hja hj
  ·rw[zE,uA (by omega)]at hj;simp at hj
 | o::l,done,acc,he,hl,h,hlt,hall=>by
  simp only[zQ9];have hstable:∀k,k<acc.length→(acc++[mask o acc]).getD k 0=acc.getD k 0:=by
   intro k hk;simp only[zE];rw[wO hk]
  have hoj:ops[acc.length]?=some o:=by rw[he,hl];simp
  refine zGr ops l (done++[o]) (acc++[mask o acc]) (by simp[he]) (by simp[hl]) ?_ ?_ hall
  ·intro j i hj hb;simp only[zU,vC,wW]at hj;by_cases hja:j<acc.length
   ·rw[hstable j hja]at hb;obtain ⟨k,h1,h2⟩:=h j i hja hb;have hk:=hlt j k hja h1;exact ⟨k,h1,by rw[hstable k (by omega)];exact h2⟩
   ·have hj':j=acc.length:=by omega
    subst hj';have:(acc++[mask o acc]).getD acc.length 0=mask o acc:=by simp[zE]
    rw[this]at hb;rcases zHi acc i _ _ hb with h0|⟨e,h1,h2,h3⟩;·simp at h0
    ·have hd:zC1 ops acc.length e.on:=⟨o,hoj,e,h1,h2,rfl⟩;have:=hall _ _ hd;exact ⟨e.on,hd,by rw[hstable _ this];exact h3⟩
  ·intro j k _ hd;exact hall j k hd
def masks(ops:List Oper):List Nat:=zQ9 ops []
def ord(ops:List Oper)(i j:Nat):Bool:=((masks ops).getD j 0).testBit i
def zC2(ops:List Oper):Bool:=ops.zipIdx.all fun x=>x.1.after.toList.all fun e=>!Region.binds .any e||decide (e.on<x.2)
theorem zCE{ops:List Oper}(h:zC2 ops=true){j k:Nat}(hd:zC1 ops j k):k<j:=by
 obtain ⟨o,ho,e,he,hb,rfl⟩:=hd;unfold zC2 at h;rw[wK]at h;have:=h (o,j) (by rw[uL];exact ho);rw[wK]at this;have:=this e he;simpa[hb] using this
theorem zEB{ops:List Oper}(hE:zC2 ops=true){S:Nat→Bool}(hD:∀j k,S j=true→zC1 ops j k→S k=true):∀(j:Nat),(∀k,zC1 ops j k→S k=true)→∀i,ord ops i j=true→S i=true:=by
 have hdown:=fun j k (hd:zC1 ops j k)=>zCE hE hd
 have hspec:=zGr ops ops [] [] rfl rfl (by simp) (by simp) hdown;intro j;induction j using Nat.strongRecOn with
 |_ j ih=>
  intro hj i hi;obtain ⟨k,h1,h2⟩:=hspec j i hi;rcases h2 with rfl|h2;·exact hj _ h1
  ·exact ih k (hdown j k h1) (fun q hq=>hD k q (hj k h1) hq) i h2
end Go.Tx
end
