/- Lemmas for the walk: GD43, GD44, GK103, GK109, GD45, U47, GD49, GK108, GR52, GK130, GR60, GK29, GK30. -/
import Derived.Test.YtifhjhbfhdcahaaGreatP19
import Derived.Test.YtifhjhbfhdcahaaGreatP17
import Derived.Test.YtifhjhbfhdcahaaGreatP12
import Derived.Test.YtifhjhbfhdcahaaGreatP13
set_option linter.all false
section
namespace Go.Proofs.YtifhjhbfhdcahaaGreat
open Go.Tx
set_option maxRecDepth 100000
theorem zFq{g:Gx}{now:Int}{p:Pkx}(hg:g.ok=true)(ht:zEg now=true)(hta:g.ta≤now)(hp:p.ok=true):zAU g now 5 p=((zDB {g with ta:=now} now p).1,(zDB {g with ta:=now} now p).2,0):=by
 unfold zAU gEv;rw[if_neg (by simp[hg]),if_neg (by simp[ht];omega),if_neg (by simp[hp])];rfl
theorem zQr{g:Gx}{now:Int}{p:Pkx}(hg:g.ok=true)(ht:zEg now=true)(hta:g.ta≤now):zAU g now 4 p=((zBy {g with ta:=now} now).1,(zBy {g with ta:=now} now).2,0):=by
 unfold zAU gEv;rw[if_neg (by simp[hg]),if_neg (by simp[ht];omega),if_neg (by simp)];rfl
theorem recv_kind{g:Gx}{now:Int}{tg:Int}{c:Ckx}:zDB g now ⟨g.tt,g.fr,tg,[c]⟩=zAQ g now tg c:=by
 unfold zDB;rw[if_pos ⟨rfl,rfl⟩];rfl
theorem zNl{g:Gx}{now:Int}{d:Ini}(hd:zAZ d=true)(hst:g.st≤3):zAQ g now 0 ⟨1,0,d.oct⟩=(g,zA9 g d.tag ⟨2,0,Ini.oct {g.own with ck:=ckS g d.oct now}⟩):=by
 obtain ⟨i1,i2⟩:=zJS hd;unfold zAQ zFF;rw[if_pos rfl,if_pos ⟨i1,rfl,hst⟩,i2]
theorem zLw{g:Gx}{now:Int}{d:Ini}(hd:d.ok=true)(hc:d.ck≠[])(hst:g.st=2):zAQ g now g.own.tag ⟨2,0,d.oct⟩=({zAG g 3 now with ck:=d.ck,peer:={d with ck:=[]}},zA9 g d.tag ⟨10,0,d.ck⟩):=by
 obtain ⟨i1,i2⟩:=zNi hd hc;unfold zAQ zDh;rw[if_neg (by simp),if_neg (by simp),if_pos rfl,if_pos ⟨i1,hst⟩,i2];rfl
theorem zNm{g:Gx}{now:Int}{b:List UInt8}:zAQ g now g.own.tag ⟨10,0,b⟩=zC9 g now b:=by
 unfold zAQ;rw[if_neg (by simp),if_neg (by simp),if_neg (by simp),if_pos rfl]
theorem zO8{g:Gx}{now:Int}(hst:g.st=3):zAQ g now g.own.tag ⟨11,0,[]⟩=(zAT g 4,[]):=by
 unfold zAQ;rw[if_neg (by simp),if_neg (by simp),if_neg (by simp),if_neg (by simp),if_pos rfl,if_pos hst]
def exA:Ini:=⟨11,1000,1,1,5,[]⟩
def exB:Ini:=⟨22,1000,1,1,7,[]⟩
def exG(second:Bool):Gx:=if second then zIr 2 1 (List.replicate 32 98) exB else zIr 1 2 (List.replicate 32 97) exA
def pk0:Pkx:=⟨0,0,0,[]⟩
structure ExRun (a1 a2 a3 a4:Gx) (p1 p2 p3 p5 pl q2 q3:Pkx) (b1 a5 bl b5 a6:Gx) (c2 c3 c5 cl:Ckx):Prop where
 s1:zAU (exG false) 0 1 pk0=(a1,[p1],0)
 a1s:a1.st=2
 a1d:a1.due=400
 p1t:p1.tg=0
 f1:zAU a1 399 4 pk0=(a2,[],0)
 a2d:a2.due=400
 f2:zAU a2 400 4 pk0=(a3,[q2],0)
 a3d:a3.due=1200
 f3:zAU a3 1200 4 pk0=(a4,[q3],0)
 a4d:a4.due=2800
 s2:zAU (exG true) 10 5 p1=(b1,[p2],0)
 b1s:b1.st=1
 p2t:p2.tg=11
 p2c:p2.cs=[c2]
 c2k:c2.kd=2
 s3:zAU a1 20 5 p2=(a5,[p3],0)
 a5s:a5.st=3
 p3t:p3.tg=22
 p3c:p3.cs=[c3]
 c3k:c3.kd=10
 sl:zAU b1 60011 5 p3=(bl,[pl],0)
 bls:bl.st=1
 plt:pl.tg=11
 plc:pl.cs=[cl]
 clk:cl.kd=6
 s4:zAU b1 30 5 p3=(b5,[p5],0)
 b5s:b5.st=4
 p5c:p5.cs=[c5]
 c5k:c5.kd=11
 s5:zAU a5 40 5 p5=(a6,[],0)
 a6s:a6.st=4
 e1:zAU a4 1200 2 pk0=(zGx,[],8)
 e2:zAU a4 1200 1 pk0=(zGx,[],8)
theorem zS1:∃a1 a2 a3 a4 p1 p2 p3 p5 pl q2 q3 b1 a5 bl b5 a6 c2 c3 c5 cl,ExRun a1 a2 a3 a4 p1 p2 p3 p5 pl q2 q3 b1 a5 bl b5 a6 c2 c3 c5 cl:=by
 have s1:zAU (exG false) 0 1 pk0=(zAG (exG false) 2 0,[⟨1,2,0,[⟨1,0,exA.oct⟩]⟩],0):=by kernel_rfl
 have G1:=zAo s1;have P1:=(G1.pk _ (List.mem_singleton.2 rfl)).1;have B0:(exG true).ok=true:=by kernel_rfl
 have hA:zAZ exA=true:=by kernel_rfl
 have hB:zAZ exB=true:=by kernel_rfl
 have s2:=zFq B0 (now:=10) (by kernel_rfl) (by decide) P1;rw[show (⟨1,2,0,[⟨1,0,exA.oct⟩]⟩:Pkx)=⟨({exG true with ta:=10}:Gx).tt,({exG true with ta:=10}:Gx).fr,0,[⟨1,0,exA.oct⟩]⟩ from rfl,recv_kind,zNl hA (by decide)]at s2;obtain ⟨C,hC⟩:∃C,C=ckS {exG true with ta:=10} exA.oct 10:=⟨_,rfl⟩;have hC2:=hC;rw[←hC]at s2;have hCl:C.length=62:=by rw[hC];exact (zK6 _ hA (by decide)).1
 have G2:=zAo s2;have P2:=(G2.pk _ (List.mem_singleton.2 rfl)).1;have G2o:=G2.ok;have dok:({exB with ck:=C}:Ini).ok=true:=by
  have:exB.ok=true:=by kernel_rfl
  unfold Ini.ok at this ⊢;simp[hCl,exB,zA2]
 have hCn:({exB with ck:=C}:Ini).ck≠[]:=by intro h;rw[show ({exB with ck:=C}:Ini).ck=C from rfl]at h;rw[h]at hCl;simp at hCl
 have r3:=recv_kind.trans (zLw (g:={zAG (exG false) 2 0 with ta:=20}) (now:=20) dok hCn rfl);have e3:zDB {zAG (exG false) 2 0 with ta:=20} 20 ⟨2,1,11,[⟨2,0,Ini.oct {exB with ck:=C}⟩]⟩=({zAG {zAG (exG false) 2 0 with ta:=20} 3 20 with ck:=C,peer:=exB},[⟨1,2,22,[⟨10,0,C⟩]⟩]):=r3;rw[show (zA9 {exG true with ta:=10} exA.tag ⟨2,0,Ini.oct {({exG true with ta:=10}:Gx).own with ck:=C}⟩)=[⟨2,1,11,[⟨2,0,Ini.oct {exB with ck:=C}⟩]⟩] from rfl]at s2;have s3':zAU (zAG (exG false) 2 0) 20 5 ⟨2,1,11,[⟨2,0,Ini.oct {exB with ck:=C}⟩]⟩=({zAG {zAG (exG false) 2 0 with ta:=20} 3 20 with ck:=C,peer:=exB},[⟨1,2,22,[⟨10,0,C⟩]⟩],0):=by
  exact (zFq G1.ok (now:=20) (by kernel_rfl) (by rw[G1.ta];decide) P2).trans (congrArg (fun r:Gx×List Pkx=>(r.1,r.2,(0:Int))) e3)
 have G3:=zAo s3';have P3:=(G3.pk _ (List.mem_singleton.2 rfl)).1;have bta:({exG true with ta:=10}:Gx).ta=10:=rfl;have rb:∀now:Int,zDB {({exG true with ta:=10}:Gx) with ta:=now} now ⟨1,2,22,[⟨10,0,C⟩]⟩=zC9 {exG true with ta:=now} now (ckS {exG true with ta:=now} exA.oct 10):=by
  intro now;have h:=(recv_kind (g:={exG true with ta:=now}) (now:=now) (tg:=22) (c:=⟨10,0,C⟩)).trans (zNm (g:={exG true with ta:=now}) (now:=now) (b:=C));rw[show ckS {exG true with ta:=now} exA.oct 10=C from (zNj rfl rfl rfl rfl _ _).trans hC2.symm];exact h
 have el:=zK7 {exG true with ta:=60011} hA (t:=10) (by decide) 60011;rw[if_pos ⟨by decide,by decide⟩]at el;have e4:=zK7 {exG true with ta:=30} hA (t:=10) (by decide) 30;rw[if_neg (by decide),if_pos (by decide)]at e4;have sl:zAU {exG true with ta:=10} 60011 5 ⟨1,2,22,[⟨10,0,C⟩]⟩=({exG true with ta:=60011},[⟨2,1,11,[⟨6,0,[]⟩]⟩],0):=by
  exact (zFq G2o (by kernel_rfl) (show (10:Int)≤60011 by decide) P3).trans <| congrArg (fun r:Gx×List Pkx=>(r.1,r.2,(0:Int))) ((rb 60011).trans el)
 have s4:zAU {exG true with ta:=10} 30 5 ⟨1,2,22,[⟨10,0,C⟩]⟩=({zAT {exG true with ta:=30} 4 with peer:=exA},[⟨2,1,11,[⟨11,0,[]⟩]⟩],0):=by
  exact (zFq G2o (by kernel_rfl) (show (10:Int)≤30 by decide) P3).trans <| congrArg (fun r:Gx×List Pkx=>(r.1,r.2,(0:Int))) ((rb 30).trans e4)
 have P4:=((zAo s4).pk _ (List.mem_singleton.2 rfl)).1;have s5:zAU {zAG {zAG (exG false) 2 0 with ta:=20} 3 20 with ck:=C,peer:=exB} 40 5 ⟨2,1,11,[⟨11,0,[]⟩]⟩=(zAT {({zAG {zAG (exG false) 2 0 with ta:=20} 3 20 with ck:=C,peer:=exB}:Gx) with ta:=40} 4,[],0):=by
  exact (zFq G3.ok (by kernel_rfl) (show (20:Int)≤40 by decide) P4).trans <| congrArg (fun r:Gx×List Pkx=>(r.1,r.2,(0:Int))) ((recv_kind (g:={({zAG {zAG (exG false) 2 0 with ta:=20} 3 20 with ck:=C,peer:=exB}:Gx) with ta:=40})).trans (zO8 rfl))
 exact ⟨_,{zAG (exG false) 2 0 with ta:=399},⟨2,1,2,List.replicate 32 97,exA,zIni,[],400,1200,2⟩,⟨2,1,2,List.replicate 32 97,exA,zIni,[],1200,2800,3⟩,_,_,_,_,_,⟨1,2,0,[⟨1,0,exA.oct⟩]⟩,⟨1,2,0,[⟨1,0,exA.oct⟩]⟩,_,_,_,_,_,_,_,_,_,
  {s1:=s1,a1s:=rfl,a1d:=rfl,p1t:=rfl,f1:=by kernel_rfl,a2d:=rfl,f2:=by kernel_rfl,a3d:=rfl,f3:=by kernel_rfl,a4d:=rfl,s2:=s2,b1s:=rfl,p2t:=rfl,p2c:=rfl,c2k:=rfl,s3:=s3',a5s:=rfl,p3t:=rfl,p3c:=rfl,c3k:=rfl,sl:=sl,bls:=rfl,plt:=rfl,plc:=rfl,clk:=rfl,s4:=s4,b5s:=rfl,p5c:=rfl,c5k:=rfl,s5:=s5,a6s:=rfl,e1:=by kernel_rfl,e2:=by kernel_rfl}⟩
end Go.Proofs.YtifhjhbfhdcahaaGreat
end
section
namespace Go.Proofs.YtifhjhbfhdcahaaGreat
open Go.Tx
set_option maxRecDepth 100000
set_option maxHeartbeats 16000000
def Pkx.sm(p:Pkx):Prop:=p.cs.length≤1000000∧∀c∈p.cs,c.bd.length≤1000000
theorem zNn(w z:List Pkx){i:Nat}(h:i<w.length):(((w++z).map Pkx.row).take i)++(((w++z).map Pkx.row).drop (i+1)).take (w.length-(i+1))=(w.eraseIdx i).map Pkx.row:=by
 rw[←List.map_take,←List.map_drop,←List.map_take,←wQ,uS (by omega),qN (by omega),uS (by simp),zQ (l:=List.drop _ _) (by simp),qU]
theorem zLx{p:Pkx}(h:p.ok=true):p.sm:=by
 unfold Pkx.ok Pkx.hd at h;simp only[zC,decide_eq_true_eq,wK]at h;refine ⟨by omega,fun c hc=>?_⟩;have:=h.1.2 c hc;unfold Ckx.ok at this;simp only[zC,decide_eq_true_eq]at this;omega
theorem zUW{P:Program}{f:FuncId}{args args2:List PV}{F:SF}{L nx top:Nat}{K:PV→List (Nm×SBlk)→List Nm→Nat→Prop}{v:PV}{upd:List (Nm×SBlk)}{rd:List Nm}(hw:WkL F args args2)(h0:zAt args args2=[])(hc:Con P f args2 F L nx top v upd rd)(hk:K v upd rd top):CallVC P f args F L nx K:=
 CallVC.gen hw (by rw[h0];exact hc) (by rw[h0];exact hk)
structure Mv where
 what:Nat
 which:Nat
 later:Nat
def Tk.g(k:Tk)(s:Bool):Gx:=match s with|false=>k.g0|true=>k.g1
def Tk.w(k:Tk)(s:Bool):List Pkx:=match s with|false=>k.w0|true=>k.w1
def Tk.ev(k:Tk)(s:Bool)(h:Gx)(v o:List Pkx):Tk:=match s with
 |false=>⟨h,k.g1,v,k.w1++o,k.now⟩
 |true=>⟨k.g0,h,k.w0++o,v,k.now⟩
def Tk.tm(k:Tk)(t:Int):Tk:={k with now:=t}
theorem zUr(k:Tk)(t:Int)(s:Bool):(k.tm t).g s=k.g s:=by cases s<;>rfl
theorem zVK(k:Tk)(t:Int)(s:Bool):(k.tm t).w s=k.w s:=by cases s<;>rfl
theorem zUa(k:Tk)(s:Bool)(h:Gx)(v o:List Pkx):(k.ev s h v o).now=k.now:=by cases s<;>rfl
theorem zUv(k:Tk)(s:Bool)(h:Gx)(v o:List Pkx):(k.ev s h v o).g s=h:=by cases s<;>rfl
theorem zUt(k:Tk)(s:Bool)(h:Gx)(v o:List Pkx):(k.ev s h v o).g (!s)=k.g (!s):=by cases s<;>rfl
theorem zVU(k:Tk)(s:Bool)(h:Gx)(v o:List Pkx):(k.ev s h v o).w s=v:=by cases s<;>rfl
theorem zVN(k:Tk)(s:Bool)(h:Gx)(v o:List Pkx):(k.ev s h v o).w (!s)=k.w (!s)++o:=by cases s<;>rfl
def zJT(k:Tk)(s:Bool)(v:List Pkx)(kind:Int)(p:Pkx):Option Tk:=
 match zAU (k.g s) k.now kind p with
 |(h,o,e)=>if e=0 then some (k.ev s h v o) else none
def zK9(k:Tk)(s:Bool)(which:Nat)(kept lost:Bool):Option Tk:=
 if k.w s=[] then some k else
 let i:=which%(k.w s).length
 let v:=if kept then k.w s else (k.w s).eraseIdx i
 if lost then some (k.ev s (k.g s) v []) else zJT k s v 5 ((k.w s).getD i pk0)
def mvS(x:Tk×Nat)(m:Mv):Option (Tk×Nat):=
 let s:=m.which%2==1
 let k:=x.1.tm (x.1.now+m.later)
 if m.what%4=0 then
  if x.2=5 then some (k,x.2) else (zJT (k.tm (max k.now (k.g s).due)) s (k.w s) 4 pk0).map fun k'=>(k',x.2+1)
 else (zK9 k s (m.which/2) (m.what%4==3) (m.what%4==2)).map fun k'=>(k',x.2)
def qS(k:Tk):Option Tk:=
 if k.w0≠[] then zK9 k false 0 false false
 else if k.w1≠[] then zK9 k true 0 false false
 else if 0≤k.g0.due then zJT (k.tm (max k.now k.g0.due)) false k.w0 4 pk0
 else zJT (k.tm (max k.now k.g1.due)) true k.w1 4 pk0
def zRF(k:Tk):Prop:=k.w0=[]∧k.w1=[]∧k.g0.due<0∧k.g1.due<0
instance(k:Tk):Decidable (zRF k):=by unfold zRF;infer_instance
def qR:Nat→Tk→Option Tk
 |0,_=>none
 |f+1,k=>if zRF k then some k else (qS k).bind (qR f)
theorem zNo(f:Nat)(k:Tk):qR (f+1) k=if zRF k then some k else (qS k).bind (qR f):=rfl
theorem zIj{k:Tk}{s:Bool}{v:List Pkx}{kind:Int}{p:Pkx}{h:Gx}{o:List Pkx}(hs:zAU (k.g s) k.now kind p=(h,o,0)):zJT k s v kind p=some (k.ev s h v o):=by
 unfold zJT;simp only[hs,if_true]
def Wy(k:Tk)(n:Nat):Prop:=k.w0.length≤n∧k.w1.length≤n∧(∀p∈k.w0,p.sm)∧(∀p∈k.w1,p.sm)
theorem Wy.w{k:Tk}{n:Nat}(h:Wy k n)(s:Bool):(k.w s).length≤n∧∀p∈k.w s,p.sm:=by
 cases s;·exact ⟨h.1,h.2.2.1⟩
 ·exact ⟨h.2.1,h.2.2.2⟩
theorem Wy.of{k:Tk}{n:Nat}(h:∀s,(k.w s).length≤n∧∀p∈k.w s,p.sm):Wy k n:=⟨(h false).1,(h true).1,(h false).2,(h true).2⟩
structure Cor (c g:Gx):Prop where
 fr:g.fr=c.fr
 tt:g.tt=c.tt
 sec:g.sec=c.sec
 own:g.own=c.own
structure Fit (C:Bool→Gx):Prop where
 hd:∀s,(C s).hd=true
 pt:∀s,(C s).tt=(C !s).fr
theorem Fit.tf{C:Bool→Gx}(h:Fit C)(s:Bool):(C s).fr=(C !s).tt:=by
 have:=h.pt (!s);rw[Bool.not_not]at this;exact this.symm
theorem Fit.own{C:Bool→Gx}(h:Fit C)(s:Bool):zAZ (C s).own=true:=((zKK _).1 (h.hd s)).2.2.2.2.2.1
theorem Fit.tag{C:Bool→Gx}(h:Fit C)(s:Bool):0<(C s).own.tag∧(C s).own.tag<4294967296:=by
 have:=zJQ (zDX (h.own s)).1;omega
def pTo(C:Bool→Gx)(s:Bool)(tag:Int)(c:Ckx):Pkx:=⟨(C !s).fr,(C !s).tt,tag,[c]⟩
theorem zO9{C:Bool→Gx}(hC:Fit C){s:Bool}{g:Gx}(h:Cor (C s) g)(now tag:Int)(c:Ckx):zDB g now (pTo C s tag c)=zAQ g now tag c:=by
 have:pTo C s tag c=⟨g.tt,g.fr,tag,[c]⟩:=by
  unfold pTo;rw[h.fr,h.tt,hC.pt s,hC.tf s]
 rw[this,recv_kind]
theorem zQs{C:Bool→Gx}(hC:Fit C){s:Bool}{g:Gx}(h:Cor (C s) g)(hg:g.ok=true){now:Int}(hn:0≤now∧now≤1099511627776)(hta:g.ta≤now){tag:Int}{c:Ckx}(hp:(pTo C s tag c).ok=true):
  zAU g now 5 (pTo C s tag c)=((zAQ {g with ta:=now} now tag c).1,(zAQ {g with ta:=now} now tag c).2,0):=by
 rw[zFq hg ((zBk now).2 hn) hta hp];have:=zO9 hC (s:=s) (g:={g with ta:=now}) ⟨h.fr,h.tt,h.sec,h.own⟩ now tag c;rw[this]
theorem zLA{c g:Gx}(h:Cor c g)(t:Int):Cor c {g with ta:=t}:=⟨h.fr,h.tt,h.sec,h.own⟩
structure SI (C:Bool→Gx) (s:Bool) (now:Int) (w:Nat) (g:Gx):Prop where
 ok:g.ok=true
 cor:Cor (C s) g
 ta:g.ta≤now
 due:g.due≤now+6400
 tr:g.tr≤1+w
theorem SI.mono{C:Bool→Gx}{s:Bool}{now:Int}{w:Nat}{g:Gx}(h:SI C s now w g){now2:Int}(hn:now≤now2){w2:Nat}(hw:w≤w2):SI C s now2 w2 g:=
 ⟨h.ok,h.cor,by have:=h.ta;omega,by have:=h.due;omega,by have:=h.tr;omega⟩
theorem zPA{c g:Gx}(h:Cor c g)(now tag:Int)(x:Ckx):Cor c (zAQ g now tag x).1:=by
 unfold zAQ;split
 ·unfold zFF;split<;>exact h
 split;·exact h
 split
 ·unfold zDh;split<;>exact ⟨h.fr,h.tt,h.sec,h.own⟩
 split
 ·unfold zC9;simp only;split
  ·split;·exact h
   split;·exact ⟨h.fr,h.tt,h.sec,h.own⟩
   split<;>exact h
  ·exact h
 split
 ·split<;>exact ⟨h.fr,h.tt,h.sec,h.own⟩
 split
 ·unfold zGI;split;·exact ⟨h.fr,h.tt,h.sec,h.own⟩
  split<;>exact h
 split
 ·unfold zDA;split<;>exact ⟨h.fr,h.tt,h.sec,h.own⟩
 split
 ·split<;>exact ⟨h.fr,h.tt,h.sec,h.own⟩
 split
 ·split<;>exact ⟨h.fr,h.tt,h.sec,h.own⟩
 ·exact h
theorem zPB{g:Gx}{now:Int}{w:Nat}(h1:g.due≤now+6400)(h2:g.tr≤1+w)(h0:0≤now)(tag:Int)(x:Ckx):(zAQ g now tag x).1.due≤now+6400∧(zAQ g now tag x).1.tr≤1+w:=by
 have hb:∀s,(zAG g s now).due≤now+6400∧(zAG g s now).tr≤1+w:=fun s=>⟨by unfold zAG;simp only;omega,by unfold zAG;simp only;omega⟩
 have hr:∀s,(zAT g s).due≤now+6400∧(zAT g s).tr≤1+w:=fun s=>⟨by unfold zAT;simp only;omega,by unfold zAT;simp only;omega⟩
 have hg:g.due≤now+6400∧g.tr≤1+w:=⟨h1,h2⟩;unfold zAQ;split
 ·unfold zFF;split<;>exact hg
 split;·exact hg
 split
 ·unfold zDh;split;·exact hb 3
  ·exact hg
 split
 ·unfold zC9;simp only;split
  ·split;·exact hg
   split;·exact hr 4
   split<;>exact hg
  ·exact hg
 split
 ·split;·exact hr 4
  ·exact hg
 split
 ·unfold zGI;split;·exact hb 6
  split<;>exact hg
 split
 ·unfold zDA;split;·exact hr 7
  ·exact hg
 split
 ·split;·exact hr 7
  ·exact hg
 split
 ·split;·exact hg
  ·exact hr 7
 ·exact hg
theorem SI.recv{C:Bool→Gx}(hC:Fit C){s:Bool}{now:Int}{w:Nat}{g:Gx}(h:SI C s now w g)(hn:0≤now∧now≤1099511627776){tag:Int}{c:Ckx}(hp:(pTo C s tag c).ok=true):
  zAU g now 5 (pTo C s tag c)=((zAQ {g with ta:=now} now tag c).1,(zAQ {g with ta:=now} now tag c).2,0)∧SI C s now w (zAQ {g with ta:=now} now tag c).1:=by
 have hs:=zQs hC h.cor h.ok hn h.ta hp;have G:=zAo hs;have hd:=zPB (g:={g with ta:=now}) h.due h.tr hn.1 tag c;exact ⟨hs,G.ok,zPA (zLA h.cor now) now tag c,by rw[G.ta];exact vF _,hd.1,hd.2⟩
theorem SI.tick{C:Bool→Gx}{s:Bool}{now:Int}{w:Nat}{g:Gx}(h:SI C s now w g)(hn:0≤now∧now≤1099511627776){p:Pkx}(hw:w≤6):
  zAU g now 4 p=((zBy {g with ta:=now} now).1,(zBy {g with ta:=now} now).2,0)∧SI C s now (w+1) (zBy {g with ta:=now} now).1:=by
 have hs:=zQr (p:=p) h.ok ((zBk now).2 hn) h.ta;have G:=zAo hs;have h1:=h.due;have h2:=h.tr;refine ⟨hs,G.ok,?_,by rw[G.ta];exact vF _,?_,?_⟩<;>unfold zBy<;>split
 ·exact zLA h.cor now
 ·split<;>exact ⟨h.cor.fr,h.cor.tt,h.cor.sec,h.cor.own⟩
 ·show g.due≤now+6400;exact h1
 ·split;·show (-1:Int)≤now+6400;omega
  ·have:=zNU g.tr;show now+wtS g.tr≤now+6400;omega
 ·show g.tr≤1+((w+1:Nat):Int);omega
 ·split;·show (0:Int)≤1+((w+1:Nat):Int);omega
  ·show g.tr+1≤1+((w+1:Nat):Int);omega
theorem SI.tick_is{C:Bool→Gx}{s:Bool}{now:Int}{w:Nat}{g:Gx}(h:SI C s now w g)(hw:w≤6):
  zBy {g with ta:=now} now=({g with ta:=now},[])∨(0≤g.due∧g.due≤now∧zBy {g with ta:=now} now=({g with ta:=now,due:=now+wtS g.tr,tr:=g.tr+1},zAj {g with ta:=now})):=by
 have h2:=h.tr;unfold zBy;split;·exact .inl rfl
 rename_i hd;refine .inr ⟨?_,?_,?_⟩
 ·by_cases h0:0≤g.due;·exact h0
  ·exact absurd (.inl (by show g.due<0;omega)) hd
 ·by_cases h0:g.due≤now;·exact h0
  ·exact absurd (.inr (by show now<g.due;omega)) hd
 rw[if_neg (by show g.tr≠8;omega)]
def wts(wt:Pkx→Nat)(l:List Pkx):Nat:=(l.map wt).sum
structure Prot (C:Bool→Gx) (M:Bool→Int→Int→Gx→Prop) (P:Bool→Int→Int→Pkx→Prop) (wt:Pkx→Nat):Prop where
 fit:Fit C
 mM:∀{s now st g now2 st2},M s now st g→now≤now2→st≤st2→M s now2 st2 g
 mP:∀{s now st p now2 st2},P s now st p→now≤now2→st≤st2→P s now2 st2 p
 ok:∀{s now st p},P s now st p→p.ok=true
 ta:∀{s now st g} (t:Int),M s now st g→M s now st {g with ta:=t}
 tick:∀{s now st g} (d n:Int),M s now st g→M s now st {g with due:=d,tr:=n}
 wt4:∀p,wt p≤4
 kind:∀{s now st g p},(0≤now∧now≤60000)→Cor (C s) g→g.ok=true→M s now st g→P s now st p→
  ∃tag c,p=pTo C s tag c∧M s now st (zAQ g now tag c).1∧g.st≤(zAQ g now tag c).1.st∧(∀x∈(zAQ g now tag c).2,P (!s) now (zAQ g now tag c).1.st x)∧wts wt (zAQ g now tag c).2<wt p
 again:∀{s now st g},Cor (C s) g→M s now st g→∀x∈zAj g,P (!s) now g.st x
structure KI (C:Bool→Gx) (M:Bool→Int→Int→Gx→Prop) (P:Bool→Int→Int→Pkx→Prop) (k:Tk) (w:Nat):Prop where
 si:∀s,SI C s k.now w (k.g s)
 m:∀s,M s k.now (k.g !s).st (k.g s)
 p:∀s,∀p∈k.w s,P s k.now (k.g !s).st p
theorem KI.tm{C:Bool→Gx}{M:Bool→Int→Int→Gx→Prop}{P:Bool→Int→Int→Pkx→Prop}{wt:Pkx→Nat}(hP:Prot C M P wt){k:Tk}{w:Nat}(h:KI C M P k w){t:Int}(ht:k.now≤t):KI C M P (k.tm t) w:=
 ⟨fun s=>by rw[zUr];exact (h.si s).mono ht (zH _),fun s=>by rw[zUr,zUr];exact hP.mM (h.m s) ht (vF _),fun s p hp=>by rw[zVK]at hp;rw[zUr];exact hP.mP (h.p s p hp) ht (vF _)⟩
theorem KI.le{C:Bool→Gx}{M:Bool→Int→Int→Gx→Prop}{P:Bool→Int→Int→Pkx→Prop}{k:Tk}{w w2:Nat}(h:KI C M P k w)(hw:w≤w2):KI C M P k w2:=⟨fun s=>(h.si s).mono (vF _) hw,h.m,h.p⟩
theorem KI.ev{C:Bool→Gx}{M:Bool→Int→Int→Gx→Prop}{P:Bool→Int→Int→Pkx→Prop}{wt:Pkx→Nat}(hP:Prot C M P wt){k:Tk}{w w2:Nat}(h:KI C M P k w)(hw:w≤w2)(s:Bool){g:Gx}{v o:List Pkx}(hs:SI C s k.now w2 g)(hm:M s k.now (k.g !s).st g)(hst:(k.g s).st≤g.st)(hv:∀p∈v,p∈k.w s)(ho:∀x∈o,P (!s) k.now g.st x):KI C M P (k.ev s g v o) w2:=by
 have hnot:∀t:Bool,t=s∨t= !s:=by intro t;cases s<;>cases t<;>simp
 refine ⟨fun t=>?_,fun t=>?_,fun t p hp=>?_⟩
 ·rw[zUa];rcases hnot t with rfl|rfl;·rw[zUv];exact hs
  ·rw[zUt];exact (h.si _).mono (vF _) hw
 ·rw[zUa];rcases hnot t with rfl|rfl;·rw[zUv,zUt];exact hm
  ·rw[zUt,Bool.not_not,zUv];have:=h.m (!s);rw[Bool.not_not]at this;exact hP.mM this (vF _) hst
 ·rw[zUa];rcases hnot t with rfl|rfl
  ·rw[zVU]at hp;rw[zUt];exact h.p _ p (hv p hp)
  ·rw[zVN]at hp;rw[Bool.not_not,zUv];rcases List.mem_append.1 hp with hp|hp
   ·have:=h.p (!s) p hp;rw[Bool.not_not]at this;exact hP.mP this (vF _) hst
   ·exact ho p hp
theorem KI.recv{C:Bool→Gx}{M:Bool→Int→Int→Gx→Prop}{P:Bool→Int→Int→Pkx→Prop}{wt:Pkx→Nat}(hP:Prot C M P wt){k:Tk}{w:Nat}(h:KI C M P k w)(hn:0≤k.now∧k.now≤60000)(s:Bool){p:Pkx}(hp:p∈k.w s){v:List Pkx}(hv:∀p∈v,p∈k.w s):
  ∃g o,zAU (k.g s) k.now 5 p=(g,o,0)∧zJT k s v 5 p=some (k.ev s g v o)∧KI C M P (k.ev s g v o) w∧o.length≤1∧wts wt o<wt p∧(k.g s).st≤g.st:=by
 have hs:=h.si s;obtain ⟨tag,c,e,k1,k2,k3,k4⟩:=hP.kind hn (zLA hs.cor k.now) (by
  have:=hs.ok;rw[zHJ]at this ⊢;refine ⟨?_,this.2⟩;have h3:=this.1;rw[zKK]at h3 ⊢;exact ⟨h3.1,h3.2.1,h3.2.2.1,h3.2.2.2.1,h3.2.2.2.2.1,h3.2.2.2.2.2.1,(zBk k.now).2 (by omega)⟩) (hP.ta k.now (h.m s)) (h.p s p hp)
 have hok:=hP.ok (h.p s p hp);rw[e]at hok;obtain ⟨r1,r2⟩:=hs.recv hP.fit (by omega) hok;refine ⟨_,_,by rw[e];exact r1,by rw[e];exact zIj r1,h.ev hP (zH _) s r2 k1 k2 hv k3,(zAo r1).len,k4,k2⟩
theorem KI.tick{C:Bool→Gx}{M:Bool→Int→Int→Gx→Prop}{P:Bool→Int→Int→Pkx→Prop}{wt:Pkx→Nat}(hP:Prot C M P wt){k:Tk}{w:Nat}(h:KI C M P k w)(hn:0≤k.now∧k.now≤60000)(hw:w≤6)(s:Bool):
  ∃g o,zAU (k.g s) k.now 4 pk0=(g,o,0)∧zJT k s (k.w s) 4 pk0=some (k.ev s g (k.w s) o)∧KI C M P (k.ev s g (k.w s) o) (w+1)∧o.length≤1∧(k.g s).st≤g.st:=by
 have hs:=h.si s;obtain ⟨r1,r2⟩:=hs.tick (p:=pk0) (by omega) hw;refine ⟨_,_,r1,zIj r1,?_,(zAo r1).len,?_⟩;rotate_left
 ·rcases hs.tick_is hw with e|⟨_,_,e⟩<;>rw[e]<;>exact vF _
 rcases hs.tick_is hw with e|⟨_,_,e⟩
 ·refine h.ev hP (by omega) s r2 ?_ ?_ (fun p hp=>hp) ?_<;>rw[e]
  ·exact hP.ta _ (h.m s)
  ·exact vF _
  ·simp
 ·refine h.ev hP (by omega) s r2 ?_ ?_ (fun p hp=>hp) ?_<;>rw[e]
  ·exact hP.tick (k.now+wtS (k.g s).tr) ((k.g s).tr+1) (hP.ta k.now (h.m s))
  ·exact vF _
  ·exact hP.again (zLA hs.cor _) (hP.ta k.now (h.m s))
theorem zNp(k:Tk)(s:Bool)(g:Gx)(v o:List Pkx):(k.ev s g v o).w0.length+(k.ev s g v o).w1.length+(k.w s).length=k.w0.length+k.w1.length+v.length+o.length:=by
 cases s<;>simp[Tk.ev,Tk.w]<;>omega
theorem zQt{k:Tk}{s:Bool}{g:Gx}{v o:List Pkx}(h:(k.g s).st≤g.st):∀u,(k.g u).st≤((k.ev s g v o).g u).st:=by
 intro u;cases s<;>cases u
 ·exact h
 ·exact vF _
 ·exact vF _
 ·exact h
theorem KI.move{C:Bool→Gx}{M:Bool→Int→Int→Gx→Prop}{P:Bool→Int→Int→Pkx→Prop}{wt:Pkx→Nat}(hP:Prot C M P wt){k:Tk}{w:Nat}(h:KI C M P k w)(hw:w≤5){i:Nat}(hi:i<12)(h0:0≤k.now)(hn:k.now≤255*i+6400*w)(m:Mv)(hm:m.later≤255):
  ∃k2 w2,mvS (k,w) m=some (k2,w2)∧KI C M P k2 w2∧w2≤5∧0≤k2.now∧k2.now≤255*(i+1:Nat)+6400*w2∧k2.w0.length+k2.w1.length≤k.w0.length+k.w1.length+1∧∀u,(k.g u).st≤(k2.g u).st:=by
 have hT:=h.tm hP (t:=k.now+m.later) (by omega);obtain ⟨s,hs⟩:∃s,s=(m.which%2==1):=⟨_,rfl⟩;obtain ⟨K,hK⟩:∃K,K=k.tm (k.now+m.later):=⟨_,rfl⟩;have kn:K.now=k.now+m.later:=by rw[hK];rfl
 have kl:K.w0.length+K.w1.length=k.w0.length+k.w1.length:=by rw[hK];rfl
 have kst:∀u,(k.g u).st≤(K.g u).st:=by intro u;rw[hK,zUr];exact vF _
 unfold mvS;simp only[←hs,←hK];rw[←hK]at hT;split
 ·split
  ·rename_i h5;exact ⟨_,_,rfl,hT,by omega,by omega,by omega,by omega,kst⟩
  ·rename_i h5;have hd:=(hT.si s).due;obtain ⟨K2,hK2⟩:∃K2,K2=K.tm (max K.now (K.g s).due):=⟨_,rfl⟩;have hT2:=hT.tm hP (t:=max K.now (K.g s).due) (by omega);rw[←hK2]at hT2 ⊢;have kn2:K2.now=max K.now (K.g s).due:=by rw[hK2];rfl
   have kw2:K.w s=K2.w s:=by rw[hK2,zVK]
   have kl2:K2.w0.length+K2.w1.length=K.w0.length+K.w1.length:=by rw[hK2];rfl
   obtain ⟨g,o,e1,e2,e3,e4,e5⟩:=hT2.tick hP (by omega) (by omega) s;rw[kw2,e2];have el:=zNp K2 s g (K2.w s) o;exact ⟨_,_,rfl,e3,by omega,by rw[zUa];omega,by rw[zUa];omega,by omega,fun u=>Int.le_trans (kst u) (by have:=zQt (v:=K2.w s) (o:=o) e5 u;rwa[hK2,zUr,←hK2]at this)⟩
 ·unfold zK9;simp only;split;·exact ⟨_,_,rfl,hT,hw,by omega,by omega,by omega,kst⟩
  rename_i hne;have hlen:0<(K.w s).length:=List.length_pos_iff.2 hne;obtain ⟨i',hi'⟩:∃i',i'=m.which/2%(K.w s).length:=⟨_,rfl⟩;have hlt:i'<(K.w s).length:=by rw[hi'];exact vE _ hlen
  rw[←hi'];obtain ⟨v,hv⟩:∃v,v=if (m.what%4==3)=true then K.w s else (K.w s).eraseIdx i':=⟨_,rfl⟩
  have hvm:∀p∈v,p∈K.w s:=by
   intro p hp;rw[hv]at hp;split at hp;·exact hp
   ·exact List.mem_of_mem_eraseIdx hp
  have hvl:v.length≤(K.w s).length:=by
   rw[hv];split;·exact zH _
   ·exact List.length_eraseIdx_le _ _
  rw[←hv];split
  ·have el:=zNp K s (K.g s) v [];refine ⟨_,_,rfl,hT.ev hP (zH _) s (hT.si s) (hT.m s) (vF _) hvm (by simp),hw,by rw[zUa];omega,by rw[zUa];omega,by simp at el ⊢;omega,fun u=>Int.le_trans (kst u) (zQt (vF _) u)⟩
  ·have hp:(K.w s).getD i' pk0∈K.w s:=by
    rw[zE,zS hlt];exact uH hlt
   obtain ⟨g,o,e1,e2,e3,e4,_,e6⟩:=hT.recv hP (by omega) s hp hvm;rw[e2];have el:=zNp K s g v o;exact ⟨_,_,rfl,e3,hw,by rw[zUa];omega,by rw[zUa];omega,by omega,fun u=>Int.le_trans (kst u) (zQt e6 u)⟩
theorem zQu{k:Tk}{s:Bool}(h1:k.w0=[])(h2:k.w1=[])(hd:0≤(k.g s).due)(hs0:s=true→k.g0.due<0){g:Gx}{o:List Pkx}(hs:zAU (k.g s) (max k.now (k.g s).due) 4 pk0=(g,o,0))(f:Nat):qR (f+1) k=qR f ((k.tm (max k.now (k.g s).due)).ev s g [] o):=by
 have e2:=zIj (k:=k.tm (max k.now (k.g s).due)) (s:=s) (v:=[]) (by rw[zUr];exact hs);cases s with
 |false=>
  have hd:0≤k.g0.due:=hd;rw[zNo];unfold qS;rw[if_neg (by unfold zRF;exact fun h=>by omega),if_neg (by simp[h1]),if_neg (by simp[h2]),if_pos hd,h1];exact congrArg (fun r=>Option.bind r (qR f)) e2
 |true=>
  have hd:0≤k.g1.due:=hd;rw[zNo];unfold qS;rw[if_neg (by unfold zRF;exact fun h=>by omega),if_neg (by simp[h1]),if_neg (by simp[h2]),if_neg (by have:=hs0 rfl;omega),h2];exact congrArg (fun r=>Option.bind r (qR f)) e2
def Ends(Q:Tk→Prop)(n:Nat)(k:Tk):Prop:=∃k2,(∀f,n≤f→qR f k=some k2)∧Q k2
theorem Ends.step{Q:Tk→Prop}{n:Nat}{k k1:Tk}(h:Ends Q n k1)(e:∀f,qR (f+1) k=qR f k1):Ends Q (n+1) k:=by
 obtain ⟨k2,h1,h2⟩:=h;refine ⟨k2,fun f hf=>?_,h2⟩;obtain ⟨f',rfl⟩:∃f',f=f'+1:=⟨f-1,by omega⟩;rw[e];exact h1 f' (by omega)
theorem Ends.le{Q:Tk→Prop}{n m:Nat}{k:Tk}(h:Ends Q n k)(hm:n≤m):Ends Q m k:=by
 obtain ⟨k2,h1,h2⟩:=h;exact ⟨k2,fun f hf=>h1 f (by omega),h2⟩
theorem zS2{k:Tk}{s:Bool}(h1:k.w s=[])(h2:k.w (!s)=[]):k.w0=[]∧k.w1=[]:=by cases s<;>exact ⟨by assumption,by assumption⟩
theorem KI.due{C:Bool→Gx}{M:Bool→Int→Int→Gx→Prop}{P:Bool→Int→Int→Pkx→Prop}{wt:Pkx→Nat}(hP:Prot C M P wt){k:Tk}{w:Nat}(h:KI C M P k w)(hn:0≤k.now∧k.now≤50000)(hw:w≤6){s:Bool}(h1:k.w s=[])(h2:k.w (!s)=[])(hd:0≤(k.g s).due)(hs0:s=true→k.g0.due<0){a:Pkx}(ha:∀t,zAj {k.g s with ta:=t}=[a]):
  ∃k1,(∀f,qR (f+1) k=qR f k1)∧KI C M P k1 (w+1)∧k1.w s=[]∧k1.w (!s)=[a]∧(k1.g s).st=(k.g s).st∧k1.g (!s)=k.g (!s)∧(k1.g s).peer=(k.g s).peer∧0≤k1.now∧k1.now≤60000∧k.now≤k1.now:=by
 have hdu:=(h.si s).due;obtain ⟨z0,z1⟩:=zS2 h1 h2;obtain ⟨T,hT⟩:∃T,T=max k.now (k.g s).due:=⟨_,rfl⟩;obtain ⟨K,hK⟩:∃K,K=k.tm T:=⟨_,rfl⟩;have hk:=h.tm hP (t:=T) (by omega);rw[←hK]at hk;have kn:K.now=T:=by rw[hK];rfl
 have kg:∀u,K.g u=k.g u:=by intro u;rw[hK,zUr]
 have kw:∀u,K.w u=k.w u:=by intro u;rw[hK,zVK]
 obtain ⟨g,o,e1,_,e3,_⟩:=hk.tick hP (by omega) hw s;obtain ⟨r1,_⟩:=(hk.si s).tick (p:=pk0) (by omega) hw;have ti:=(hk.si s).tick_is hw;rw[e1]at r1;rw[kg,kn]at r1 ti;have hgo:g={k.g s with ta:=T,due:=T+wtS (k.g s).tr,tr:=(k.g s).tr+1}∧o=[a]:=by
  rcases ti with ti|⟨_,_,ti⟩
  ·have:zBy {k.g s with ta:=T} T=({k.g s with ta:=T,due:=T+wtS (k.g s).tr,tr:=(k.g s).tr+1},zAj {k.g s with ta:=T}):=by
    have:=(h.si s).tr;unfold zBy;rw[if_neg (by show ¬((k.g s).due<0∨T<(k.g s).due);omega),if_neg (by show (k.g s).tr≠8;omega)]
   rw[this,ha]at r1;simp only[wL,and_true]at r1;exact r1
  ·rw[ti,ha]at r1;simp only[wL,and_true]at r1;exact r1
 obtain ⟨hg,ho⟩:=hgo;rw[ho]at e1 e3;rw[kg,kn]at e1;rw[kw,h1]at e3;have q:=zQu z0 z1 hd hs0 (by rw[←hT];exact e1);rw[←hT,←hK]at q;refine ⟨_,q,e3,zVU ..,?_,?_,?_,?_,?_,?_,?_⟩;·rw[zVN,kw,h2];rfl
 ·rw[zUv,hg]
 ·rw[zUt,kg]
 ·rw[zUv,hg]
 ·rw[zUa];omega
 ·rw[zUa];omega
 ·rw[zUa];omega
end Go.Proofs.YtifhjhbfhdcahaaGreat
end
section
namespace Go.Tx
theorem zVC{E:Env}{F:SF}{w:World}(h:HRel E F w){a n:Nm}(hE:E n=none){e:TypeId}{wd:Nat}{o p:Bool}{rs:List (List PV)}(ha:F a=some (.rows e wd o p rs)){i:BI}(hi:E a=some i):
  StepR E F w (E.set n i) ((F.set a .dead).set n (.rows e wd o p rs)) w:=by
 have hle:=zUV (i:=i) hE;have hna:a≠n:=fun hh=>by rw[hh,hE]at hi;cases hi
 have hback:∀m b j,((F.set a .dead).set n (.rows e wd o p rs)) m=some b→b.live=true→(E.set n i) m=some j→∃m',F m'=some b∧E m'=some j∧(m=n→m'=a)∧(m≠n→m'=m∧m≠a):=by
  intro m b j hm hb hj;unfold SF.set at hm;split at hm
  ·rename_i he;subst he;injection hm with hm;subst hm;rw[zUO]at hj;injection hj with hj;subst hj;exact ⟨a,ha,hi,fun _=>rfl,fun h=>absurd rfl h⟩
  ·rename_i he;rw[zUP E _ he]at hj;split at hm;·injection hm with hm;subst hm;cases hb
   ·rename_i he2;exact ⟨m,hm,hj,fun h=>absurd h he,fun _=>⟨rfl,he2⟩⟩
 have hN:NewAt E F w (E.set n i) ((F.set a .dead).set n (.rows e wd o p rs)) w:=by
  refine ⟨hle,rfl,rfl,rfl,zH _,fun _ _ _=>rfl,fun m b j hm ho hj hz=>?_⟩;obtain ⟨m',h1,h2,_⟩:=hback m b j hm (zAe ho) hj;exact .inr ⟨m',b,j,h1,ho,h2,hz,rfl⟩
 refine hN.step ⟨fun m b hm=>?_,fun m1 m2 b c j1 j2 h1 h2 h12 ho hl hj1 hj2 hz1 hz2=>?_⟩
 ·unfold SF.set at hm;split at hm
  ·rename_i he;subst he;injection hm with hm;subst hm;have:=(h.blk a _ ha).mono hN.ext fun _ _ _=>rfl
   obtain ⟨j,k1,k2⟩:=this;rw[hle _ _ hi]at k1;injection k1 with k1;subst k1;exact ⟨i,zUO _ _ _,k2⟩
  split at hm;·injection hm with hm;subst hm;trivial
  ·exact (h.blk m b hm).mono hN.ext fun _ _ _=>rfl
 ·obtain ⟨x1,a1,a2,a3,a4⟩:=hback m1 b j1 h1 (zAe ho) hj1;obtain ⟨x2,b1,b2,b3,b4⟩:=hback m2 c j2 h2 hl hj2;refine h.sep x1 x2 b c j1 j2 a1 b1 ?_ ho hl a2 b2 hz1 hz2;by_cases e1:m1=n
  ·by_cases e2:m2=n;·exact absurd (e1.trans e2.symm) h12
   ·rw[a3 e1,(b4 e2).1];exact fun h=>(b4 e2).2 h.symm
  ·by_cases e2:m2=n;·rw[(a4 e1).1,b3 e2];exact (a4 e1).2
   ·rw[(a4 e1).1,(b4 e2).1];exact h12
theorem zVS{L:Nat}{F0:SF}{t:List (Option PV)}{H:List (Nm×SBlk)}{nx:Nat}(a n:Nm){e e2:TypeId}{wd wd2:Nat}{o p o2 p2:Bool}{row row1:List PV}{rs:List (List PV)}(ha:look F0 H a=some (.rows e2 wd2 o2 p2 rs))(hn:look F0 H n=some (.rows e wd o p [row]))(hna:n≠a)(hne:n≠⟨L,nx⟩)(hl:row1.length=row.length)
  (hc:∀c:Nat,row1[c]?=row[c]?∨∃r l,row[c]?=some (PV.sl a r l)∧row1[c]?=some (PV.sl ⟨L,nx⟩ r l)):
  Sub L F0 ⟨t,H,nx⟩ ⟨t,zAl H [(a,.dead),(⟨L,nx⟩,.rows e2 wd2 o2 p2 rs),(n,.rows e wd o false [row1])],nx+1⟩:=by
 intro B E0 w0 E ac w hd0 hR;have hf:=(hR.fresh hd0).1 nx (zH _);obtain ⟨i,hi,_⟩:=hR.step.rel.blk a _ ha;have hS:=zVC hR.step.rel hf ha hi;have hle:=hS.le;have hn1:(((look F0 H).set a .dead).set ⟨L,nx⟩ (.rows e2 wd2 o2 p2 rs)) n=some (.rows e wd o p [row]):=by simp only[SF.set,if_neg hne,if_neg hna];exact hn
 have hEE:Ext (EE (E.set ⟨L,nx⟩ i) p) w (Zn (E.set ⟨L,nx⟩ i) (((look F0 H).set a .dead).set ⟨L,nx⟩ (.rows e2 wd2 o2 p2 rs)) w) (E.set ⟨L,nx⟩ i) w (Zn (E.set ⟨L,nx⟩ i) (((look F0 H).set a .dead).set ⟨L,nx⟩ (.rows e2 wd2 o2 p2 rs)) w):=by
  refine ⟨?_,fun _ h=>h,fun _ _=>rfl⟩;cases p;·exact Env.le.refl _
  ·intro k i hk;cases hk
 have hS2:=zUq hS.rel hn1 (rs1:=[row1]) rfl (by
   intro r row' row1' h1 h2;cases r with
   |zero=>simp at h1 h2;subst h1;subst h2;exact hl
   |succ r=>simp at h1) (by
   intro r row' row1' c x y u h1 h2 h3 h4 h5;cases r with
   |succ r=>simp at h1
   |zero=>
    simp at h1 h2;subst h1;subst h2;rcases hc c with h|⟨r,l,hx,hy⟩
    ·rw[h4,h3]at h;injection h with h;subst h;exact VR.mono hEE _ _ h5
    ·rw[h3]at hx;injection hx with hx;subst hx;rw[h4]at hy;injection hy with hy;subst hy;have h6:=VR.mono hEE _ _ h5;simp only[VR]at h6 ⊢;rw[hle _ _ hi]at h6;rw[zUO];exact h6)
 have hT:=hS.trans hS2;have hlk:look F0 (zAl H [(a,SBlk.dead),(⟨L,nx⟩,SBlk.rows e2 wd2 o2 p2 rs),(n,.rows e wd o false [row1])])=(((look F0 H).set a .dead).set ⟨L,nx⟩ (.rows e2 wd2 o2 p2 rs)).set n (.rows e wd o false [row1]):=by rw[zAP];rfl
 refine ⟨E.set ⟨L,nx⟩ i,by rw[hlk];exact hR.step.trans hT,⟨by simpa using hR.tmps.size,fun j v hv=>?_⟩,by rw[hlk];exact hR.marks.mono hT.ext,fun m h1 h2=>?_⟩
 ·obtain ⟨v',a1,a2⟩:=hR.tmps.val j v hv;exact ⟨v',a1,by rw[hlk];exact VR.mono hT.ext _ _ a2⟩
 ·by_cases he:m=⟨L,nx⟩;·subst he;exact ⟨rfl,by simp⟩
  ·rw[zUP E _ he]at h2;have:=hR.news m h1 h2;exact ⟨this.1,by simp only at this ⊢;omega⟩
end Go.Tx
end
section
namespace Go.Proofs.YtifhjhbfhdcahaaGreat
open Go.Tx
set_option maxRecDepth 100000
theorem Wy.ev{k:Tk}{n:Nat}(h:Wy k n){s:Bool}{g:Gx}{v o:List Pkx}(hv:∀p∈v,p∈k.w s)(hl:v.length≤(k.w s).length)(ho:o=[]∨∃x,o=[x]∧x.sm):Wy (k.ev s g v o) (n+1):=by
 obtain ⟨a,b,c,d⟩:=h;have ho2:o.length≤1∧∀p∈o,p.sm:=by
  rcases ho with rfl|⟨x,rfl,hx⟩;·simp
  ·refine ⟨by simp,fun p hp=>?_⟩;simp at hp;subst hp;exact hx
 cases s
 ·refine ⟨by show v.length≤_;have:v.length≤k.w0.length:=hl;omega,by show (k.w1++o).length≤_;rw[zU];omega,fun p hp=>c p (hv p hp),fun p hp=>?_⟩;rcases List.mem_append.1 hp with hp|hp;·exact d p hp
  ·exact ho2.2 p hp
 ·refine ⟨by show (k.w0++o).length≤_;rw[zU];omega,by show v.length≤_;have:v.length≤k.w1.length:=hl;omega,fun p hp=>?_,fun p hp=>d p (hv p hp)⟩;rcases List.mem_append.1 hp with hp|hp;·exact c p hp
  ·exact ho2.2 p hp
theorem Wy.tm{k:Tk}{n:Nat}(h:Wy k n)(t:Int):Wy (k.tm t) n:=h
def Mv.row(m:Mv):List PV:=[.int .u8 m.what,.int .u8 m.which,.int .u8 m.later]
def Mv.Ok(m:Mv):Prop:=m.what<256∧m.which<256∧m.later<256
theorem Wy.le{k:Tk}{n n2:Nat}(h:Wy k n)(hn:n≤n2):Wy k n2:=⟨by have:=h.1;omega,by have:=h.2.1;omega,h.2.2⟩
end Go.Proofs.YtifhjhbfhdcahaaGreat
end
section
namespace Go.Proofs.YtifhjhbfhdcahaaGreat
open Go.ChangeShapes Go.WideShapes Go.ChangeAt Go.RowKit Go.Tx
set_option maxRecDepth 100000
theorem zSC:Tryz.prog.underlying 23=some (.slice 60):=by kernel_rfl
theorem rowsOf{α:Type}{p:List PV→Prop}{f:α→List PV}{ok:α→Prop}(hp:∀xs,p xs→∃a,xs=f a∧ok a):∀(rs:List (List PV)),(∀r∈rs,p r)→∃l:List α,rs=l.map f∧∀a∈l,ok a
 | [],_=>⟨[],rfl,by simp⟩
 |r::rs,h=>by
  obtain ⟨l,e,hl⟩:=rowsOf hp rs (fun x hx=>h x (by simp[hx]));obtain ⟨a,ha,ho⟩:=hp r (h r (by simp));refine ⟨a::l,by rw[e,ha];rfl,fun x hx=>?_⟩;rcases List.mem_cons.1 hx with rfl|hx;·exact ho
  ·exact hl x hx
theorem zLB{W:World}{Z:Nat→Prop}{E:Env}{x:PV}{v:Value}(h:VRl W Z E [x] [v]):VR W Z E x v:=by
 simp only[VRl]at h;obtain ⟨v',t,h1,h2,h3⟩:=h;simp at h1;rw[h1.1];exact h2
theorem zS3{n:Nat}{xs:List PV}(h:Shp tys (n+4) 60 xs):∃m:Mv,xs=m.row∧m.Ok:=by
 have h:=Shp.struct g60 h;simp only[List.foldr]at h;obtain ⟨_,_,rfl,h1,_,_,rfl,h2,_,_,rfl,h3,rfl⟩:=h;obtain ⟨_,rfl,w1⟩:=Shp.int g5 h1;obtain ⟨_,rfl,w2⟩:=Shp.int g5 h2;obtain ⟨_,rfl,w3⟩:=Shp.int g5 h3;obtain ⟨a1,rfl,b1⟩:=wf8 w1;obtain ⟨a2,rfl,b2⟩:=wf8 w2;obtain ⟨a3,rfl,b3⟩:=wf8 w3;exact ⟨⟨a1,a2,a3⟩,rfl,b1,b2,b3⟩
theorem zSD{n:Nat}{xs:List PV}(h:Shp tys (n+5) 23 xs):∃l:List Mv,xs=[.fs 3 (l.map Mv.row)]∧(∀m∈l,m.Ok)∧l.length≤maxLen:=by
 obtain ⟨wd,rs,h1,h2,h3,h4⟩:=Shp.slice g23 h;have hwd:wd=3:=by
  have:(tys.get 60).map (·.size)=some 3:=by kernel_rfl
  rw[this]at h3;exact (Option.some.inj h3).symm
 subst hwd;obtain ⟨l,hl,ho⟩:=rowsOf (f:=Mv.row) (ok:=Mv.Ok) (fun xs hx=>zS3 hx) rs h4;refine ⟨l,?_,ho,?_⟩;·rw[h1,hl]
 ·rw[hl]at h2;simpa using h2
end Go.Proofs.YtifhjhbfhdcahaaGreat
end
section
namespace Go.Proofs.YtifhjhbfhdcahaaGreat
open Go.Tx
set_option maxRecDepth 100000
set_option maxHeartbeats 16000000
def zLy(w:Nat)(n:Int)(s:List UInt8)(g:Gx):Gx:=
 if w%12=0 then {g with st:=n} else if w%12=1 then {g with fr:=n} else if w%12=2 then {g with tt:=n}
 else if w%12=3 then {g with sec:=s.take (min s.length 40)} else if w%12=4 then {g with own:={g.own with tag:=n}}
 else if w%12=5 then {g with peer:={g.peer with tag:=n}} else if w%12=6 then {g with ck:=s.take (min s.length 40)}
 else if w%12=7 then {g with ta:=n} else if w%12=8 then {g with due:=n} else if w%12=9 then {g with tr:=n}
 else if w%12=10 then {g with peer:=g.own} else {g with peer:=zIni}
theorem zLz{F:SF}{L nx:Nat}(w:Nat)(hw:w<256)(n:Int)(s:List UInt8)(g:Gx):Con Tryz.prog 20 [.agg [.int .u8 w,.int .i64 n,.str s],.agg g.row] F L nx nx (.agg (zLy w n s g).row) [] []:=by
 have d12:IntKind.u8.wrap ((w:Int).tmod 12)=((w%12:Nat):Int):=by
  rw[wY (by omega)];simp[IntKind.wrap,IntKind.signed,IntKind.bits];omega
 have d12':(w:Int).tmod 12=((w%12:Nat):Int):=by rw[wY (by omega)];rfl
 have hj:w%12<12:=vE _ (by omega);unfold zLy;obtain ⟨j,hj9⟩:∃j,j=w%12:=⟨_,rfl⟩;rw[←hj9]at d12 d12' hj;simp only[←hj9];have hcase:j=0∨j=1∨j=2∨j=3∨j=4∨j=5∨j=6∨j=7∨j=8∨j=9∨j=10∨j=11:=by omega
 have mn:∀a:Nat,(min (a:Int) 40).toNat=min a 40:=fun a=>by omega
 have j2:((2:Nat):Int)=2:=rfl;have j3:((3:Nat):Int)=3:=rfl;have j4:((4:Nat):Int)=4:=rfl;have j5:((5:Nat):Int)=5:=rfl;have j6:((6:Nat):Int)=6:=rfl;have j7:((7:Nat):Int)=7:=rfl;have j8:((8:Nat):Int)=8:=rfl;have j9:((9:Nat):Int)=9:=rfl;have j10:((10:Nat):Int)=10:=rfl;have j11:((11:Nat):Int)=11:=rfl;refine bdy Tryz.f20 ?_;intro F3 hF1 hF2;simp only[Gx.row];clear hj9 hj;rcases hcase with rfl|rfl|rfl|rfl|rfl|rfl|rfl|rfl|rfl|rfl|rfl|rfl;all_goals
  simp only[Tryz.f20,d12',mn,zIni,j2,j3,j4,j5,j6,j7,j8,j9,j10,j11,zW,vK,Int.reduceBEq,go_sem];repeat refine sd2 ?_
  exact ps0 (by simp only[vH,go_sem])
end Go.Proofs.YtifhjhbfhdcahaaGreat
end
section
namespace Go.Proofs.YtifhjhbfhdcahaaGreat
open Go.ChangeShapes Go.WideShapes Go.ChangeAt Go.RowKit Go.Tx
set_option maxRecDepth 100000
theorem zJU{P:Program}{H:Type}{enc:TypeId×Value→H}{w:World}{base:Nat}{spare:TypeId→Bool}{held:Bool}{t0 t1 t2 t3 t4 t5 t6 t7 t8 t9:TypeId}{args:Array Value}{ds:List (DataW H)}{ps:List MemPlace}(h:DataW.TrodAll enc P w base spare held [t0,t1,t2,t3,t4,t5,t6,t7,t8,t9] args.toList ds ps):
  ∃v0 v1 v2 v3 v4 v5 v6 v7 v8 v9 d0 d1 d2 d3 d4 d5 d6 d7 d8 d9 p0 p1 p2 p3 p4 p5 p6 p7 p8 p9,args= #[v0,v1,v2,v3,v4,v5,v6,v7,v8,v9]∧ds=[d0,d1,d2,d3,d4,d5,d6,d7,d8,d9]∧ps=p0++p1++p2++p3++p4++p5++p6++p7++p8++p9∧DataW.Trod enc P w base spare held t0 v0 d0 p0∧DataW.Trod enc P w base spare held t1 v1 d1 p1∧DataW.Trod enc P w base spare held t2 v2 d2 p2∧DataW.Trod enc P w base spare held t3 v3 d3 p3∧DataW.Trod enc P w base spare held t4 v4 d4 p4∧DataW.Trod enc P w base spare held t5 v5 d5 p5∧DataW.Trod enc P w base spare held t6 v6 d6 p6∧DataW.Trod enc P w base spare held t7 v7 d7 p7∧DataW.Trod enc P w base spare held t8 v8 d8 p8∧DataW.Trod enc P w base spare held t9 v9 d9 p9:=by
 obtain ⟨v0,vs0,d0,ds0,p0,q0,hargs,rfl,rfl,hd0,h⟩:=trodAll_cons h;obtain ⟨v1,vs1,d1,ds1,p1,q1,rfl,rfl,rfl,hd1,h⟩:=trodAll_cons h;obtain ⟨v2,vs2,d2,ds2,p2,q2,rfl,rfl,rfl,hd2,h⟩:=trodAll_cons h;obtain ⟨v3,vs3,d3,ds3,p3,q3,rfl,rfl,rfl,hd3,h⟩:=trodAll_cons h;obtain ⟨v4,vs4,d4,ds4,p4,q4,rfl,rfl,rfl,hd4,h⟩:=trodAll_cons h;obtain ⟨v5,vs5,d5,ds5,p5,q5,rfl,rfl,rfl,hd5,h⟩:=trodAll_cons h;obtain ⟨v6,vs6,d6,ds6,p6,q6,rfl,rfl,rfl,hd6,h⟩:=trodAll_cons h;obtain ⟨v7,vs7,d7,ds7,p7,q7,rfl,rfl,rfl,hd7,h⟩:=trodAll_cons h;obtain ⟨v8,vs8,d8,ds8,p8,q8,rfl,rfl,rfl,hd8,h⟩:=trodAll_cons h;obtain ⟨v9,vs9,d9,ds9,p9,q9,rfl,rfl,rfl,hd9,h⟩:=trodAll_cons h;obtain ⟨rfl,rfl,rfl⟩:=trodAll_nil h;exact ⟨v0,v1,v2,v3,v4,v5,v6,v7,v8,v9,d0,d1,d2,d3,d4,d5,d6,d7,d8,d9,p0,p1,p2,p3,p4,p5,p6,p7,p8,p9,by cases args;simp_all,rfl,by simp,hd0,hd1,hd2,hd3,hd4,hd5,hd6,hd7,hd8,hd9⟩
theorem zKO:Tryz.prog.underlying 3=some (.int .i64):=by kernel_rfl
theorem zQv:Tryz.prog.underlying 9=some .string:=by kernel_rfl
theorem zLC:∃fs,Tryz.prog.underlying 26=some (.struct fs):=zTD (by kernel_rfl)
theorem zLD:∃fs,Tryz.prog.underlying 46=some (.struct fs):=zTD (by kernel_rfl)
theorem zLE{n:Nat}{xs:List PV}(h:Shp tys (n+4) 26 xs):∃d:Ini,xs=d.row∧d.ck.length≤maxLen:=by
 have h:=Shp.struct g26 h;simp only[List.foldr]at h;obtain ⟨_,_,rfl,h1,_,_,rfl,h2,_,_,rfl,h3,_,_,rfl,h4,_,_,rfl,h5,_,_,rfl,h6,rfl⟩:=h;obtain ⟨a1,rfl,_⟩:=Shp.int g3 h1;obtain ⟨a2,rfl,_⟩:=Shp.int g3 h2;obtain ⟨a3,rfl,_⟩:=Shp.int g3 h3;obtain ⟨a4,rfl,_⟩:=Shp.int g3 h4;obtain ⟨a5,rfl,_⟩:=Shp.int g3 h5;obtain ⟨s6,rfl,l6⟩:=Shp.str g9 h6;exact ⟨{tag:=a1,win:=a2,out:=a3,inn:=a4,tsn:=a5,ck:=s6},rfl,l6⟩
theorem zLF{n:Nat}{xs:List PV}(h:Shp tys (n+4) 46 xs):∃(w:Nat) (k:Int) (s:List UInt8),xs=[.int .u8 w,.int .i64 k,.str s]∧w<256:=by
 have h:=Shp.struct g46 h;simp only[List.foldr]at h;obtain ⟨_,_,rfl,h1,_,_,rfl,h2,_,_,rfl,h3,rfl⟩:=h;obtain ⟨_,rfl,w1⟩:=Shp.int g5 h1;obtain ⟨k,rfl,_⟩:=Shp.int g3 h2;obtain ⟨s,rfl,_⟩:=Shp.str g9 h3;obtain ⟨a1,rfl,b1⟩:=wf8 w1;exact ⟨a1,k,s,rfl,b1⟩
end Go.Proofs.YtifhjhbfhdcahaaGreat
end
section
namespace Go.Proofs.YtifhjhbfhdcahaaGreat
open Go.Tx
set_option maxRecDepth 100000
set_option maxHeartbeats 16000000
theorem zDY{F:SF}{L nx:Nat}(d:Ini):Con Tryz.prog 33 [.agg d.row] F L nx nx (.bool d.ok) [] []:=by
 obtain ⟨tag,win,out,inn,tsn,ck⟩:=d;have hok:Ini.ok ⟨tag,win,out,inn,tsn,ck⟩=(zA2 32 tag&&((tag !=0)&&(zA2 32 win&&(zA2 16 out&&((out !=0)&&(zA2 16 inn&&((inn !=0)&&(zA2 32 tsn&&decide ((ck.length:Int)≤200))))))))):=by
  unfold Ini.ok;have p:∀b x:Int,zA2 b x=true→decide (0<x)=(x !=0):=by
   intro b x h;have:=(zBA h).1;by_cases hx:x=0;·subst hx;rfl
   ·rw[show (x !=0)=true by simpa using hx];exact decide_eq_true (by omega)
  simp only[Bool.and_assoc];cases h1:zA2 32 tag<;>cases h2:zA2 32 win<;>cases h3:zA2 32 tsn<;>cases h4:zA2 16 out<;>cases h5:zA2 16 inn<;>simp only[zX,vJ,zR]
  rw[p _ _ h1,p _ _ h4,p _ _ h5]
 rw[hok];refine bdy Tryz.f33 ?_;intro F3 hF1 hF2;simp only[Tryz.f33,Ini.row,go_sem];repeat refine sd2 ?_
 refine CallVC.same (zGQ tag) ?_;cases h1:zA2 32 tag with
 |false=>
  simp only[zX,go_sem];repeat refine sd2 ?_
  exact PostF.rs (v0:=.bool false) (.inr rfl)
 | true =>
  cases h2:(tag !=0) with
  |false=>
   simp only[h2,zR,zX,go_sem];repeat refine sd2 ?_
   exact PostF.rs (v0:=.bool false) (.inr rfl)
  | true =>
   simp only[h2,zR,zX,go_sem];repeat refine sd2 ?_
   refine CallVC.same (zGQ win) ?_;cases h3:zA2 32 win with
   |false=>
    simp only[zX,go_sem];repeat refine sd2 ?_
    exact PostF.rs (v0:=.bool false) (.inr rfl)
   | true=>
    simp only[zR,zX,go_sem];repeat refine sd2 ?_
    refine CallVC.same (zFE out) ?_;cases h4:zA2 16 out with
    |false=>
     simp only[zX,go_sem];repeat refine sd2 ?_
     exact PostF.rs (v0:=.bool false) (.inr rfl)
    | true=>
     cases h5:(out !=0) with
     |false=>
      simp only[h5,zR,zX,go_sem];repeat refine sd2 ?_
      exact PostF.rs (v0:=.bool false) (.inr rfl)
     | true=>
      simp only[h5,zR,zX,go_sem];repeat refine sd2 ?_
      refine CallVC.same (zFE inn) ?_;cases h6:zA2 16 inn with
      |false=>
       simp only[zX,go_sem];repeat refine sd2 ?_
       exact PostF.rs (v0:=.bool false) (.inr rfl)
      | true=>
       cases h7:(inn !=0) with
       |false=>
        simp only[h7,zR,zX,go_sem];repeat refine sd2 ?_
        exact PostF.rs (v0:=.bool false) (.inr rfl)
       | true=>
        simp only[h7,zR,zX,go_sem];repeat refine sd2 ?_
        refine CallVC.same (zGQ tsn) ?_;cases h8:zA2 32 tsn with
        |false=>
         simp only[zX,go_sem];repeat refine sd2 ?_
         exact PostF.rs (v0:=.bool false) (.inr rfl)
        |true=>
         simp only[zR,zX,go_sem];repeat refine sd2 ?_
         exact PostF.rs (v0:=.bool (decide ((ck.length:Int)≤200))) (.inr rfl)
theorem zDZ{F:SF}{L nx:Nat}(d:Ini)(hd:d.ok=true):Con Tryz.prog 36 [.agg d.row] F L nx nx (.agg [.int .i64 (zCq d.ck),.int .i64 0,.str d.oct]) [] []:=by
 unfold Ini.ok at hd;simp only[zC,decide_eq_true_eq]at hd;obtain ⟨⟨h1,h2,h5⟩,⟨h3,h4⟩,_,_,_,h6⟩:=hd;obtain ⟨tag,win,out,inn,tsn,ck⟩:=d;simp only at h1 h2 h3 h4 h5 h6;obtain ⟨h1,k1⟩:=zBA h1;obtain ⟨h2,k2⟩:=zBA h2;obtain ⟨h3,k3⟩:=zBA h3;obtain ⟨h4,k4⟩:=zBA h4;obtain ⟨h5,k5⟩:=zBA h5;obtain ⟨a,ha⟩:∃x,x=tag.toNat:=⟨_,rfl⟩;obtain ⟨b,hb⟩:∃x,x=win.toNat:=⟨_,rfl⟩;obtain ⟨c,hc⟩:∃x,x=out.toNat:=⟨_,rfl⟩;obtain ⟨e,he⟩:∃x,x=inn.toNat:=⟨_,rfl⟩;obtain ⟨f,hf⟩:∃x,x=tsn.toNat:=⟨_,rfl⟩;rw[←ha]at h1 k1;rw[←hb]at h2 k2;rw[←hc]at h3 k3;rw[←he]at h4 k4;rw[←hf]at h5 k5;have k1':a<4294967296:=k1;have k2':b<4294967296:=k2;have k3':c<65536:=k3;have k4':e<65536:=k4;have k5':f<4294967296:=k5;refine bdy Tryz.f36 ?_;intro F3 hF1 hF2;subst h1 h2 h3 h4 h5;have p4:∀(v:Nat),(zAa 4 v).length=4:=zAL 4;have p2:∀(v:Nat),(zAa 2 v).length=2:=zAL 2;have hpl:ck.length≤200:=by omega
 simp only[Tryz.f36,Ini.row,Ini.oct,go_sem];repeat refine And.intro (by first|exact ⟨by omega,by omega⟩|kernel_rfl) ?_
 refine CallVC.same (zCp 4 a (by omega) (by omega)) ?_;simp only[go_sem];refine CallVC.same (zCp 4 b (by omega) (by omega)) ?_;simp only[p4,go_sem];repeat refine And.intro (by omega) ?_
 refine CallVC.same (zCp 2 c (by omega) (by omega)) ?_;simp only[p4,p2,zU,go_sem];repeat refine And.intro (by omega) ?_
 refine CallVC.same (zCp 2 e (by omega) (by omega)) ?_;simp only[p4,p2,zU,go_sem];repeat refine And.intro (by omega) ?_
 refine CallVC.same (zCp 4 f (by omega) (by omega)) ?_;simp only[p4,p2,zU,go_sem];repeat refine And.intro (by omega) ?_
 refine ⟨zAA (fun x=>x.i) (by kernel_rfl),?_⟩;have hA:zJd a b c e f ck=zAa 4 a++zAa 4 b++zAa 2 c++zAa 2 e++zAa 4 f++ck:=by simp only[zJd,vO]
 rw[hA];by_cases hk:ck=[]
 ·have f1:(!(ck==([]:List UInt8)))=false:=by rw[hk];rfl
  have f2:zCq ck=1:=by rw[hk];rfl
  rw[f2];simp only[f1,go_sem];repeat refine And.intro (by omega) ?_
  exact ps0
 ·have f1:(!(ck==([]:List UInt8)))=true:=by cases ck with
   |nil=>exact absurd rfl hk
   |cons x l=>rfl
  have f2:zCq ck=2:=by simp[zCq,hk]
  rw[f2];simp only[f1,go_sem];repeat refine And.intro (by omega) ?_
  exact ps0
end Go.Proofs.YtifhjhbfhdcahaaGreat
end
