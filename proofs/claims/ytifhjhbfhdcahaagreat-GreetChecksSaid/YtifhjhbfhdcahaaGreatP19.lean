/- Lemmas for the walk: GK100, GR57, GD41, GD42, GK101, GK102. -/
import Derived.Test.YtifhjhbfhdcahaaGreatP18
import Derived.Test.YtifhjhbfhdcahaaGreatP10
import Derived.Test.YtifhjhbfhdcahaaGreatRows
import Derived.ProofKit
import Derived.OpenShut
import Derived.LaidMore
import Derived.Lay
import Derived.Test.YtifhjhbfhdcahaaGreatP13
set_option linter.all false
section
namespace Go.Proofs.YtifhjhbfhdcahaaGreat
open Go.Tx
set_option maxRecDepth 100000
set_option maxHeartbeats 16000000
theorem zAx:∀l:List Pkx,nf (zAV l)=true
 | []=>rfl
 |_::_=>by simp[zAV,Tx.nf]
theorem zO5{F:SF}{L nx:Nat}(g:Gx)(now kind:Int)(p:Pkx)(hlen:p.cs.length≤1000000)(hb:∀c∈p.cs,c.bd.length≤1000000):
  Con Tryz.prog 24 [.agg g.row,.int .i64 now,.agg (.int .i64 kind::p.row)] F L nx nx (zEr (zAU g now kind p)) [] []:=by
 have hC:=fun F L nx=>zCO (F:=F) (L:=L) (nx:=nx) g
 have hT:=fun F L nx=>zGS (F:=F) (L:=L) (nx:=nx) now
 have hP:=fun F L nx=>zEI (F:=F) (L:=L) (nx:=nx) p hlen hb
 have e330:((330:Int) !=0)=true:=rfl;have e320:((320:Int) !=0)=true:=rfl;have e0:((0:Int) !=0)=false:=rfl;have kz:zAV []= .nilS:=rfl;obtain ⟨q,hq⟩:∃q,q=zAU g now kind p:=⟨_,rfl⟩;rw[←hq];have hrow:g.row=_:=rfl;simp only[Gx.row,Pkx.row]at hC hP ⊢;refine zUU (zAg (L+1)) rfl rfl (fn:=Tryz.f24) (c:=Tryz.f24.body.getD .skip) (by kernel_rfl) (by rfl) (by kernel_rfl) rfl (by simp) ?_;intro F3 hF1 hF2;refine vcu ⟨[none,some (.int .i64 now),none,some (.ptr ⟨L+1,0⟩ 0 0),none,some (.ptr ⟨L+1,32⟩ 0 0),some (.ptr ⟨L+1,64⟩ 0 0),some (.nilS),some (.int .i64 0)]++oz 68,[(⟨L+1,0⟩,.rows 28 20 true true [(gR g [])]),(⟨L+1,32⟩,.rows 40 5 true true [[.int .i64 kind,.int .i64 p.fr,.int .i64 p.tt,.int .i64 p.tg,.fs 3 (p.cs.map Ckx.row)]]),(⟨L+1,64⟩,.rows 28 20 true true [(zz20 [])])],10000⟩ ?_ ?_
 ·simp only[Tryz.f24,go_sem];repeat refine sd2 ?_
  refine ⟨(),(so0 hF2)⟩
 refine vcu ⟨[none,some (.int .i64 now),none,some (.ptr ⟨L+1,0⟩ 0 0),none,some (.ptr ⟨L+1,32⟩ 0 0),some (.ptr ⟨L+1,64⟩ 0 0),some (.nilS),some (.int .i64 0),some (.mp ⟨L+1,10000⟩)]++oz 67,[(⟨L+1,0⟩,.rows 28 20 true true [(gR g [])]),(⟨L+1,32⟩,.rows 40 5 true true [[.int .i64 kind,.int .i64 p.fr,.int .i64 p.tt,.int .i64 p.tg,.fs 3 (p.cs.map Ckx.row)]]),(⟨L+1,64⟩,.rows 28 20 true true [(zz20 [])]),(⟨L+1,10000⟩,.map true true [.int .i64 1,.int .i64 2,.int .i64 3,.int .i64 4,.int .i64 5] [.fn (.func 53) [] [],.fn (.func 54) [] [],.fn (.func 55) [] [],.fn (.func 56) [] [],.fn (.func 57) [] []])],20000⟩ ?_ ?_
 ·simp only[Tryz.f24,zJm,zHS,zDc,Int.reduceEq,vM,zAd,zAR,go_sem];repeat refine sd2 ?_
  refine ⟨(),(so0 hF2)⟩
 cases hok:g.ok
 ·have hq2:q=(zGx,[],330):=by rw[hq];unfold zAU;rw[if_pos hok]
  subst hq2;rw[hok,if_neg (by simp)]at hC;refine VT.of (zAg (L+1)) ?_;simp only[Tryz.f24,zDc,zAd,zAR,go_sem];repeat refine sd2 ?_
  refine CallVC.same (hC _ _ _) ?_;simp only[e330,go_sem];repeat refine sd2 ?_
  exact ps0 (by simp only[zEr,kz,Gx.row,zGx,zIni,go_sem]) (hf:=by simp[zEr,zAV,Gx.row,zGx,zIni,Tx.nf,nfl])
 rw[hok,if_pos rfl]at hC;cases htm:zEg now
 ·have hq2:q=(zGx,[],2):=by rw[hq];unfold zAU;rw[if_neg (by simp[hok]),if_pos (.inl htm)]
  subst hq2;rw[htm]at hT;refine VT.of (zAg (L+1)) ?_;simp only[Tryz.f24,zDc,zAd,zAR,go_sem];repeat refine sd2 ?_
  refine CallVC.same (hC _ _ _) ?_;simp only[e0,go_sem];repeat refine sd2 ?_
  refine CallVC.same (hT _ _ _) ?_;simp only[go_sem];repeat refine sd2 ?_
  exact ps0 (by simp only[zEr,kz,Gx.row,zGx,zIni,go_sem]) (hf:=by simp[zEr,zAV,Gx.row,zGx,zIni,Tx.nf,nfl])
 rw[htm]at hT;by_cases hta:now<g.ta
 ·have hq2:q=(zGx,[],2):=by rw[hq];unfold zAU;rw[if_neg (by simp[hok]),if_pos (.inr (.inl hta))]
  subst hq2;have d1:decide (now<g.ta)=true:=dT hta;refine VT.of (zAg (L+1)) ?_;simp only[Tryz.f24,zDc,zAd,zAR,go_sem];repeat refine sd2 ?_
  refine CallVC.same (hC _ _ _) ?_;simp only[e0,go_sem];repeat refine sd2 ?_
  refine CallVC.same (hT _ _ _) ?_;simp only[d1,go_sem];repeat refine sd2 ?_
  exact ps0 (by simp only[zEr,kz,Gx.row,zGx,zIni,go_sem]) (hf:=by simp[zEr,zAV,Gx.row,zGx,zIni,Tx.nf,nfl])
 have d1:decide (now<g.ta)=false:=dF hta;by_cases hk:1≤kind∧kind≤5;rotate_left
 ·have hq2:q=(zGx,[],2):=by rw[hq];unfold zAU;rw[if_neg (by simp[hok]),if_pos (by omega)]
  subst hq2;have n1:(1=kind)=False:=by apply eq_false;omega
  have n2:(2=kind)=False:=by apply eq_false;omega
  have n3:(3=kind)=False:=by apply eq_false;omega
  have n4:(4=kind)=False:=by apply eq_false;omega
  have n5:(5=kind)=False:=by apply eq_false;omega
  refine VT.of (zAg (L+1)) ?_;simp only[Tryz.f24,n1,n2,n3,n4,n5,zDc,vM,zAd,zAR,go_sem];repeat refine sd2 ?_
  refine CallVC.same (hC _ _ _) ?_;simp only[e0,go_sem];repeat refine sd2 ?_
  refine CallVC.same (hT _ _ _) ?_;simp only[d1,go_sem];repeat refine sd2 ?_
  exact ps0 (by simp only[zEr,kz,Gx.row,zGx,zIni,go_sem]) (hf:=by simp[zEr,zAV,Gx.row,zGx,zIni,Tx.nf,nfl])
 refine vcu ⟨[none,some (.int .i64 now),none,some (.ptr ⟨L+1,0⟩ 0 0),none,some (.ptr ⟨L+1,32⟩ 0 0),some (.ptr ⟨L+1,64⟩ 0 0),some (.nilS),some (.int .i64 0),none,some (.fn (.func (evF kind)) [] []),some (.bool true)]++oz 65,[(⟨L+1,0⟩,.rows 28 20 true true [(gR g [])]),(⟨L+1,32⟩,.rows 40 5 true true [[.int .i64 kind,.int .i64 p.fr,.int .i64 p.tt,.int .i64 p.tg,.fs 3 (p.cs.map Ckx.row)]]),(⟨L+1,64⟩,.rows 28 20 true true [(zz20 [])]),(⟨L+1,10000⟩,.map true true [.int .i64 1,.int .i64 2,.int .i64 3,.int .i64 4,.int .i64 5] [.fn (.func 53) [] [],.fn (.func 54) [] [],.fn (.func 55) [] [],.fn (.func 56) [] [],.fn (.func 57) [] []])],30000⟩ ?_ ?_
 ·rcases (show kind=1∨kind=2∨kind=3∨kind=4∨kind=5 by omega) with hk9|hk9|hk9|hk9|hk9
  ·have he:evF kind=53:=by rw[hk9];rfl
   rw[he];simp only[Tryz.f24,hk9,zDc,Int.reduceEq,wX,zAd,zAR,go_sem];repeat refine sd2 ?_
   refine ⟨(),(so0 hF2)⟩
  ·have he:evF kind=54:=by rw[hk9];rfl
   rw[he];simp only[Tryz.f24,hk9,zDc,Int.reduceEq,wX,zAd,zAR,go_sem];repeat refine sd2 ?_
   refine ⟨(),(so0 hF2)⟩
  ·have he:evF kind=55:=by rw[hk9];rfl
   rw[he];simp only[Tryz.f24,hk9,zDc,Int.reduceEq,wX,zAd,zAR,go_sem];repeat refine sd2 ?_
   refine ⟨(),(so0 hF2)⟩
  ·have he:evF kind=56:=by rw[hk9];rfl
   rw[he];simp only[Tryz.f24,hk9,zDc,Int.reduceEq,wX,zAd,zAR,go_sem];repeat refine sd2 ?_
   refine ⟨(),(so0 hF2)⟩
  ·have he:evF kind=57:=by rw[hk9];rfl
   rw[he];simp only[Tryz.f24,hk9,zDc,Int.reduceEq,wX,zAd,zAR,go_sem];repeat refine sd2 ?_
   refine ⟨(),(so0 hF2)⟩
 have hok':kind=5∧p.ok=false→q=(zGx,[],320):=fun h=>by rw[hq];unfold zAU;rw[if_neg (by simp[hok]),if_neg (by simp[htm];omega),if_pos h]
 refine VT.cut (zAg (L+1)) (by kernel_rfl) (fun _:Unit=>⟨[none,some (.int .i64 now),none,some (.ptr ⟨L+1,0⟩ 0 0),none,some (.ptr ⟨L+1,32⟩ 0 0),some (.ptr ⟨L+1,64⟩ 0 0),none,none,none,some (.fn (.func (evF kind)) [] [])]++oz 66,[(⟨L+1,0⟩,.rows 28 20 true true [(gR g [])]),(⟨L+1,32⟩,.rows 40 5 true true [[.int .i64 kind,.int .i64 p.fr,.int .i64 p.tt,.int .i64 p.tg,.fs 3 (p.cs.map Ckx.row)]]),(⟨L+1,64⟩,.rows 28 20 true true [(zz20 [])])],40000⟩) (fun _=>kind=5→p.ok=true) ?_ ?_
 ·by_cases h5:kind=5
  ·have b5:(kind==5)=true:=by simp;omega
   cases hpo:p.ok
   ·rw[hpo,if_neg (by simp)]at hP;have hq2:=hok' ⟨h5,hpo⟩;subst hq2;simp only[Tryz.f24,go_sem];repeat refine sd2 ?_
    refine CallVC.same (hC _ _ _) ?_;simp only[e0,go_sem];repeat refine sd2 ?_
    refine CallVC.same (hT _ _ _) ?_;simp only[d1,b5,go_sem];repeat refine sd2 ?_
    refine CallVC.same (hP _ _ _) ?_;simp only[e320,go_sem];repeat refine sd2 ?_
    exact ps0 (by simp only[zEr,kz,Gx.row,zGx,zIni,go_sem]) (hf:=by simp[zEr,zAV,Gx.row,zGx,zIni,Tx.nf,nfl])
   ·rw[hpo,if_pos rfl]at hP;simp only[Tryz.f24,go_sem];repeat refine sd2 ?_
    refine CallVC.same (hC _ _ _) ?_;simp only[e0,go_sem];repeat refine sd2 ?_
    refine CallVC.same (hT _ _ _) ?_;simp only[d1,b5,go_sem];repeat refine sd2 ?_
    refine CallVC.same (hP _ _ _) ?_;simp only[e0,go_sem];repeat refine sd2 ?_
    refine ⟨(),fun _=>trivial,(so0 hF2)⟩
  ·have b5:(kind==5)=false:=by simp;omega
   simp only[Tryz.f24,go_sem];repeat refine sd2 ?_
   refine CallVC.same (hC _ _ _) ?_;simp only[e0,go_sem];repeat refine sd2 ?_
   refine CallVC.same (hT _ _ _) ?_;simp only[d1,b5,go_sem];repeat refine sd2 ?_
   refine ⟨(),fun h=>absurd h h5,(so0 hF2)⟩
 intro _ hpok;clear hC hT hP;rw[zBk]at htm;refine vcu ⟨[none,some (.int .i64 now),none,some (.ptr ⟨L+1,0⟩ 0 0),none,some (.ptr ⟨L+1,32⟩ 0 0),some (.ptr ⟨L+1,64⟩ 0 0),none,none,none,some (.fn (.func (evF kind)) [] []),none,some (.ptr ⟨L+1,40096⟩ 0 0)]++oz 64,[(⟨L+1,32⟩,.rows 40 5 true true [[.int .i64 kind,.int .i64 p.fr,.int .i64 p.tt,.int .i64 p.tg,.fs 3 (p.cs.map Ckx.row)]]),(⟨L+1,64⟩,.rows 28 20 true true [(zz20 [])]),(⟨L+1,40096⟩,.rows 123 22 true true [(gR g [.int .i64 now,.nilS])])],50000⟩ ?_ ?_
 ·simp only[Tryz.f24,go_sem];repeat refine sd2 ?_
  refine ⟨(),(so0 hF2)⟩
 refine vcu ⟨[none,some (.int .i64 now),none,none,none,some (.ptr ⟨L+1,32⟩ 0 0),some (.ptr ⟨L+1,64⟩ 0 0),none,none,none,some (.fn (.func (evF kind)) [] []),none,some (.ptr ⟨L+1,40096⟩ 0 0)]++oz 64,[(⟨L+1,32⟩,.rows 40 5 true true [[.int .i64 kind,.int .i64 p.fr,.int .i64 p.tt,.int .i64 p.tg,.fs 3 (p.cs.map Ckx.row)]]),(⟨L+1,64⟩,.rows 28 20 true true [(zz20 [])]),(⟨L+1,40096⟩,.rows 123 22 true true [[.int .i64 g.st,.int .i64 g.fr,.int .i64 g.tt,.str g.sec,.int .i64 g.own.tag,.int .i64 g.own.win,.int .i64 g.own.out,.int .i64 g.own.inn,.int .i64 g.own.tsn,.str g.own.ck,.int .i64 g.peer.tag,.int .i64 g.peer.win,.int .i64 g.peer.out,.int .i64 g.peer.inn,.int .i64 g.peer.tsn,.str g.peer.ck,.str g.ck,.int .i64 now,.int .i64 g.due,.int .i64 g.tr,.int .i64 now,.nilS]])],60000⟩ ?_ ?_
 ·simp only[Tryz.f24,go_sem];repeat refine sd2 ?_
  refine ⟨(),(so0 hF2)⟩
 obtain ⟨g9,hg9⟩:∃g9:Gx,g9={g with ta:=now}:=⟨_,rfl⟩;have hhd:g9.hd=true:=by
  have:=zUy hok;rw[zUR]at this;rw[hg9,zUR];exact ⟨this.1,this.2.1,this.2.2.1,this.2.2.2.1,this.2.2.2.2.1,this.2.2.2.2.2.1,(zBk _).2 htm⟩
 have hdt:g9.due<0∨(0≤g9.due∧g9.due≤1099511634176∧1≤g9.tr∧g9.tr≤8):=by rw[hg9];exact zUw (g:=g) hok
 have hev:=fun(F:SF) (nx:Nat) (hF:F ⟨L+1,40096⟩=_)=>zR9 (F:=F) (L:=L+1) (nx:=nx) ⟨L+1,40096⟩ (by simp) g9 now p kind hk hhd hdt htm (fun h=>by
  have:=hpok h;unfold Pkx.ok Pkx.hd at this;simp only[zC,decide_eq_true_eq]at this;omega) hb hF
 have hqe:q=(match gEv g9 now kind p with|none=>(zGx,[],8)|some (h,o)=>(h,o,0)):=by
  rw[hq,hg9];unfold zAU;rw[if_neg (by simp[hok]),if_neg (by simp[zBk,htm];omega),if_neg (by intro h;rw[hpok h.1]at h;simp at h)];generalize gEv _ now kind p=z;cases z<;>rfl
 refine VT.of (zAg (L+1)) ?_;cases hr:gEv g9 now kind p with
 |none=>
  rw[hr]at hqe hev;simp only at hqe;subst hqe;simp only[zQl,hg9,Gx.mrow,Gx.row,Pkx.row,zJ,zF]at hev;simp only[Tryz.f24,go_sem];repeat refine sd2 ?_
  refine CallVC.same (hev _ _ (by simp[Tx.look])) ?_;simp only[go_sem];repeat refine sd2 ?_
  exact ps0 (by simp only[zEr,kz,Gx.row,zGx,zIni,go_sem]) (hf:=by simp[zEr,zAV,Gx.row,zGx,zIni,Tx.nf,nfl])
 |some r=>
  obtain ⟨h,o⟩:=r;rw[hr]at hqe hev;simp only at hqe;subst hqe;have hkz:nf (zAV o)=true:=zAx o;obtain ⟨ov,hov⟩:∃ov,ov=zAV o:=⟨_,rfl⟩;simp only[zQl,←hov,hg9,Gx.mrow,Gx.row,Pkx.row,zJ,zF]at hev;simp only[Tryz.f24,go_sem];repeat refine sd2 ?_
  refine CallVC.same (hev _ _ (by simp[Tx.look])) ?_;simp only[go_sem];repeat refine sd2 ?_
  refine ⟨zAA (fun x=>x.i) (by kernel_rfl),?_⟩;exact ps0 (by simp only[zEr,←hov,Gx.row,go_sem]) (hf:=by simp[zEr,zAx,Gx.row,Tx.nf,nfl])
end Go.Proofs.YtifhjhbfhdcahaaGreat
end
section
namespace Go.Proofs.YtifhjhbfhdcahaaGreat
open Go.ChangeShapes Go.WideShapes Go.ChangeAt Go.RowKit Go.Tx
theorem zSA:ownKnob Tryz.prog.godebug=none:=by kernel_rfl
theorem zNb:laidOutB Tryz.prog=true:=by kernel_rfl
set_option maxRecDepth 100000
def zNc:Option TypeDesc→Bool
 |some (.struct _)=>true
 |_=>false
theorem zTD{x:Option TypeDesc}(h:zNc x=true):∃fs,x=some (.struct fs):=by
 unfold zNc at h;split at h;·exact ⟨_,rfl⟩
 ·cases h
theorem zNd:Tryz.prog.underlying 4=some .bool:=by kernel_rfl
theorem wf8{n:Int}(h:(Lit.int .u8 n).wf=true):∃k:Nat,n=k∧k<256:=by
 have:0≤n∧n≤255:=by simpa[Lit.wf,IntKind.min,IntKind.max,IntKind.signed,IntKind.bits] using h
 exact ⟨n.toNat,by omega,by omega⟩
theorem zUM{n:Int}(h:(Lit.int .u16 n).wf=true):∃k:Nat,n=k∧k<65536:=by
 have:0≤n∧n≤65535:=by simpa[Lit.wf,IntKind.min,IntKind.max,IntKind.signed,IntKind.bits] using h
 exact ⟨n.toNat,by omega,by omega⟩
theorem zQm:Tryz.prog.underlying 22=some (.int .u16):=by kernel_rfl
end Go.Proofs.YtifhjhbfhdcahaaGreat
end
section
namespace Go.Proofs.YtifhjhbfhdcahaaGreat
open Go.Tx
set_option maxRecDepth 100000
set_option maxHeartbeats 16000000
theorem zSB{t:Int}(h:zEg t=true):0≤t∧t≤1099511627776:=by unfold zEg at h;simpa using h
theorem zKK(g:Gx):g.hd=true↔0≤g.fr∧g.fr≤65535∧0≤g.tt∧g.tt≤65535∧g.sec.length=32∧zAZ g.own=true∧zEg g.ta=true:=by
 unfold Gx.hd;simp only[zC,decide_eq_true_eq,and_assoc]
theorem zHJ(g:Gx):g.ok=true↔g.hd=true∧g.mid=true∧g.cko=true:=by unfold Gx.ok;simp only[zC,and_assoc]
theorem zDX{d:Ini}(h:zAZ d=true):d.ok=true∧d.ck=[]:=by unfold zAZ at h;simpa using h
theorem zJQ{d:Ini}(h:d.ok=true):0<d.tag∧d.tag<4294967296∧d.ck.length≤200:=by
 unfold Ini.ok zA2 at h;simp at h;omega
theorem zNe(d:Ini):d.oct.length=16+d.ck.length:=by
 unfold Ini.oct zJd;simp only[zU,zAL]
theorem zFo{g:Gx}(h:g.mid=true):g.peer=zIni∨zAZ g.peer=true:=by
 unfold Gx.mid at h;split at h;·simp at h;exact .inl h.1
 split at h;·simp at h;exact .inl h.1
 split at h;·simp at h;exact .inr h.1
 split at h;·simp at h;exact .inr h.1
 split at h;·simp at h;exact h.1
 ·cases h
structure Good (h:Gx) (now:Int) (o:List Pkx):Prop where
 ok:h.ok=true
 ta:h.ta=now
 len:o.length≤1
 pk:∀x∈o,x.ok=true∧x.fr=h.fr∧x.tt=h.tt
theorem zJR{g:Gx}(hg:g.hd=true){tag:Int}(ht:0≤tag∧tag<4294967296){c:Ckx}(hc:0≤c.kd∧c.kd<256)(hf:c.fl=0)(hb:c.bd.length≤300):∀x∈zA9 g tag c,x.ok=true∧x.fr=g.fr∧x.tt=g.tt:=by
 intro x hx;simp only[zA9,wP,uC,or_false]at hx;subst hx;rw[zKK]at hg;refine ⟨?_,rfl,rfl⟩;unfold Pkx.ok Pkx.hd szs Ckx.ok Ckx.sz zA2;simp[hf];omega
theorem zIi{g:Gx}(hm:g.mid=true):0≤g.peer.tag∧g.peer.tag<4294967296:=by
 rcases zFo hm with h|h;·rw[h];exact ⟨by decide,by decide⟩
 ·have:=zJQ (zDX h).1;omega
theorem zHz{g:Gx}(hg:g.hd=true)(ht:0≤g.peer.tag∧g.peer.tag<4294967296){k:Int}(hk:0≤k∧k<256):∀x∈zAh g k,x.ok=true∧x.fr=g.fr∧x.tt=g.tt:=
 zJR hg ht hk rfl (by simp)
theorem zFp{g:Gx}(hg:g.hd=true)(ht:0≤g.peer.tag∧g.peer.tag<4294967296)(hc:g.ck.length≤200):(zAj g).length≤1∧∀x∈zAj g,x.ok=true∧x.fr=g.fr∧x.tt=g.tt:=by
 have ho:=zDX ((zKK g).1 hg).2.2.2.2.2.1;unfold zAj;split;·exact ⟨by simp[zA9],zJR hg (by omega) (by simp) rfl (by simp[zNe,ho.2])⟩
 split;·exact ⟨by simp[zA9],zJR hg ht (by simp) rfl (by simp;omega)⟩
 split;·exact ⟨by simp[zAh,zA9],zHz hg ht (by simp)⟩
 split;·exact ⟨by simp[zAh,zA9],zHz hg ht (by simp)⟩
 ·exact ⟨by simp,by simp⟩
theorem zKL{g:Gx}(hg:g.hd=true){s:Int}(hs:(s=2∧g.peer=zIni)∨((s=5∨s=6)∧zAZ g.peer=true)){now:Int}(hn:0≤now∧now≤1099511627776):(zAG g s now).ok=true:=by
 rw[zHJ];refine ⟨hg,?_,?_⟩
 ·have ht:(zAG g s now).tries=true:=by unfold Gx.tries zAG;simp;omega
  unfold Gx.mid;rw[ht];rcases hs with ⟨rfl,hp⟩|⟨rfl|rfl,hp⟩<;>simp[zAG,hp]
 ·unfold Gx.cko zAG;rcases hs with ⟨rfl,_⟩|⟨rfl|rfl,_⟩<;>simp
theorem zK4{g:Gx}(hg:g.hd=true){s:Int}(hs:(s=4∧zAZ g.peer=true)∨(s=7∧(g.peer=zIni∨zAZ g.peer=true))):(zAT g s).ok=true:=by
 rw[zHJ];refine ⟨hg,?_,?_⟩
 ·have ht:(zAT g s).rest=true:=by unfold Gx.rest zAT;simp
  unfold Gx.mid;rw[ht];rcases hs with ⟨rfl,hp⟩|⟨rfl,hp|hp⟩<;>simp[zAT,hp]
 ·unfold Gx.cko zAT;rcases hs with ⟨rfl,_⟩|⟨rfl,_⟩<;>simp
theorem zSz{g:Gx}(hm:g.mid=true)(h:g.st=4∨g.st=5∨g.st=6∨g.st=3):zAZ g.peer=true:=by
 unfold Gx.mid at hm;rcases h with h|h|h|h<;>simp[h]at hm<;>exact hm.1
theorem zCf{g:Gx}(hg:g.ok=true){now:Int}(ht:g.ta=now){o:List Pkx}(h1:o.length≤1)(h2:∀x∈o,x.ok=true∧x.fr=g.fr∧x.tt=g.tt):Good g now o:=⟨hg,ht,h1,h2⟩
theorem zNf{g:Gx}(h:g.cko=true):g.ck.length≤200:=by
 unfold Gx.cko at h;split at h;·simp at h;exact h.2
 ·simp at h;rw[h];simp
theorem zNg{g:Gx}(hg:g.ok=true){now:Int}(ht:g.ta=now)(hn:0≤now∧now≤1099511627776):Good (zBy g now).1 now (zBy g now).2:=by
 obtain ⟨hh,hm,hc⟩:=(zHJ g).1 hg;unfold zBy;split;·exact zCf hg ht (by simp) (by simp)
 rename_i hdue;split;·exact ⟨zK4 hh (.inr ⟨rfl,zFo hm⟩),ht,by simp,by simp⟩
 rename_i htr;have ha:=zFp hh (zIi hm) (zNf hc);refine ⟨?_,ht,ha.1,ha.2⟩;have hw:=zNU g.tr;have hd:=zUw hg;have htr':∀h:Gx,h.due=now+wtS g.tr→h.tr=g.tr+1→h.tries=true:=by
  intro h e1 e2;unfold Gx.tries;rw[e1,e2];simp;omega
 have hre:g.rest=false:=by
  cases h:g.rest;·rfl
  ·unfold Gx.rest at h;simp at h;omega
 rw[zHJ];refine ⟨hh,?_,hc⟩;unfold Gx.mid at hm ⊢;rw[hre]at hm;simp only[htr' {g with due:=now+wtS g.tr,tr:=g.tr+1} rfl rfl];simp only[vJ]at hm;split at hm;·cases hm
 rename_i h1;rw[if_neg h1];split at hm;·rename_i h2;rw[if_pos h2];simp at hm ⊢;exact hm.1
 rename_i h2;rw[if_neg h2];split at hm;·rename_i h3;rw[if_pos h3];simp at hm ⊢;exact hm.1
 rename_i h3;rw[if_neg h3];split at hm;·cases hm
 split at hm;·cases hm
 ·cases hm
theorem zNh{g:Gx}(hg:g.ok=true){now:Int}(ht:g.ta=now)(hn:0≤now∧now≤1099511627776)(tag:Int)(c:Ckx):Good (zAQ g now tag c).1 now (zAQ g now tag c).2:=by
 obtain ⟨hh,hm,hc⟩:=(zHJ g).1 hg;have hp:=zIi hm;have ha:=zFp hh hp (zNf hc);have hsame:Good g now []:=zCf hg ht (by simp) (by simp);have hown:=zDX ((zKK g).1 hh).2.2.2.2.2.1;have hrest:∀s,(s=4∧zAZ g.peer=true)∨(s=7∧(g.peer=zIni∨zAZ g.peer=true))→∀o:List Pkx,o.length≤1→(∀x∈o,x.ok=true∧x.fr=g.fr∧x.tt=g.tt)→Good (zAT g s) now o:=fun s hs o h1 h2=>⟨zK4 hh hs,ht,h1,h2⟩
 unfold zAQ;split
 ·rename_i hk;unfold zFF;split
  ·rename_i h;obtain ⟨h1,h2,h3⟩:=h;obtain ⟨i1,i2,i3,_⟩:=zHI hk h1;have:=zJQ i1;refine zCf hg ht (by simp[zA9]) (zJR hh (by omega) (by simp) rfl ?_);simp only[zNe,zIh];omega
  ·exact hsame
 split;·exact hsame
 split
 ·rename_i hk;unfold zDh;split
  ·rename_i h;obtain ⟨h1,h2⟩:=h;unfold zBX at h1;simp only[zC,decide_eq_true_eq]at h1;obtain ⟨_,i1,i2,_⟩:=h1;have hne:(zBj c).ck≠[]:=by
    intro h;unfold zCq at i2;rw[if_pos h,hk]at i2;cases i2
   have htg:=zJQ i1;have hpl:zAZ {zBj c with ck:=[]}=true:=by
    unfold zAZ;rw[zNV i1 (by simp)];rfl
   have hok:Gx.ok {zAG g 3 now with ck:=(zBj c).ck,peer:={zBj c with ck:=[]}}=true:=by
    rw[zHJ];refine ⟨hh,?_,?_⟩
    ·have ht:Gx.tries {zAG g 3 now with ck:=(zBj c).ck,peer:={zBj c with ck:=[]}}=true:=by unfold Gx.tries zAG;simp;omega
     unfold Gx.mid;rw[ht];simp[zAG,hpl]
    ·unfold Gx.cko zAG;simp[hne];omega
   have ha2:=zFp (g:={zAG g 3 now with ck:=(zBj c).ck,peer:={zBj c with ck:=[]}}) hh (by show 0≤(zBj c).tag∧_;exact ⟨by omega,htg.2.1⟩) htg.2.2;exact ⟨hok,ht,ha2.1,ha2.2⟩
  ·exact hsame
 split
 ·unfold zC9;simp only;split
  ·rename_i h;obtain ⟨_,h1,_,_⟩:=h;obtain ⟨i1,i2,_,_⟩:=zHI (c:=⟨1,0,(c.bd.drop 6).take 16⟩) rfl h1;have htg:=zJQ i1;have hpl:zAZ (zBj ⟨1,0,(c.bd.drop 6).take 16⟩)=true:=by unfold zAZ;rw[i1,i2];rfl
   split;·exact zCf hg ht (by simp[zA9]) (zJR hh (by omega) (by simp) rfl (by simp))
   split
   ·refine ⟨zK4 (g:={g with peer:=zBj ⟨1,0,(c.bd.drop 6).take 16⟩}) hh (.inl ⟨rfl,hpl⟩),ht,by simp[zAh,zA9],zHz (g:={zAT g 4 with peer:=zBj ⟨1,0,(c.bd.drop 6).take 16⟩}) hh ?_ (by simp)⟩;exact ⟨by show 0≤(zBj _).tag;omega,htg.2.1⟩
   split;·exact zCf hg ht (by simp[zAh,zA9]) (zHz hh hp (by simp))
   ·exact hsame
  ·exact hsame
 split
 ·split;·rename_i h;exact hrest 4 (.inl ⟨rfl,zSz hm (.inr (.inr (.inr h)))⟩) [] (by simp) (by simp)
  ·exact hsame
 split
 ·unfold zGI;split
  ·rename_i h;have hpl:=zSz hm (by omega);have ha2:=zFp (g:=zAG g 6 now) hh hp (by simp[zAG]);exact ⟨zKL hh (.inr ⟨.inr rfl,hpl⟩) hn,ht,ha2.1,ha2.2⟩
  split;·exact zCf hg ht ha.1 ha.2
  ·exact hsame
 split
 ·unfold zDA;split;·exact hrest 7 (.inr ⟨rfl,zFo hm⟩) _ (by simp[zAh,zA9]) (zHz hh hp (by simp))
  ·exact hsame
 split
 ·split;·exact hrest 7 (.inr ⟨rfl,zFo hm⟩) [] (by simp) (by simp)
  ·exact hsame
 split
 ·split;·exact hsame
  ·exact hrest 7 (.inr ⟨rfl,zFo hm⟩) [] (by simp) (by simp)
 ·exact hsame
theorem zQn{g:Gx}(hg:g.ok=true){now:Int}(ht:g.ta=now)(hn:0≤now∧now≤1099511627776)(kind:Int)(p:Pkx){h:Gx}{o:List Pkx}(he:gEv g now kind p=some (h,o)):Good h now o:=by
 obtain ⟨hh,hm,hc⟩:=(zHJ g).1 hg;have hp:=zIi hm;unfold gEv at he;split at he
 ·unfold zM5 at he;split at he
  ·rename_i h1;injection he with he;injection he with e1 e2;subst e1;subst e2;have hz:g.peer=zIni:=by unfold Gx.mid at hm;rw[if_pos h1]at hm;simp at hm;exact hm.1
   have ha:=zFp (g:=zAG g 2 now) hh hp (by simp[zAG]);exact ⟨zKL hh (.inl ⟨rfl,hz⟩) hn,ht,ha.1,ha.2⟩
  ·cases he
 split at he
 ·unfold zJF at he;split at he
  ·rename_i h1;injection he with he;injection he with e1 e2;subst e1;subst e2;have ha:=zFp (g:=zAG g 5 now) hh hp (by simp[zAG]);exact ⟨zKL hh (.inr ⟨.inl rfl,zSz hm (.inl h1)⟩) hn,ht,ha.1,ha.2⟩
  ·cases he
 split at he
 ·unfold zHF at he;split at he;·cases he
  ·injection he with he;injection he with e1 e2;subst e1;subst e2;refine ⟨zK4 hh (.inr ⟨rfl,zFo hm⟩),ht,?_,?_⟩
   ·split<;>simp[zAh,zA9]
   ·split;·simp
    ·exact zHz hh hp (by simp)
 split at he
 ·injection he with he;have:=zNg hg ht hn;rw[he]at this;exact this
 ·injection he with he;unfold zDB at he;split at he
  ·have:=zNh hg ht hn p.tg p.hdC;rw[he]at this;exact this
  ·injection he with e1 e2;subst e1;subst e2;exact zCf hg ht (by simp) (by simp)
theorem zAo{g:Gx}{now kind:Int}{p:Pkx}{h:Gx}{o:List Pkx}(he:zAU g now kind p=(h,o,0)):Good h now o:=by
 unfold zAU at he;split at he;·simp at he
 rename_i hg;split at he;·simp at he
 rename_i h2;split at he;·simp at he
 split at he;·simp at he
 ·rename_i h' o' he';simp at he;obtain ⟨e1,e2⟩:=he;subst e1;subst e2;have hok:g.ok=true:=by simpa using hg
  have hn:zEg now=true:=by
   cases h:zEg now;·exact absurd (.inl h) h2
   ·rfl
  obtain ⟨hh,hm,hc⟩:=(zHJ g).1 hok;refine zQn (g:={g with ta:=now}) ?_ rfl (zSB hn) kind p he';rw[zHJ];refine ⟨?_,hm,hc⟩;rw[zKK]at hh ⊢;exact ⟨hh.1,hh.2.1,hh.2.2.1,hh.2.2.2.1,hh.2.2.2.2.1,hh.2.2.2.2.2.1,hn⟩
theorem zVJ{a b:Ini}(h:a.row=b.row):a=b:=by
 obtain ⟨a1,a2,a3,a4,a5,a6⟩:=a;obtain ⟨b1,b2,b3,b4,b5,b6⟩:=b;simp only[Ini.row,List.cons.injEq,PV.int.injEq,PV.str.injEq,true_and,and_true]at h;obtain ⟨rfl,rfl,rfl,rfl,rfl,rfl⟩:=h;rfl
theorem zK5{d:Ini}(h:d.ok=true):zBX ⟨zCq d.ck,0,d.oct⟩=true∧zBj ⟨zCq d.ck,0,d.oct⟩=d:=by
 have hb:=zQT h;unfold zBL at hb;have hk:zCq d.ck=1∨zCq d.ck=2:=by unfold zCq;split<;>simp
 rw[if_pos hk]at hb;cases ho:zBX ⟨zCq d.ck,0,d.oct⟩
 ·rw[ho,if_neg (by simp)]at hb;simp at hb
 ·rw[ho,if_pos rfl]at hb;simp only[PV.tup.injEq,List.cons.injEq,PV.agg.injEq,and_true]at hb;exact ⟨rfl,zVJ hb⟩
theorem zJS{d:Ini}(h:zAZ d=true):zBX ⟨1,0,d.oct⟩=true∧zBj ⟨1,0,d.oct⟩=d:=by
 obtain ⟨h1,h2⟩:=zDX h;have:=zK5 h1;rw[show zCq d.ck=1 by rw[h2];rfl]at this;exact this
theorem zNi{d:Ini}(h:d.ok=true)(hc:d.ck≠[]):zBX ⟨2,0,d.oct⟩=true∧zBj ⟨2,0,d.oct⟩=d:=by
 have:=zK5 h;rw[show zCq d.ck=2 by unfold zCq;rw[if_neg hc]]at this;exact this
theorem zK6(g:Gx){d:Ini}(hd:zAZ d=true){t:Int}(ht:0≤t∧t≤1099511627776):(ckS g d.oct t).length=62∧(zBW ((ckS g d.oct t).take 6):Int)=t∧((ckS g d.oct t).drop 6).take 16=d.oct:=by
 have ho:d.oct.length=16:=by rw[zNe,(zDX hd).2];rfl
 have hp:(zAa 6 t.toNat).length=6:=zAL 6 _;refine ⟨by rw[zIh];omega,?_,?_⟩
 ·unfold ckS;simp only[vO];rw[uS (by omega),zQ (by omega),zJC (by omega)];omega
 ·unfold ckS;simp only[vO];rw[qN (by omega),uD (by omega),zF,uS (by omega),zQ (by omega)]
theorem zK7(g:Gx){d:Ini}(hd:zAZ d=true){t:Int}(ht:0≤t∧t≤1099511627776)(now:Int):zC9 g now (ckS g d.oct t)=
  (if g.st≤3∧(now<t∨60000<now-t) then (g,zA9 g d.tag ⟨6,0,[]⟩)
  else if g.st≤3 then ({zAT g 4 with peer:=d},zAh {zAT g 4 with peer:=d} 11)
  else if g.st=4∧d=g.peer then (g,zAh g 11) else (g,[])):=by
 obtain ⟨h1,h2,h3⟩:=zK6 g hd ht;obtain ⟨i1,i2⟩:=zJS hd;unfold zC9;simp only[h1,h2,h3,i1,i2,(zBk t).2 ht,and_self,if_true]
theorem zNj{g h:Gx}(h1:h.own.tag=g.own.tag)(h2:h.fr=g.fr)(h3:h.tt=g.tt)(h4:h.sec=g.sec)(b:List UInt8)(t:Int):ckS h b t=ckS g b t:=by
 unfold ckS;rw[h1,h2,h3,h4]
structure Tk where
 g0:Gx
 g1:Gx
 w0:List Pkx
 w1:List Pkx
 now:Int
def Tk.row(k:Tk)(a b:PV):List PV:=(gR k.g0 (gR k.g1 [a,b,.int .i64 k.now]))
noncomputable def cxc(L:Nat):Cx:=⟨Tryz.prog,tys,meths,false,L,none,[],[],false,[{v:=.bool false,recovered:=false},{v:=.bool false,recovered:=false}],fun _=>False⟩
theorem zEW(L:Nat):(cxc L).Ok:=⟨zFB,zGO,zIS,zIT⟩
theorem zEP{F:SF}{L nx:Nat}{g:Gx}{now kind:Int}{p:Pkx}{h:Gx}{o:List Pkx}{e:Int}(hs:zAU g now kind p=(h,o,e))(hlen:p.cs.length≤1000000)(hb:∀c∈p.cs,c.bd.length≤1000000):
  Con Tryz.prog 24 [.agg g.row,.int .i64 now,.agg (.int .i64 kind::p.row)] F L nx nx (.tup [.agg h.row,zAV o,.int .i64 e]) [] []:=by
 have:=zO5 (F:=F) (L:=L) (nx:=nx) g now kind p hlen hb;rw[hs]at this;exact this
def zQo(L:Nat)(v:PV):Prop:=∀nx news,nmA (Dn L news) v∧rn (sg L nx news) v=v
theorem zCI{L:Nat}:zQo L .nilS:=fun nx news=>⟨by simp[nmA],by simp[Tx.rn]⟩
theorem zQp{L:Nat}{a:Nm}{i j:Nat}(h:a.l≤L):zQo L (.sl a i j):=fun nx news=>⟨by simp[nmA,Dn];omega,by simp[Tx.rn,zDz h]⟩
theorem zHK{F:SF}{L nx:Nat}(m:Nm)(hm0:m.l<L∨(m.l=L∧m.i<nx))(k:Tk)(kind:Int)(p:Pkx)(hlen:p.cs.length≤1000000)(hb:∀c∈p.cs,c.bd.length≤1000000)(va:PV)(hva:zQo L va)(b:Nm)(hbL:b.l≤L)(h:Gx)(hst:zAU k.g0 k.now kind p=(h,[],0))(hbm:b≠m)(hwl:k.w1.length≤1000000)(hFb:F b=some (.rows 38 4 true true (k.w1.map Pkx.row)))(hF:F m=some (.rows 33 43 true false [k.row va (.sl b 0 k.w1.length)])):
  Con Tryz.prog 12 [.ptr m 0 0,.int .i64 0,.agg (.int .i64 kind::p.row)] F L nx nx (.bool true) [(m,.rows 33 43 true false [(Tk.row {k with g0:=h} va (.sl b 0 k.w1.length))])] [m,b]:=by
 have hm:m.l≤L:=by omega
 have m1:∀k,(m=(⟨L+1,k⟩:Nm))=False:=zAI hm;have m2:∀k,((⟨L+1,k⟩:Nm)=m)=False:=zAF hm;have b1:∀k,(b=(⟨L+1,k⟩:Nm))=False:=zAI (by omega);have b2:∀k,((⟨L+1,k⟩:Nm)=b)=False:=zAF (by omega);have c1:(b=m)=False:=eq_false hbm;have c2:(m=b)=False:=eq_false (Ne.symm hbm);have hS:=fun F L nx=>zEP (F:=F) (L:=L) (nx:=nx) hst hlen hb
 have hG:=zAo hst;have hC:=fun F L nx=>zCO (F:=F) (L:=L) (nx:=nx) h
 rw[hG.ok,if_pos rfl]at hC;have hta:=hG.ta;have t1:(h.ta !=k.now)=false:=by simp;omega
 have e0:((0:Int)==8)=false:=rfl;have n0:((0:Int) !=0)=false:=rfl;have z1:((1:Int)-0)=1:=rfl;have z2:((1:Int)-1)=0:=rfl;have kz:zAV []= .nilS:=rfl;clear hG hst;simp only[Tk.row,Gx.row,Pkx.row,kz]at hF hS hC ⊢;show Con _ _ _ F L nx (nx+0) _ _ _;refine zUf (zAg (L+1)) rfl rfl (fn:=Tryz.f12) (c:=Tryz.f12.body.getD .skip) (by kernel_rfl) (by rfl) (by kernel_rfl) rfl (by simp;omega) ?_;intro F3 hF1 hF2;have kq:=(hF1 m (by simp)).trans hF;have kb:=(hF1 b (by simp)).trans hFb;refine vcu ⟨[some (.ptr m 0 0),some (.int .i64 0),none,none,none,some (.ptr ⟨L+1,0⟩ 0 0)]++oz 103,[(⟨L+1,0⟩,.rows 40 5 true true [[.int .i64 kind,.int .i64 p.fr,.int .i64 p.tt,.int .i64 p.tg,.fs 3 (p.cs.map Ckx.row)]])],10000⟩ ?_ ?_
 ·simp only[Tryz.f12,go_sem];repeat refine sd2 ?_
  refine ⟨(),(so0 hF2)⟩
 refine vcu ⟨[some (.ptr m 0 0),some (.int .i64 0),none,none,none,none,none,some (.ptr ⟨L+1,10480⟩ 0 0),some (.nilS),some (.int .i64 0)]++oz 99,[(⟨L+1,10480⟩,.rows 28 20 true true [(gR h [])])],20000⟩ ?_ ?_
 ·simp only[Tryz.f12,kq,m1,go_sem];repeat refine sd2 ?_
  refine CallVC.same (hS _ _ _) ?_;simp only[go_sem];repeat refine sd2 ?_
  refine ⟨zEG m2,(),(so0 hF2)⟩
 clear hS;refine vcu ⟨[some (.ptr m 0 0),some (.int .i64 0),none,none,none,none,none,some (.ptr ⟨L+1,10480⟩ 0 0),some (.nilS),some (.int .i64 0)]++oz 99,[(⟨L+1,10480⟩,.rows 28 20 true true [(gR h [])])],30000⟩ ?_ ?_
 ·simp only[Tryz.f12,e0,go_sem];repeat refine sd2 ?_
  refine ⟨(),(so0 hF2)⟩
 have g1:decide ((0:Int)>1)=false:=rfl;have g2:decide ((1:Int)>1)=false:=rfl;have g1':decide ((1:Int)<0)=false:=rfl;have g2':decide ((1:Int)<1)=false:=rfl;have g3':decide ((1:Int)<((1:Nat):Int))=false:=rfl;refine vcu ⟨[some (.ptr m 0 0),some (.int .i64 0),none,none,none,none,none,some (.ptr ⟨L+1,10480⟩ 0 0),some (.nilS)]++oz 100,[(⟨L+1,10480⟩,.rows 28 20 true true [(gR h [])])],40000⟩ ?_ ?_
 ·simp only[Tryz.f12,n0,go_sem];repeat refine sd2 ?_
  refine CallVC.same (hC _ _ _) ?_;simp only[kq,m1,n0,t1,g1,go_sem];repeat refine sd2 ?_
  refine ⟨zEG m2,(),(so0 hF2)⟩
 clear hC;refine vcu ⟨[some (.ptr m 0 0),some (.int .i64 0),none,none,none,none,none,some (.ptr ⟨L+1,10480⟩ 0 0),some (.nilS)]++oz 100,[(⟨L+1,10480⟩,.rows 28 20 true true [(gR h [])])],70000⟩ ?_ ?_
 ·simp only[Tryz.f12,go_sem];repeat refine sd2 ?_
  refine zU3 ?_;have q2:decide ((0:Int)<0)=false:=rfl;simp only[q2,go_sem];repeat refine sd2 ?_
  refine ⟨(),(so0 hF2)⟩
 refine vcu ⟨[some (.ptr m 0 0),some (.int .i64 0),none,none,none,none,none,none,some (.nilS)]++oz 100,[(m,.rows 33 43 true false [(gR h (gR k.g1 [va,(.sl b 0 k.w1.length),.int .i64 k.now]))])],80000⟩ ?_ ?_
 ·simp only[Tryz.f12,kq,m1,go_sem];repeat refine sd2 ?_
  refine ⟨zEG m2,(),(so0 hF2 (h2:=by simp[zAi,Tx.look,m1]) (h3:=by simp[zAs,keys,m2]))⟩
 refine VT.of (zAg (L+1)) ?_;simp only[Tryz.f12,kq,c1,kb,z1,zG,go_sem];repeat refine sd2 ?_
 refine ⟨zAA (fun x=>if x=m then 1 else if x=b then 1 else x.i+2) (by simp only[zA0,List.map,if_true];kernel_rfl),.now (PostN.val [] (.inr rfl) (by simp) (p:=True) (v0:=.bool true) ?_ trivial ?_ ?_ ⟨by omega,?_,trivial⟩ ?_)⟩;·simp only[go_sem]
 ·simp[nmA]
 ·simp[Tx.rn]
 ·rw[zF3];exact .ren (by simp[Tx.look];rfl) (by simp[zB2,nmA,zDf,Dn,(hva nx []).1,hbL]) (by simp[Tx.rn,Tx.rnL,(hva nx []).2,zDz hbL];try simp[sg])
 ·simp[UpdAll,keys]
def zIr(fr tt:Int)(sec:List UInt8)(own:Ini):Gx:=⟨1,fr,tt,sec,own,zIni,[],0, -1,0⟩
theorem zKM{F:SF}{L nx:Nat}(fr tt:Int)(sec:List UInt8)(own:Ini):
  Con Tryz.prog 29 [.int .i64 fr,.int .i64 tt,.str sec,.agg own.row] F L nx nx (if (zIr fr tt sec own).ok then .tup [.agg (zIr fr tt sec own).row,.int .i64 0] else .tup [.agg zGx.row,.int .i64 2]) [] []:=by
 have hC:=fun F L nx=>zCO (F:=F) (L:=L) (nx:=nx) (zIr fr tt sec own)
 have e330:((330:Int) !=0)=true:=rfl;have e0:((0:Int) !=0)=false:=rfl;cases hok:(zIr fr tt sec own).ok
 ·rw[hok,if_neg (by simp)]at hC;rw[if_neg (by simp)];simp only[zIr,Gx.row,Ini.row,zGx,zIni]at hC ⊢;refine bdy Tryz.f29 ?_;intro F3 hF1 hF2;simp only[Tryz.f29,go_sem];repeat refine sd2 ?_
  refine CallVC.same (hC _ _ _) ?_;simp only[e330,go_sem];repeat refine sd2 ?_
  exact ps0
 ·rw[hok,if_pos rfl]at hC;rw[if_pos rfl];simp only[zIr,Gx.row,Ini.row,zIni]at hC ⊢;refine bdy Tryz.f29 ?_;intro F3 hF1 hF2;simp only[Tryz.f29,go_sem];repeat refine sd2 ?_
  refine CallVC.same (hC _ _ _) ?_;simp only[e0,go_sem];repeat refine sd2 ?_
  exact ps0
def zKN(second:Bool)(n:Nat):Gx:=
 ⟨1,if second then 2 else 1,if second then 1 else 2,List.replicate 32 (if second then 98 else 97),⟨if second then 70000+(n:Int) else 1+(n:Int),1000+(n:Int),1+((n%9:Nat):Int),1+((n/9%9:Nat):Int),65536*(n:Int),[]⟩,zIni,[],0, -1,0⟩
def sdB(c:UInt8)(i:Nat):List UInt8:=List.replicate i c++List.replicate (32-i) 0
theorem zQq(c:UInt8){i:Nat}(h:i≤32):(sdB c i).length=32:=by simp[sdB];omega
theorem zNk(c d:UInt8){i:Nat}(h:i<32):((sdB c i).set i d).set i c=sdB c (i+1):=by
 rw[List.set_set];unfold sdB;rw[List.set_append_right _ _ (by simp),List.length_replicate,Nat.sub_self,show 32-i=(32-(i+1))+1 by omega,List.replicate_succ,List.set_cons_zero,List.replicate_succ' (n:=i),vO];rfl
theorem zO6(c:UInt8){i:Nat}(h:i<32):(sdB c i).set i c=sdB c (i+1):=by
 have:=zNk c c h
 rwa[List.set_set]at this
theorem zHL(l:List UInt8)(i:Nat):List.drop 1 ((l.map zBY).getD i [])=[]:=by
 rw[zE,wE];cases l[i]?<;>rfl
theorem zS0{n:Nat}(h:n<2^62):IntKind.i64.wrap (n:Int)=n:=by simp[IntKind.wrap,IntKind.signed,IntKind.bits];omega
theorem zK8{F:SF}{L nx:Nat}(second:Bool)(n:Nat)(hn:n<65536):Con Tryz.prog 40 [.bool second,.int .u16 n] F L nx nx (.agg (zKN second n).row) [] []:=by
 have wn:=zS0 (n:=n) (by omega);have d9:(n:Int).tmod 9=((n%9:Nat):Int):=by rw[wY (by omega)];rfl
 have q9:(n:Int).tdiv 9=((n/9:Nat):Int):=by rw[uJ (by omega)];rfl
 have e9:((n/9:Nat):Int).tmod 9=((n/9%9:Nat):Int):=by rw[wY (by omega)];rfl
 have u9:IntKind.u16.wrap ((n/9:Nat):Int)=((n/9:Nat):Int):=by simp[IntKind.wrap,IntKind.signed,IntKind.bits];omega
 have v9:=zS0 (n:=n%9) (by omega);have w9:=zS0 (n:=n/9%9) (by omega);refine zUU (zAg (L+1)) rfl rfl (fn:=Tryz.f40) (c:=Tryz.f40.body.getD .skip) (by kernel_rfl) (by rfl) (by kernel_rfl) rfl (by simp) ?_;intro F3 hF1 hF2;refine vcu ⟨[some (.bool second),some (.int .u16 n),none,none,some (.ptr ⟨L+1,0⟩ 0 0)]++oz 48,[(⟨L+1,0⟩,.rows 28 20 true true [zGx.row])],10000⟩ ?_ ?_
 ·simp only[Tryz.f40,go_sem];repeat refine sd2 ?_
  refine ⟨(),(so0 hF2 (h2:=by simp[zAi,Tx.look,zGx,Gx.row,zIni]))⟩
 refine vcu ⟨[some (.bool second),some (.int .u16 n),none,none,some (.ptr ⟨L+1,0⟩ 0 0),some (.sl ⟨L+1,10000⟩ 0 32)]++oz 47,[(⟨L+1,0⟩,.rows 28 20 true true [zGx.row]),(⟨L+1,10000⟩,.rows 5 1 true true ((sdB 0 0).map zBY))],20000⟩ ?_ ?_
 ·simp only[Tryz.f40,go_sem];repeat refine sd2 ?_
  refine ⟨(),(so0 hF2 (h2:=by simp[zAi,Tx.look,sdB,List.replicate,zBY]))⟩
 obtain ⟨c,hc⟩:∃c:UInt8,c=if second then 98 else 97:=⟨_,rfl⟩
 have hz0:sdB 0 0=sdB c 0:=by simp[sdB]
 rw[hz0];refine vcu ⟨[some (.bool second),some (.int .u16 n),none,none,some (.ptr ⟨L+1,0⟩ 0 0),some (.sl ⟨L+1,10000⟩ 0 32)]++oz 47,[(⟨L+1,0⟩,.rows 28 20 true true [zGx.row]),(⟨L+1,10000⟩,.rows 5 1 true true ((sdB c 32).map zBY))],10000000⟩ ?_ ?_
 ·simp only[Tryz.f40,go_sem];repeat refine sd2 ?_
  refine loopK.intro _ _ (I:=fun i:Nat=>⟨[some (.bool second),some (.int .u16 n),none,none,some (.ptr ⟨L+1,0⟩ 0 0),some (.sl ⟨L+1,10000⟩ 0 32),some (.int .i64 i)]++oz 46,[(⟨L+1,0⟩,.rows 28 20 true true [zGx.row]),(⟨L+1,10000⟩,.rows 5 1 true true ((sdB c i).map zBY))],10000*(i+3)⟩) (pre:=fun i=>i≤32) (μ:=fun i=>32-i) 0 (by omega) ?_ ?_
  ·refine Sub.of (hfz hF2) (by simp only[go_sem,zAf,and_self,zW];try trivial) ?_ (by simp[zAs,keys]) (by simp);simp[zAi,Tx.look]
  intro i hi;have hl:=zQq c hi;have hml:((sdB c i).map zBY).length=32:=by rw[zG,hl]
  by_cases hlt:i<32
  ·have g1:decide ((i:Int)<32)=true:=dT (by omega);cases second with
   |false=>
    rw[if_neg (by simp)]at hc;have s1:=zFI (sdB c i) i c;rw[zO6 c hlt]at s1;have c97:((c.toNat:Nat):Int)=97:=by rw[hc];rfl
    rw[c97]at s1;have gd:=zHL (sdB c i) i;simp only[g1,s1,gd,hml,zA,go_sem];repeat refine sd2 ?_
    refine ⟨i+1,by omega,by omega,?_⟩;refine Sub.of (hfz hF2) (by simp only[go_sem,zAf,and_self,zY];try trivial) ?_ (by simp[zAs,keys]) (by simp only[];omega);simp only[zAi,Tx.look,zCU,if_true,if_false,and_true,Nat.reduceEqDiff]
   |true=>
    rw[if_pos rfl]at hc;have s0:=zFI (sdB c i) i 97;have s1:=zFI ((sdB c i).set i 97) i c;rw[zNk c 97 hlt]at s1;have c98:((c.toNat:Nat):Int)=98:=by rw[hc];rfl
    have c97:(((97:UInt8).toNat:Nat):Int)=97:=rfl;rw[c98]at s1;rw[c97]at s0;have hml2:(((sdB c i).set i 97).map zBY).length=32:=by rw[zG,List.length_set,hl]
    have gd:=zHL (sdB c i) i;have gd2:=zHL ((sdB c i).set i 97) i;simp only[g1,s0,s1,gd,gd2,hml,hml2,zA,go_sem];repeat refine sd2 ?_
    refine ⟨i+1,by omega,by omega,?_⟩;refine Sub.of (hfz hF2) (by simp only[go_sem,zAf,and_self,zY];try trivial) ?_ (by simp[zAs,keys]) (by simp only[];omega);simp only[zAi,Tx.look,zCU,if_true,if_false,and_true,Nat.reduceEqDiff]
  ·obtain rfl:i=32:=by omega
   have g1:decide (((32:Nat):Int)<32)=false:=dF (by omega);have g1':decide ((32:Int)<32)=false:=dF (by omega);simp only[g1,go_sem];repeat refine sd2 ?_
   refine ⟨(),(so0 hF2)⟩
 have hs32:sdB c 32=List.replicate 32 c:=by simp[sdB]
 rw[hs32];obtain ⟨S,hS⟩:∃S,S=List.replicate 32 c:=⟨_,rfl⟩;rw[←hS];have hSl:S.length=32:=by rw[hS];simp
 have hrb:=zBK S;have htk:List.take 32 (S.map zBY)=S.map zBY:=zQ (by simp[hSl]);have hlm:(S.map zBY).length=32:=by simp[hSl]
 have hib:=zEN S;refine VT.of (zAg (L+1)) ?_;cases second with
 |false=>
  have hgS:zKN false n=⟨1,1,2,S,⟨1+(n:Int),1000+(n:Int),1+((n%9:Nat):Int),1+((n/9%9:Nat):Int),65536*(n:Int),[]⟩,zIni,[],0, -1,0⟩:=by rw[hS,hc];rfl
  rw[hgS];simp only[Tryz.f40,wn,d9,q9,e9,u9,v9,w9,hrb,htk,hlm,zGx,Gx.row,zIni,go_sem];repeat refine sd2 ?_
  exact ps0
 |true=>
  have hgS:zKN true n=⟨1,2,1,S,⟨70000+(n:Int),1000+(n:Int),1+((n%9:Nat):Int),1+((n/9%9:Nat):Int),65536*(n:Int),[]⟩,zIni,[],0, -1,0⟩:=by rw[hS,hc];rfl
  rw[hgS];simp only[Tryz.f40,wn,d9,q9,e9,u9,v9,w9,hrb,htk,hlm,zGx,Gx.row,zIni,go_sem];repeat refine sd2 ?_
  exact ps0
def zO7(n:Nat):Tk:=⟨zKN false n,zKN true (n/2),[],[],0⟩
end Go.Proofs.YtifhjhbfhdcahaaGreat
end
