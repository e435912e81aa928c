/- Lemmas for the walk: GK155. -/
import Derived.Test.YtifhjhbfhdcahaaGreatP26
import Derived.Test.YtifhjhbfhdcahaaGreatP20
set_option linter.all false
section
namespace Go.Proofs.YtifhjhbfhdcahaaGreat
open Go.Tx
set_option maxRecDepth 100000
set_option maxHeartbeats 16000000
def Tk.frow(k:Tk):List PV:=k.row (.fs 4 (k.w0.map Pkx.row)) (.fs 4 (k.w1.map Pkx.row))
def zKQ(k:Tk)(s:Bool)(kd:Int)(p:Pkx):Tk:=
 if (zAU (k.g s) k.now kd p).2.2=0 then k.ev s (zAU (k.g s) k.now kd p).1 (k.w s) (zAU (k.g s) k.now kd p).2.1 else k
def zPJ(k:Tk)(s:Bool)(kd later:Nat):Int:=if kd=4 then max (k.now+later) (k.g s).due else k.now+later
def zGX(k:Tk)(s:Bool)(kd at0:Nat)(now:Int):Tk:=
 if kd<5 then zKQ {k with now:=now} s kd pk0
 else if k.w s=[] then {k with now:=now}
 else
  let i:=at0%(k.w s).length
  let p:=(k.w s).getD i pk0
  let r:=(k.w s).eraseIdx i++(if kd=7 then [p] else [])
  let k2:Tk:=if s then {k with w1:=r,now:=now} else {k with w0:=r,now:=now}
  if kd=6 then k2 else zKQ k2 s 5 p
theorem zIl{k:Tk}{s:Bool}{kd at0:Nat}{now:Int}(h5:¬kd<5)(hne:k.w s≠[])(h6:kd≠6):zGX k s kd at0 now=zKQ (if s then {k with w1:=(k.w s).eraseIdx (at0%(k.w s).length)++(if kd=7 then [(k.w s).getD (at0%(k.w s).length) pk0] else []),now:=now} else {k with w0:=(k.w s).eraseIdx (at0%(k.w s).length)++(if kd=7 then [(k.w s).getD (at0%(k.w s).length) pk0] else []),now:=now}) s 5 ((k.w s).getD (at0%(k.w s).length) pk0):=by
 unfold zGX;rw[if_neg h5,if_neg hne];exact if_neg h6
theorem zLK{k:Tk}{s:Bool}{at0:Nat}{now:Int}(hne:k.w s≠[]):zGX k s 6 at0 now=(if s then {k with w1:=(k.w s).eraseIdx (at0%(k.w s).length)++(if 6=7 then [(k.w s).getD (at0%(k.w s).length) pk0] else []),now:=now} else {k with w0:=(k.w s).eraseIdx (at0%(k.w s).length)++(if 6=7 then [(k.w s).getD (at0%(k.w s).length) pk0] else []),now:=now}):=by
 unfold zGX;rw[if_neg (by omega),if_neg hne];exact if_pos rfl
theorem zCm{p:Pkx}(h:p.ok=true):p.cs.length≤1000000∧∀c∈p.cs,c.bd.length≤1000000:=by
 unfold Pkx.ok Pkx.hd at h;simp only[zC,decide_eq_true_eq,wK]at h;refine ⟨by omega,fun c hc=>?_⟩;have h2:=h.1.2 c hc;unfold Ckx.ok at h2;simp only[zC,decide_eq_true_eq]at h2;omega
theorem zNv{F:SF}{L nx:Nat}(k:Tk)(m:Mv)(s:Bool)(kd at0:Nat)(hs:m.which%2=if s then 1 else 0)(hkd:kd=1+m.what%8)(hat:at0=m.which/2)(hm:m.what<256∧m.which<256∧m.later<256)(hn:0≤k.now∧k.now≤2^42)(hd:(k.g s).due≤2^42)(hl:(k.w s).length≤1000)(hl2:(k.w !s).length≤1000)(hok:∀p∈k.w s,p.ok=true):Con Tryz.prog 17 [.agg k.frow,.agg (zBB hT kT),.agg m.row] F L nx nx (.agg (zGX k s kd at0 (zPJ k s kd m.later)).frow) [] []:=by
 have tl:(zBB hT kT).length=2:=rfl;have tn:=zCg hT kT;have kd8:1≤kd∧kd≤8:=by omega
 have u1:IntKind.i64.wrap ((m.which:Nat):Int)=(m.which:Int):=by simp[IntKind.wrap,IntKind.signed,IntKind.bits];omega
 have t2:(m.which:Int).tmod 2=((m.which%2:Nat):Int):=by rw[wY (by omega)];rfl
 have t8:(m.what:Int).tmod 8=((m.what%8:Nat):Int):=by rw[wY (by omega)];rfl
 have k8:1+((m.what%8:Nat):Int)=(kd:Int):=by omega
 have i1:Sx.zCn (k.now+(m.later:Int)):=by show _∧_;omega
 have i2:Sx.zCn (1+((m.what%8:Nat):Int)):=by show _∧_;omega
 simp only[Tk.frow,Tk.row,Mv.row];refine zUU (zAg (L+1)) rfl rfl (fn:=Tryz.f17) (c:=Tryz.f17.body.getD .skip) (by kernel_rfl) (by rfl) (by kernel_rfl) rfl (by simp) ?_;intro F3 hF1 hF2;refine vcu ⟨[none,none,none,some (.ptr ⟨L+1,0⟩ 0 0),some (.ptr ⟨L+1,32⟩ 0 0),some (.ptr ⟨L+1,64⟩ 0 0),some (.ptr ⟨L+1,96⟩ 0 0)]++oz 132,[(⟨L+1,0⟩,.rows 56 43 true true [(gR k.g0 (gR k.g1 [.fs 4 (k.w0.map Pkx.row),.fs 4 (k.w1.map Pkx.row),.int .i64 k.now]))]),(⟨L+1,32⟩,.rows 53 2 true true [zBB hT kT]),(⟨L+1,64⟩,.rows 60 3 true true [[.int .u8 m.what,.int .u8 m.which,.int .u8 m.later]]),(⟨L+1,96⟩,.rows 56 43 true true [(zz20 (zz20 [.nilS,.nilS,.int .i64 0]))])],10000⟩ ?_ ?_
 ·simp only[Tryz.f17,tl,tn,go_sem];repeat refine sd2 ?_
  exact ⟨(),(so0 hF2)⟩
 have hsi:((m.which%2:Nat):Int)=if s then 1 else 0:=by rw[hs];cases s<;>rfl
 refine vcu ⟨[none,none,none,some (.ptr ⟨L+1,0⟩ 0 0),some (.ptr ⟨L+1,32⟩ 0 0),some (.ptr ⟨L+1,64⟩ 0 0),some (.ptr ⟨L+1,96⟩ 0 0),some (.int .i64 (if s then 1 else 0))]++oz 131,[(⟨L+1,0⟩,.rows 56 43 true true [(gR k.g0 (gR k.g1 [.fs 4 (k.w0.map Pkx.row),.fs 4 (k.w1.map Pkx.row),.int .i64 k.now]))]),(⟨L+1,32⟩,.rows 53 2 true true [zBB hT kT]),(⟨L+1,64⟩,.rows 60 3 true true [[.int .u8 m.what,.int .u8 m.which,.int .u8 m.later]]),(⟨L+1,96⟩,.rows 56 43 true true [(zz20 (zz20 [.nilS,.nilS,.int .i64 0]))])],20000⟩ ?_ ?_
 ·simp only[Tryz.f17,t2,hsi,go_sem];repeat refine sd2 ?_
  exact ⟨(),(so0 hF2)⟩
 have ge5:∀a b:Int,decide (a≥b)=decide (b≤a):=fun _ _=>rfl
 cases s
 ·rw [show (if false=true then (1:Int) else 0)=0 from rfl]
  replace hd:k.g0.due≤2^42:=hd
  replace hl:k.w0.length≤1000:=hl
  replace hl2:k.w1.length≤1000:=hl2
  replace hok:∀p∈k.w0,p.ok=true:=hok
  obtain ⟨n1,hn1⟩:∃n,n=k.now+(m.later:Int):=⟨_,rfl⟩;have hn2:zPJ k false kd m.later=if kd=4 then max n1 k.g0.due else n1:=by unfold zPJ;rw[hn1];rfl
  obtain ⟨n2,hn2e⟩:∃n,n=zPJ k false kd m.later:=⟨_,rfl⟩;rw[←hn2e]at hn2 ⊢;have hb2:0≤n2∧n2≤2^42+255:=by rw[hn2,hn1];split<;>omega
  refine vcu ⟨[none,none,none,some (.ptr ⟨L+1,0⟩ 0 0),some (.ptr ⟨L+1,32⟩ 0 0),some (.ptr ⟨L+1,64⟩ 0 0),some (.ptr ⟨L+1,96⟩ 0 0),some (.int .i64 0)]++oz 131,[(⟨L+1,0⟩,.rows 56 43 true true [(gR k.g0 (gR k.g1 [.fs 4 (k.w0.map Pkx.row),.fs 4 (k.w1.map Pkx.row),.int .i64 n1]))]),(⟨L+1,32⟩,.rows 53 2 true true [zBB hT kT]),(⟨L+1,64⟩,.rows 60 3 true true [[.int .u8 m.what,.int .u8 m.which,.int .u8 m.later]]),(⟨L+1,96⟩,.rows 56 43 true true [(zz20 (zz20 [.nilS,.nilS,.int .i64 0]))])],30000⟩ ?_ ?_
  ·simp only[Tryz.f17,←hn1,go_sem];repeat refine And.intro (by first|exact i1|(rw[hn1];exact i1)|(show _∧_;omega)) ?_
   exact ⟨(),(so0 hF2)⟩
  refine vcu ⟨[none,none,none,some (.ptr ⟨L+1,0⟩ 0 0),some (.ptr ⟨L+1,32⟩ 0 0),some (.ptr ⟨L+1,64⟩ 0 0),some (.ptr ⟨L+1,96⟩ 0 0),some (.int .i64 0),some (.ptr ⟨L+1,30192⟩ 0 0)]++oz 130,[(⟨L+1,0⟩,.rows 56 43 true true [(gR k.g0 (gR k.g1 [.fs 4 (k.w0.map Pkx.row),.fs 4 (k.w1.map Pkx.row),.int .i64 n1]))]),(⟨L+1,32⟩,.rows 53 2 true true [zBB hT kT]),(⟨L+1,64⟩,.rows 60 3 true true [[.int .u8 m.what,.int .u8 m.which,.int .u8 m.later]]),(⟨L+1,96⟩,.rows 56 43 true true [(zz20 (zz20 [.nilS,.nilS,.int .i64 0]))]),(⟨L+1,30192⟩,.rows 40 5 true true [[.int .i64 (kd:Int),.int .i64 0,.int .i64 0,.int .i64 0,.fs 3 []]])],40000⟩ ?_ ?_
  ·simp only[Tryz.f17,t8,k8,go_sem];repeat refine And.intro (by first|exact i2|omega|(show _∧_;omega)) ?_
   refine ⟨(),(zUb ⟨L+1,30192⟩ (e:=40) (wd:=5) (o:=true) (p:=true) (row:=[.int .i64 (kd:Int),.int .i64 0,.int .i64 0,.int .i64 0,.nilS]) [.int .i64 (kd:Int),.int .i64 0,.int .i64 0,.int .i64 0,.fs 3 []] (by simp[Tx.look]) rfl (by simp[Wk,WkL]) (by simp[zAt,wkN]) (by simp[nfl,Tx.nf])).trans ((so0 hF2 (h2:=by simp[zAi,Tx.look,zAl,setH,unown,zAt,wkN]) (h3:=by simp[zAs,keys,zAl,setH,unown,zAt,wkN,Tx.look])))⟩
  refine vcu ⟨[none,none,none,some (.ptr ⟨L+1,0⟩ 0 0),some (.ptr ⟨L+1,32⟩ 0 0),some (.ptr ⟨L+1,64⟩ 0 0),some (.ptr ⟨L+1,96⟩ 0 0),some (.int .i64 0),some (.ptr ⟨L+1,30192⟩ 0 0)]++oz 130,[(⟨L+1,0⟩,.rows 56 43 true true [(gR k.g0 (gR k.g1 [.fs 4 (k.w0.map Pkx.row),.fs 4 (k.w1.map Pkx.row),.int .i64 n2]))]),(⟨L+1,32⟩,.rows 53 2 true true [zBB hT kT]),(⟨L+1,64⟩,.rows 60 3 true true [[.int .u8 m.what,.int .u8 m.which,.int .u8 m.later]]),(⟨L+1,96⟩,.rows 56 43 true true [(zz20 (zz20 [.nilS,.nilS,.int .i64 0]))]),(⟨L+1,30192⟩,.rows 40 5 true true [[.int .i64 (kd:Int),.int .i64 0,.int .i64 0,.int .i64 0,.fs 3 []]])],50000⟩ ?_ ?_
  ·by_cases h4:kd=4
   ·have k4:((kd:Int)==4)=true:=by simp[h4]
    rw[if_pos h4]at hn2;simp only[Tryz.f17,k4,←hn2,go_sem];repeat refine sd2 ?_
    refine ⟨zAA (fun x=>x.i) (by simp only[zA0,List.map];kernel_rfl),?_⟩;repeat refine sd2 ?_
    exact ⟨(),(so0 hF2)⟩
   ·have k4:((kd:Int)==4)=false:=by simp;omega
    rw[if_neg h4]at hn2;subst hn2;simp only[Tryz.f17,k4,go_sem];repeat refine sd2 ?_
    exact ⟨(),(so0 hF2)⟩
  by_cases he:5≤kd∧k.w0=[]
  ·have g5:decide (5≤(kd:Int))=true:=dT (by omega);have hA:zGX k false kd at0 n2={k with now:=n2}:=by unfold zGX;rw[if_neg (by omega)];exact if_pos he.2
   rw[hA];have wl:(((k.w0.map Pkx.row).length:Nat):Int)=0:=by rw[he.2];rfl
   have z0:((0:Int)==0)=true:=rfl;simp only[Tk.frow];refine VT.of (zAg (L+1)) ?_;simp only[Tryz.f17,g5,wl,z0,go_sem];repeat refine sd2 ?_
   exact ps0
  have q2:(m.which:Int).tdiv 2=(at0:Int):=by rw[uJ (by omega),hat];rfl
  have nf:∀l:List Pkx,(l.map Pkx.row).length=l.length:=fun l=>zG ..
  obtain ⟨i,hi⟩:∃i,i=at0%k.w0.length:=⟨_,rfl⟩;obtain ⟨p,hp⟩:∃p,p=k.w0.getD i pk0:=⟨_,rfl⟩;have hfacts:5≤kd→k.w0≠[]∧0<k.w0.length∧i<k.w0.length:=fun h5=>by
   have hne:k.w0≠[]:=fun h=>he ⟨h5,h⟩
   have hlp:0<k.w0.length:=List.length_pos_iff.2 hne;exact ⟨hne,hlp,by rw[hi];exact vE _ hlp⟩
  by_cases h6:kd=6
  ·have k6:((kd:Int)==6)=true:=by simp[h6]
   have k7:((kd:Int)==7)=false:=by simp[h6]
   have g5:decide (5≤(kd:Int))=true:=dT (by omega);obtain ⟨hne,hlp,hil⟩:=hfacts (by omega);have w0:(((k.w0.length:Nat):Int)==0)=false:=by simp;omega
   have wn:(((k.w0.length:Nat):Int)=0)=False:=eq_false (by omega);have tm:(at0:Int).tmod ((k.w0.length:Nat):Int)=(i:Int):=by rw[hi,wY (by omega)];rfl
   have gp:(k.w0.map Pkx.row).getD i []=(pR p):=by
    rw[hp];simp[zE,hil,Pkx.row]
   have wa8:IntKind.u8.wrap (at0:Int)=(at0:Int):=by simp[IntKind.wrap,IntKind.signed,IntKind.bits];omega
   have ia:Sx.zCn (at0:Int):=by show _∧_;omega
   have i3:Sx.zCn ((i:Int)+1):=by show _∧_;omega
   have n3:((i:Int)+1).toNat=i+1:=by omega
   have mR:(k.w0.map Pkx.row).length=k.w0.length:=zG ..;have td:List.take (k.w0.length-(i+1)) (List.drop (i+1) (k.w0.map Pkx.row))=List.drop (i+1) (k.w0.map Pkx.row):=zQ (by rw[wU,mR];omega);have tA:(List.take i (k.w0.map Pkx.row)).length=i:=by rw[wI,mR];omega
   have dB:(List.drop (i+1) (k.w0.map Pkx.row)).length=k.w0.length-(i+1):=by rw[wU,mR]
   have er:List.take i (k.w0.map Pkx.row)++List.drop (i+1) (k.w0.map Pkx.row)=(k.w0.eraseIdx i).map Pkx.row:=by rw[qU,wQ,List.map_take,List.map_drop]
   have el:(k.w0.eraseIdx i).length=k.w0.length-1:=qV hil;have ll:i+(k.w0.length-(i+1))=k.w0.length-1:=by omega
   have hA:zGX k false kd at0 n2={k with w0:=k.w0.eraseIdx i,now:=n2}:=by
    have:=zLK (k:=k) (s:=false) (at0:=at0) (now:=n2) hne;rw[if_neg (show ¬(6:Nat)=7 by omega),zK]at this;rw[h6,hi];exact this
   rw[hA];simp only[Tk.frow];refine VT.of (zAg (L+1)) ?_;simp only[Tryz.f17,g5,nf,w0,q2,wa8,tm,gp,n3,vH,td,tA,dB,er,ll,k6,k7,go_sem];repeat first|refine ⟨zAA (fun x=>x.i) (by simp only[zA0,List.map];kernel_rfl),?_⟩|refine And.intro (by first|exact ia|exact i3|omega|exact ⟨by omega,by omega⟩|(show _∧_;omega)|exact okS (by kernel_rfl)) ?_
   exact PostF.rs (v0:=.agg (gR k.g0 (gR k.g1 [.sl ⟨L+1,51440⟩ 0 (k.w0.length-1),.fs 4 (k.w1.map Pkx.row),.int .i64 n2]))) (.inr rfl) (hw:=by simp[Wk,WkL,Tx.look,el,zQ])
  refine VT.cut (zAg (L+1)) (by kernel_rfl) (fun z:Tk×Int×Pkx=>⟨[none,none,none,some (.ptr ⟨L+1,0⟩ 0 0),some (.ptr ⟨L+1,32⟩ 0 0),none,some (.ptr ⟨L+1,96⟩ 0 0),some (.int .i64 0),some (.ptr ⟨L+1,30192⟩ 0 0)]++oz 130,[(⟨L+1,0⟩,.rows 56 43 true true [(gR z.1.g0 (gR z.1.g1 [.fs 4 (z.1.w0.map Pkx.row),.fs 4 (z.1.w1.map Pkx.row),.int .i64 z.1.now]))]),(⟨L+1,32⟩,.rows 53 2 true true [zBB hT kT]),(⟨L+1,96⟩,.rows 56 43 true true [(zz20 (zz20 [.nilS,.nilS,.int .i64 0]))]),(⟨L+1,30192⟩,.rows 40 5 true true [[.int .i64 z.2.1,.int .i64 z.2.2.fr,.int .i64 z.2.2.tt,.int .i64 z.2.2.tg,.fs 3 (z.2.2.cs.map Ckx.row)]])],200000⟩) (fun z=>zGX k false kd at0 n2=zKQ z.1 false z.2.1 z.2.2∧z.2.2.cs.length≤1000000∧(∀c∈z.2.2.cs,c.bd.length≤1000000)∧z.1.w1.length≤1000) ?_ ?_
  ·by_cases h5:kd<5
   ·have g5:decide (5≤(kd:Int))=false:=dF (by omega);have hA:zGX k false kd at0 n2=zKQ {k with now:=n2} false kd pk0:=by unfold zGX;rw[if_pos h5]
    simp only[Tryz.f17,g5,go_sem];repeat refine sd2 ?_
    exact ⟨({k with now:=n2},(kd:Int),pk0),⟨hA,by simp[pk0],by simp[pk0],hl2⟩,(so0 hF2 (h2:=by simp[zAi,Tx.look,pk0]))⟩
   ·have g5:decide (5≤(kd:Int))=true:=dT (by omega);obtain ⟨hne,hlp,hil⟩:=hfacts (by omega);have w0:(((k.w0.length:Nat):Int)==0)=false:=by simp;omega
    have wn:(((k.w0.length:Nat):Int)=0)=False:=eq_false (by omega);have tm:(at0:Int).tmod ((k.w0.length:Nat):Int)=(i:Int):=by rw[hi,wY (by omega)];rfl
    have gp:(k.w0.map Pkx.row).getD i []=(pR p):=by
     rw[hp];simp[zE,hil,Pkx.row]
    have wa8:IntKind.u8.wrap (at0:Int)=(at0:Int):=by simp[IntKind.wrap,IntKind.signed,IntKind.bits];omega
    have ia:Sx.zCn (at0:Int):=by show _∧_;omega
    have i3:Sx.zCn ((i:Int)+1):=by show _∧_;omega
    have n3:((i:Int)+1).toNat=i+1:=by omega
    have mR:(k.w0.map Pkx.row).length=k.w0.length:=zG ..;have td:List.take (k.w0.length-(i+1)) (List.drop (i+1) (k.w0.map Pkx.row))=List.drop (i+1) (k.w0.map Pkx.row):=zQ (by rw[wU,mR];omega);have tA:(List.take i (k.w0.map Pkx.row)).length=i:=by rw[wI,mR];omega
    have dB:(List.drop (i+1) (k.w0.map Pkx.row)).length=k.w0.length-(i+1):=by rw[wU,mR]
    have er:List.take i (k.w0.map Pkx.row)++List.drop (i+1) (k.w0.map Pkx.row)=(k.w0.eraseIdx i).map Pkx.row:=by rw[qU,wQ,List.map_take,List.map_drop]
    have el:(k.w0.eraseIdx i).length=k.w0.length-1:=qV hil;have ll:i+(k.w0.length-(i+1))=k.w0.length-1:=by omega
    have k6:((kd:Int)==6)=false:=by simp;omega
    have hpo:p.ok=true:=hok p (by rw[hp];simp[zE,hil]);by_cases h7:kd=7
    ·have k7:((kd:Int)==7)=true:=by simp[h7]
     have hA:zGX k false kd at0 n2=zKQ {k with w0:=k.w0.eraseIdx i++[p],now:=n2} false 5 p:=by
      have:=zIl (k:=k) (s:=false) (at0:=at0) (now:=n2) (kd:=kd) (by omega) hne (by omega);rw[if_pos h7]at this;rw[hp,hi];exact this
     simp only[Tryz.f17,g5,nf,w0,q2,wa8,tm,gp,n3,vH,td,tA,dB,er,el,ll,k6,k7,zMt,go_sem];repeat first|refine ⟨zAA (fun x=>x.i) (by simp only[zA0,List.map];kernel_rfl),?_⟩|refine And.intro (by first|exact ia|exact i3|omega|exact ⟨by omega,by omega⟩|(show _∧_;omega)|exact okS (by kernel_rfl)) ?_
     refine ⟨({k with w0:=k.w0.eraseIdx i++[p],now:=n2},5,p),⟨hA,(zCm hpo).1,(zCm hpo).2,hl2⟩,(zUb ⟨L+1,0⟩ (e:=56) (wd:=43) (o:=true) (p:=false) (row:=(gR k.g0 (gR k.g1 [.sl ⟨L+1,51696⟩ 0 (k.w0.length-1+1),.fs 4 (k.w1.map Pkx.row),.int .i64 n2]))) (gR k.g0 (gR k.g1 [.fs 4 ((k.w0.eraseIdx i++[p]).map Pkx.row),.fs 4 (k.w1.map Pkx.row),.int .i64 n2])) (by simp[Tx.look]) rfl (by simp[Wk,WkL,Tx.look,Pkx.row,el,zQ]) (by simp[zAt,wkN]) (by simp[nfl,Tx.nf])).trans ((so0 hF2 (h2:=by simp[zAi,Tx.look,zAl,setH,unown,zAt,wkN]) (h3:=by simp[zAs,keys,zAl,setH,unown,zAt,wkN,Tx.look])))⟩
    ·have k7:((kd:Int)==7)=false:=by simp;omega
     have hA:zGX k false kd at0 n2=zKQ {k with w0:=k.w0.eraseIdx i,now:=n2} false 5 p:=by
      have:=zIl (k:=k) (s:=false) (at0:=at0) (now:=n2) (kd:=kd) (by omega) hne (by omega);rw[if_neg h7,zK]at this;rw[hp,hi];exact this
     simp only[Tryz.f17,g5,nf,w0,q2,wa8,tm,gp,n3,vH,td,tA,dB,er,ll,k6,k7,go_sem];repeat first|refine ⟨zAA (fun x=>x.i) (by simp only[zA0,List.map];kernel_rfl),?_⟩|refine And.intro (by first|exact ia|exact i3|omega|exact ⟨by omega,by omega⟩|(show _∧_;omega)|exact okS (by kernel_rfl)) ?_
     refine ⟨({k with w0:=k.w0.eraseIdx i,now:=n2},5,p),⟨hA,(zCm hpo).1,(zCm hpo).2,hl2⟩,(zUb ⟨L+1,0⟩ (e:=56) (wd:=43) (o:=true) (p:=false) (row:=(gR k.g0 (gR k.g1 [.sl ⟨L+1,51440⟩ 0 (k.w0.length-1),.fs 4 (k.w1.map Pkx.row),.int .i64 n2]))) (gR k.g0 (gR k.g1 [.fs 4 ((k.w0.eraseIdx i).map Pkx.row),.fs 4 (k.w1.map Pkx.row),.int .i64 n2])) (by simp[Tx.look]) rfl (by simp[Wk,WkL,Tx.look,el,zQ]) (by simp[zAt,wkN]) (by simp[nfl,Tx.nf])).trans ((so0 hF2 (h2:=by simp[zAi,Tx.look,zAl,setH,unown,zAt,wkN]) (h3:=by simp[zAs,keys,zAl,setH,unown,zAt,wkN,Tx.look])))⟩
  rintro ⟨kk,ee,pp⟩ ⟨hA,hc1,hc2,hw⟩
  simp only at hA hc1 hc2 hw ⊢;rw[hA];have hSt:=fun F L nx=>zH1 (F:=F) (L:=L) (nx:=nx) kk.g0 kk.now ee pp hc1 hc2
  have hS:zKQ kk false ee pp=if (zAU kk.g0 kk.now ee pp).2.2=0 then kk.ev false (zAU kk.g0 kk.now ee pp).1 kk.w0 (zAU kk.g0 kk.now ee pp).2.1 else kk:=rfl
  rw[hS];have hgd:=fun h o=>zAo (g:=kk.g0) (now:=kk.now) (kind:=ee) (p:=pp) (h:=h) (o:=o)
  obtain ⟨⟨h,o,e⟩,hst⟩:∃r,r=zAU kk.g0 kk.now ee pp:=⟨_,rfl⟩;rw[←hst]at hSt hgd ⊢;have on:=zAx o;simp only[Gx.row,Pkx.row]at hSt ⊢;clear hA hS;by_cases he:e=0;rotate_left
  ·rw[if_neg he];have ne:(e !=0)=true:=by simp[he]
   obtain ⟨v,hv⟩:∃v,v=zAV o:=⟨_,rfl⟩;rw[←hv]at hSt on;refine VT.of (zAg (L+1)) ?_;simp only[Tryz.f17,go_sem];repeat first|refine ⟨zAA (fun x=>x.i) (by simp only[zA0,List.map];kernel_rfl),?_⟩|refine And.intro (by first|omega|exact ⟨by omega,by omega⟩|(show _∧_;omega)|exact okS (by kernel_rfl)) ?_
   refine CallVC.same (hSt _ _ _) ?_;simp only[ne,go_sem];repeat first|refine ⟨zAA (fun x=>x.i) (by simp only[zA0,List.map];kernel_rfl),?_⟩|refine And.intro (by first|omega|exact ⟨by omega,by omega⟩|(show _∧_;omega)|exact okS (by kernel_rfl)) ?_
   exact ps0
  subst he;rw[if_pos rfl];have n0:((0:Int) !=0)=false:=rfl;have hol:=(hgd h o rfl).len;have mR:(kk.w1.map Pkx.row).length=kk.w1.length:=zG ..;have mO:(o.map Pkx.row).length=o.length:=zG ..;have hoo:o=[]∨∃x,o=[x]:=by
   match o,hol with
   | [],_=>exact .inl rfl
   | [x],_=>exact .inr ⟨x,rfl⟩
   |_::_::_,hl=>simp at hl
  refine vcu ⟨[none,none,none,some (.ptr ⟨L+1,0⟩ 0 0),none,none,some (.ptr ⟨L+1,96⟩ 0 0),some (.int .i64 0),none,none,none,none,some (.ptr ⟨L+1,200384⟩ 0 0),some (.fs 4 (o.map Pkx.row)),some (.int .i64 0)]++oz 124,[(⟨L+1,0⟩,.rows 56 43 true true [(gR kk.g0 (gR kk.g1 [.fs 4 (kk.w0.map Pkx.row),.fs 4 (kk.w1.map Pkx.row),.int .i64 kk.now]))]),(⟨L+1,96⟩,.rows 56 43 true true [(zz20 (zz20 [.nilS,.nilS,.int .i64 0]))]),(⟨L+1,200384⟩,.rows 28 20 true true [(gR h [])])],300000⟩ ?_ ?_
  ·rcases hoo with rfl|⟨x,rfl⟩
   ·simp only[zAV]at hSt;simp only[Tryz.f17,go_sem];repeat first|refine ⟨zAA (fun x=>x.i) (by simp only[zA0,List.map];kernel_rfl),?_⟩|refine And.intro (by first|omega|exact ⟨by omega,by omega⟩|(show _∧_;omega)|exact okS (by kernel_rfl)) ?_
    refine CallVC.same (hSt _ _ _) ?_;simp only[go_sem];repeat first|refine ⟨zAA (fun x=>x.i) (by simp only[zA0,List.map];kernel_rfl),?_⟩|refine And.intro (by first|omega|exact ⟨by omega,by omega⟩|(show _∧_;omega)|exact okS (by kernel_rfl)) ?_
    refine ⟨(),Sub.trans (zUu 13 (.fs 4 []) rfl (by simp[Wk])) ?_⟩;exact (so0 hF2 (h2:=by simp[zAi,Tx.look,zAl,unown,wkN]) (h3:=by simp[zAs,keys,zAl,unown,wkN,Tx.look]))
   ·simp only[zGV]at hSt;simp only[Tryz.f17,go_sem];repeat first|refine ⟨zAA (fun x=>x.i) (by simp only[zA0,List.map];kernel_rfl),?_⟩|refine And.intro (by first|omega|exact ⟨by omega,by omega⟩|(show _∧_;omega)|exact okS (by kernel_rfl)) ?_
    refine CallVC.same (hSt _ _ _) ?_;simp only[go_sem];repeat first|refine ⟨zAA (fun x=>x.i) (by simp only[zA0,List.map];kernel_rfl),?_⟩|refine And.intro (by first|omega|exact ⟨by omega,by omega⟩|(show _∧_;omega)|exact okS (by kernel_rfl)) ?_
    exact ⟨(),(so0 hF2 (h1:=by(simp only[go_sem,zAf,and_self,Pkx.row];try trivial)))⟩
  refine VT.of (zAg (L+1)) ?_;simp only[Tk.ev];simp only[Tryz.f17,n0,mR,mO,Int.reduceSub,go_sem];repeat first|refine ⟨zAA (fun x=>x.i) (by simp only[zA0,List.map];kernel_rfl),?_⟩|refine And.intro (by first|omega|exact ⟨by omega,by omega⟩|(show _∧_;omega)|exact okS (by kernel_rfl)) ?_
  exact PostF.rs (v0:=.agg (gR h (gR kk.g1 [.fs 4 (kk.w0.map Pkx.row),.sl ⟨L+1,300576⟩ 0 (kk.w1.length+o.length),.int .i64 kk.now]))) (.inr rfl) (hw:=by simp[Wk,WkL,Tx.look,zQ,wQ])
 ·rw [show (if true=true then (1:Int) else 0)=1 from rfl]
  replace hd:k.g1.due≤2^42:=hd
  replace hl:k.w1.length≤1000:=hl
  replace hl2:k.w0.length≤1000:=hl2
  replace hok:∀p∈k.w1,p.ok=true:=hok
  obtain ⟨n1,hn1⟩:∃n,n=k.now+(m.later:Int):=⟨_,rfl⟩;have hn2:zPJ k true kd m.later=if kd=4 then max n1 k.g1.due else n1:=by unfold zPJ;rw[hn1];rfl
  obtain ⟨n2,hn2e⟩:∃n,n=zPJ k true kd m.later:=⟨_,rfl⟩;rw[←hn2e]at hn2 ⊢;have hb2:0≤n2∧n2≤2^42+255:=by rw[hn2,hn1];split<;>omega
  refine vcu ⟨[none,none,none,some (.ptr ⟨L+1,0⟩ 0 0),some (.ptr ⟨L+1,32⟩ 0 0),some (.ptr ⟨L+1,64⟩ 0 0),some (.ptr ⟨L+1,96⟩ 0 0),some (.int .i64 1)]++oz 131,[(⟨L+1,0⟩,.rows 56 43 true true [(gR k.g0 (gR k.g1 [.fs 4 (k.w0.map Pkx.row),.fs 4 (k.w1.map Pkx.row),.int .i64 n1]))]),(⟨L+1,32⟩,.rows 53 2 true true [zBB hT kT]),(⟨L+1,64⟩,.rows 60 3 true true [[.int .u8 m.what,.int .u8 m.which,.int .u8 m.later]]),(⟨L+1,96⟩,.rows 56 43 true true [(zz20 (zz20 [.nilS,.nilS,.int .i64 0]))])],30000⟩ ?_ ?_
  ·simp only[Tryz.f17,←hn1,go_sem];repeat refine And.intro (by first|exact i1|(rw[hn1];exact i1)|(show _∧_;omega)) ?_
   exact ⟨(),(so0 hF2)⟩
  refine vcu ⟨[none,none,none,some (.ptr ⟨L+1,0⟩ 0 0),some (.ptr ⟨L+1,32⟩ 0 0),some (.ptr ⟨L+1,64⟩ 0 0),some (.ptr ⟨L+1,96⟩ 0 0),some (.int .i64 1),some (.ptr ⟨L+1,30192⟩ 0 0)]++oz 130,[(⟨L+1,0⟩,.rows 56 43 true true [(gR k.g0 (gR k.g1 [.fs 4 (k.w0.map Pkx.row),.fs 4 (k.w1.map Pkx.row),.int .i64 n1]))]),(⟨L+1,32⟩,.rows 53 2 true true [zBB hT kT]),(⟨L+1,64⟩,.rows 60 3 true true [[.int .u8 m.what,.int .u8 m.which,.int .u8 m.later]]),(⟨L+1,96⟩,.rows 56 43 true true [(zz20 (zz20 [.nilS,.nilS,.int .i64 0]))]),(⟨L+1,30192⟩,.rows 40 5 true true [[.int .i64 (kd:Int),.int .i64 0,.int .i64 0,.int .i64 0,.fs 3 []]])],40000⟩ ?_ ?_
  ·simp only[Tryz.f17,t8,k8,go_sem];repeat refine And.intro (by first|exact i2|omega|(show _∧_;omega)) ?_
   refine ⟨(),(zUb ⟨L+1,30192⟩ (e:=40) (wd:=5) (o:=true) (p:=true) (row:=[.int .i64 (kd:Int),.int .i64 0,.int .i64 0,.int .i64 0,.nilS]) [.int .i64 (kd:Int),.int .i64 0,.int .i64 0,.int .i64 0,.fs 3 []] (by simp[Tx.look]) rfl (by simp[Wk,WkL]) (by simp[zAt,wkN]) (by simp[nfl,Tx.nf])).trans ((so0 hF2 (h2:=by simp[zAi,Tx.look,zAl,setH,unown,zAt,wkN]) (h3:=by simp[zAs,keys,zAl,setH,unown,zAt,wkN,Tx.look])))⟩
  refine vcu ⟨[none,none,none,some (.ptr ⟨L+1,0⟩ 0 0),some (.ptr ⟨L+1,32⟩ 0 0),some (.ptr ⟨L+1,64⟩ 0 0),some (.ptr ⟨L+1,96⟩ 0 0),some (.int .i64 1),some (.ptr ⟨L+1,30192⟩ 0 0)]++oz 130,[(⟨L+1,0⟩,.rows 56 43 true true [(gR k.g0 (gR k.g1 [.fs 4 (k.w0.map Pkx.row),.fs 4 (k.w1.map Pkx.row),.int .i64 n2]))]),(⟨L+1,32⟩,.rows 53 2 true true [zBB hT kT]),(⟨L+1,64⟩,.rows 60 3 true true [[.int .u8 m.what,.int .u8 m.which,.int .u8 m.later]]),(⟨L+1,96⟩,.rows 56 43 true true [(zz20 (zz20 [.nilS,.nilS,.int .i64 0]))]),(⟨L+1,30192⟩,.rows 40 5 true true [[.int .i64 (kd:Int),.int .i64 0,.int .i64 0,.int .i64 0,.fs 3 []]])],50000⟩ ?_ ?_
  ·by_cases h4:kd=4
   ·have k4:((kd:Int)==4)=true:=by simp[h4]
    rw[if_pos h4]at hn2;simp only[Tryz.f17,k4,←hn2,go_sem];repeat refine sd2 ?_
    refine ⟨zAA (fun x=>x.i) (by simp only[zA0,List.map];kernel_rfl),?_⟩;repeat refine sd2 ?_
    exact ⟨(),(so0 hF2)⟩
   ·have k4:((kd:Int)==4)=false:=by simp;omega
    rw[if_neg h4]at hn2;subst hn2;simp only[Tryz.f17,k4,go_sem];repeat refine sd2 ?_
    exact ⟨(),(so0 hF2)⟩
  by_cases he:5≤kd∧k.w1=[]
  ·have g5:decide (5≤(kd:Int))=true:=dT (by omega);have hA:zGX k true kd at0 n2={k with now:=n2}:=by unfold zGX;rw[if_neg (by omega)];exact if_pos he.2
   rw[hA];have wl:(((k.w1.map Pkx.row).length:Nat):Int)=0:=by rw[he.2];rfl
   have z0:((0:Int)==0)=true:=rfl;simp only[Tk.frow];refine VT.of (zAg (L+1)) ?_;simp only[Tryz.f17,g5,wl,z0,go_sem];repeat refine sd2 ?_
   exact ps0
  have q2:(m.which:Int).tdiv 2=(at0:Int):=by rw[uJ (by omega),hat];rfl
  have nf:∀l:List Pkx,(l.map Pkx.row).length=l.length:=fun l=>zG ..
  obtain ⟨i,hi⟩:∃i,i=at0%k.w1.length:=⟨_,rfl⟩;obtain ⟨p,hp⟩:∃p,p=k.w1.getD i pk0:=⟨_,rfl⟩;have hfacts:5≤kd→k.w1≠[]∧0<k.w1.length∧i<k.w1.length:=fun h5=>by
   have hne:k.w1≠[]:=fun h=>he ⟨h5,h⟩
   have hlp:0<k.w1.length:=List.length_pos_iff.2 hne;exact ⟨hne,hlp,by rw[hi];exact vE _ hlp⟩
  by_cases h6:kd=6
  ·have k6:((kd:Int)==6)=true:=by simp[h6]
   have k7:((kd:Int)==7)=false:=by simp[h6]
   have g5:decide (5≤(kd:Int))=true:=dT (by omega);obtain ⟨hne,hlp,hil⟩:=hfacts (by omega);have w0:(((k.w1.length:Nat):Int)==0)=false:=by simp;omega
   have wn:(((k.w1.length:Nat):Int)=0)=False:=eq_false (by omega);have tm:(at0:Int).tmod ((k.w1.length:Nat):Int)=(i:Int):=by rw[hi,wY (by omega)];rfl
   have gp:(k.w1.map Pkx.row).getD i []=(pR p):=by
    rw[hp];simp[zE,hil,Pkx.row]
   have wa8:IntKind.u8.wrap (at0:Int)=(at0:Int):=by simp[IntKind.wrap,IntKind.signed,IntKind.bits];omega
   have ia:Sx.zCn (at0:Int):=by show _∧_;omega
   have i3:Sx.zCn ((i:Int)+1):=by show _∧_;omega
   have n3:((i:Int)+1).toNat=i+1:=by omega
   have mR:(k.w1.map Pkx.row).length=k.w1.length:=zG ..;have td:List.take (k.w1.length-(i+1)) (List.drop (i+1) (k.w1.map Pkx.row))=List.drop (i+1) (k.w1.map Pkx.row):=zQ (by rw[wU,mR];omega);have tA:(List.take i (k.w1.map Pkx.row)).length=i:=by rw[wI,mR];omega
   have dB:(List.drop (i+1) (k.w1.map Pkx.row)).length=k.w1.length-(i+1):=by rw[wU,mR]
   have er:List.take i (k.w1.map Pkx.row)++List.drop (i+1) (k.w1.map Pkx.row)=(k.w1.eraseIdx i).map Pkx.row:=by rw[qU,wQ,List.map_take,List.map_drop]
   have el:(k.w1.eraseIdx i).length=k.w1.length-1:=qV hil;have ll:i+(k.w1.length-(i+1))=k.w1.length-1:=by omega
   have hA:zGX k true kd at0 n2={k with w1:=k.w1.eraseIdx i,now:=n2}:=by
    have:=zLK (k:=k) (s:=true) (at0:=at0) (now:=n2) hne;rw[if_neg (show ¬(6:Nat)=7 by omega),zK]at this;rw[h6,hi];exact this
   rw[hA];simp only[Tk.frow];refine VT.of (zAg (L+1)) ?_;simp only[Tryz.f17,g5,nf,w0,q2,wa8,tm,gp,n3,vH,td,tA,dB,er,ll,k6,k7,go_sem];repeat first|refine ⟨zAA (fun x=>x.i) (by simp only[zA0,List.map];kernel_rfl),?_⟩|refine And.intro (by first|exact ia|exact i3|omega|exact ⟨by omega,by omega⟩|(show _∧_;omega)|exact okS (by kernel_rfl)) ?_
   exact PostF.rs (v0:=.agg (gR k.g0 (gR k.g1 [.fs 4 (k.w0.map Pkx.row),.sl ⟨L+1,51440⟩ 0 (k.w1.length-1),.int .i64 n2]))) (.inr rfl) (hw:=by simp[Wk,WkL,Tx.look,el,zQ])
  refine VT.cut (zAg (L+1)) (by kernel_rfl) (fun z:Tk×Int×Pkx=>⟨[none,none,none,some (.ptr ⟨L+1,0⟩ 0 0),some (.ptr ⟨L+1,32⟩ 0 0),none,some (.ptr ⟨L+1,96⟩ 0 0),some (.int .i64 1),some (.ptr ⟨L+1,30192⟩ 0 0)]++oz 130,[(⟨L+1,0⟩,.rows 56 43 true true [(gR z.1.g0 (gR z.1.g1 [.fs 4 (z.1.w0.map Pkx.row),.fs 4 (z.1.w1.map Pkx.row),.int .i64 z.1.now]))]),(⟨L+1,32⟩,.rows 53 2 true true [zBB hT kT]),(⟨L+1,96⟩,.rows 56 43 true true [(zz20 (zz20 [.nilS,.nilS,.int .i64 0]))]),(⟨L+1,30192⟩,.rows 40 5 true true [[.int .i64 z.2.1,.int .i64 z.2.2.fr,.int .i64 z.2.2.tt,.int .i64 z.2.2.tg,.fs 3 (z.2.2.cs.map Ckx.row)]])],200000⟩) (fun z=>zGX k true kd at0 n2=zKQ z.1 true z.2.1 z.2.2∧z.2.2.cs.length≤1000000∧(∀c∈z.2.2.cs,c.bd.length≤1000000)∧z.1.w0.length≤1000) ?_ ?_
  ·by_cases h5:kd<5
   ·have g5:decide (5≤(kd:Int))=false:=dF (by omega);have hA:zGX k true kd at0 n2=zKQ {k with now:=n2} true kd pk0:=by unfold zGX;rw[if_pos h5]
    simp only[Tryz.f17,g5,go_sem];repeat refine sd2 ?_
    exact ⟨({k with now:=n2},(kd:Int),pk0),⟨hA,by simp[pk0],by simp[pk0],hl2⟩,(so0 hF2 (h2:=by simp[zAi,Tx.look,pk0]))⟩
   ·have g5:decide (5≤(kd:Int))=true:=dT (by omega);obtain ⟨hne,hlp,hil⟩:=hfacts (by omega);have w0:(((k.w1.length:Nat):Int)==0)=false:=by simp;omega
    have wn:(((k.w1.length:Nat):Int)=0)=False:=eq_false (by omega);have tm:(at0:Int).tmod ((k.w1.length:Nat):Int)=(i:Int):=by rw[hi,wY (by omega)];rfl
    have gp:(k.w1.map Pkx.row).getD i []=(pR p):=by
     rw[hp];simp[zE,hil,Pkx.row]
    have wa8:IntKind.u8.wrap (at0:Int)=(at0:Int):=by simp[IntKind.wrap,IntKind.signed,IntKind.bits];omega
    have ia:Sx.zCn (at0:Int):=by show _∧_;omega
    have i3:Sx.zCn ((i:Int)+1):=by show _∧_;omega
    have n3:((i:Int)+1).toNat=i+1:=by omega
    have mR:(k.w1.map Pkx.row).length=k.w1.length:=zG ..;have td:List.take (k.w1.length-(i+1)) (List.drop (i+1) (k.w1.map Pkx.row))=List.drop (i+1) (k.w1.map Pkx.row):=zQ (by rw[wU,mR];omega);have tA:(List.take i (k.w1.map Pkx.row)).length=i:=by rw[wI,mR];omega
    have dB:(List.drop (i+1) (k.w1.map Pkx.row)).length=k.w1.length-(i+1):=by rw[wU,mR]
    have er:List.take i (k.w1.map Pkx.row)++List.drop (i+1) (k.w1.map Pkx.row)=(k.w1.eraseIdx i).map Pkx.row:=by rw[qU,wQ,List.map_take,List.map_drop]
    have el:(k.w1.eraseIdx i).length=k.w1.length-1:=qV hil;have ll:i+(k.w1.length-(i+1))=k.w1.length-1:=by omega
    have k6:((kd:Int)==6)=false:=by simp;omega
    have hpo:p.ok=true:=hok p (by rw[hp];simp[zE,hil]);by_cases h7:kd=7
    ·have k7:((kd:Int)==7)=true:=by simp[h7]
     have hA:zGX k true kd at0 n2=zKQ {k with w1:=k.w1.eraseIdx i++[p],now:=n2} true 5 p:=by
      have:=zIl (k:=k) (s:=true) (at0:=at0) (now:=n2) (kd:=kd) (by omega) hne (by omega);rw[if_pos h7]at this;rw[hp,hi];exact this
     simp only[Tryz.f17,g5,nf,w0,q2,wa8,tm,gp,n3,vH,td,tA,dB,er,el,ll,k6,k7,zMt,go_sem];repeat first|refine ⟨zAA (fun x=>x.i) (by simp only[zA0,List.map];kernel_rfl),?_⟩|refine And.intro (by first|exact ia|exact i3|omega|exact ⟨by omega,by omega⟩|(show _∧_;omega)|exact okS (by kernel_rfl)) ?_
     refine ⟨({k with w1:=k.w1.eraseIdx i++[p],now:=n2},5,p),⟨hA,(zCm hpo).1,(zCm hpo).2,hl2⟩,(zUb ⟨L+1,0⟩ (e:=56) (wd:=43) (o:=true) (p:=false) (row:=(gR k.g0 (gR k.g1 [.fs 4 (k.w0.map Pkx.row),.sl ⟨L+1,51696⟩ 0 (k.w1.length-1+1),.int .i64 n2]))) (gR k.g0 (gR k.g1 [.fs 4 (k.w0.map Pkx.row),.fs 4 ((k.w1.eraseIdx i++[p]).map Pkx.row),.int .i64 n2])) (by simp[Tx.look]) rfl (by simp[Wk,WkL,Tx.look,Pkx.row,el,zQ]) (by simp[zAt,wkN]) (by simp[nfl,Tx.nf])).trans ((so0 hF2 (h2:=by simp[zAi,Tx.look,zAl,setH,unown,zAt,wkN]) (h3:=by simp[zAs,keys,zAl,setH,unown,zAt,wkN,Tx.look])))⟩
    ·have k7:((kd:Int)==7)=false:=by simp;omega
     have hA:zGX k true kd at0 n2=zKQ {k with w1:=k.w1.eraseIdx i,now:=n2} true 5 p:=by
      have:=zIl (k:=k) (s:=true) (at0:=at0) (now:=n2) (kd:=kd) (by omega) hne (by omega);rw[if_neg h7,zK]at this;rw[hp,hi];exact this
     simp only[Tryz.f17,g5,nf,w0,q2,wa8,tm,gp,n3,vH,td,tA,dB,er,ll,k6,k7,go_sem];repeat first|refine ⟨zAA (fun x=>x.i) (by simp only[zA0,List.map];kernel_rfl),?_⟩|refine And.intro (by first|exact ia|exact i3|omega|exact ⟨by omega,by omega⟩|(show _∧_;omega)|exact okS (by kernel_rfl)) ?_
     refine ⟨({k with w1:=k.w1.eraseIdx i,now:=n2},5,p),⟨hA,(zCm hpo).1,(zCm hpo).2,hl2⟩,(zUb ⟨L+1,0⟩ (e:=56) (wd:=43) (o:=true) (p:=false) (row:=(gR k.g0 (gR k.g1 [.fs 4 (k.w0.map Pkx.row),.sl ⟨L+1,51440⟩ 0 (k.w1.length-1),.int .i64 n2]))) (gR k.g0 (gR k.g1 [.fs 4 (k.w0.map Pkx.row),.fs 4 ((k.w1.eraseIdx i).map Pkx.row),.int .i64 n2])) (by simp[Tx.look]) rfl (by simp[Wk,WkL,Tx.look,el,zQ]) (by simp[zAt,wkN]) (by simp[nfl,Tx.nf])).trans ((so0 hF2 (h2:=by simp[zAi,Tx.look,zAl,setH,unown,zAt,wkN]) (h3:=by simp[zAs,keys,zAl,setH,unown,zAt,wkN,Tx.look])))⟩
  rintro ⟨kk,ee,pp⟩ ⟨hA,hc1,hc2,hw⟩
  simp only at hA hc1 hc2 hw ⊢;rw[hA];have hSt:=fun F L nx=>zH1 (F:=F) (L:=L) (nx:=nx) kk.g1 kk.now ee pp hc1 hc2
  have hS:zKQ kk true ee pp=if (zAU kk.g1 kk.now ee pp).2.2=0 then kk.ev true (zAU kk.g1 kk.now ee pp).1 kk.w1 (zAU kk.g1 kk.now ee pp).2.1 else kk:=rfl
  rw[hS];have hgd:=fun h o=>zAo (g:=kk.g1) (now:=kk.now) (kind:=ee) (p:=pp) (h:=h) (o:=o)
  obtain ⟨⟨h,o,e⟩,hst⟩:∃r,r=zAU kk.g1 kk.now ee pp:=⟨_,rfl⟩;rw[←hst]at hSt hgd ⊢;have on:=zAx o;simp only[Gx.row,Pkx.row]at hSt ⊢;clear hA hS;by_cases he:e=0;rotate_left
  ·rw[if_neg he];have ne:(e !=0)=true:=by simp[he]
   obtain ⟨v,hv⟩:∃v,v=zAV o:=⟨_,rfl⟩;rw[←hv]at hSt on;refine VT.of (zAg (L+1)) ?_;simp only[Tryz.f17,go_sem];repeat first|refine ⟨zAA (fun x=>x.i) (by simp only[zA0,List.map];kernel_rfl),?_⟩|refine And.intro (by first|omega|exact ⟨by omega,by omega⟩|(show _∧_;omega)|exact okS (by kernel_rfl)) ?_
   refine CallVC.same (hSt _ _ _) ?_;simp only[ne,go_sem];repeat first|refine ⟨zAA (fun x=>x.i) (by simp only[zA0,List.map];kernel_rfl),?_⟩|refine And.intro (by first|omega|exact ⟨by omega,by omega⟩|(show _∧_;omega)|exact okS (by kernel_rfl)) ?_
   exact ps0
  subst he;rw[if_pos rfl];have n0:((0:Int) !=0)=false:=rfl;have hol:=(hgd h o rfl).len;have mR:(kk.w0.map Pkx.row).length=kk.w0.length:=zG ..;have mO:(o.map Pkx.row).length=o.length:=zG ..;have hoo:o=[]∨∃x,o=[x]:=by
   match o,hol with
   | [],_=>exact .inl rfl
   | [x],_=>exact .inr ⟨x,rfl⟩
   |_::_::_,hl=>simp at hl
  refine vcu ⟨[none,none,none,some (.ptr ⟨L+1,0⟩ 0 0),none,none,some (.ptr ⟨L+1,96⟩ 0 0),some (.int .i64 1),none,none,none,none,some (.ptr ⟨L+1,200384⟩ 0 0),some (.fs 4 (o.map Pkx.row)),some (.int .i64 0)]++oz 124,[(⟨L+1,0⟩,.rows 56 43 true true [(gR kk.g0 (gR kk.g1 [.fs 4 (kk.w0.map Pkx.row),.fs 4 (kk.w1.map Pkx.row),.int .i64 kk.now]))]),(⟨L+1,96⟩,.rows 56 43 true true [(zz20 (zz20 [.nilS,.nilS,.int .i64 0]))]),(⟨L+1,200384⟩,.rows 28 20 true true [(gR h [])])],300000⟩ ?_ ?_
  ·rcases hoo with rfl|⟨x,rfl⟩
   ·simp only[zAV]at hSt;simp only[Tryz.f17,go_sem];repeat first|refine ⟨zAA (fun x=>x.i) (by simp only[zA0,List.map];kernel_rfl),?_⟩|refine And.intro (by first|omega|exact ⟨by omega,by omega⟩|(show _∧_;omega)|exact okS (by kernel_rfl)) ?_
    refine CallVC.same (hSt _ _ _) ?_;simp only[go_sem];repeat first|refine ⟨zAA (fun x=>x.i) (by simp only[zA0,List.map];kernel_rfl),?_⟩|refine And.intro (by first|omega|exact ⟨by omega,by omega⟩|(show _∧_;omega)|exact okS (by kernel_rfl)) ?_
    refine ⟨(),Sub.trans (zUu 13 (.fs 4 []) rfl (by simp[Wk])) ?_⟩;exact (so0 hF2 (h2:=by simp[zAi,Tx.look,zAl,unown,wkN]) (h3:=by simp[zAs,keys,zAl,unown,wkN,Tx.look]))
   ·simp only[zGV]at hSt;simp only[Tryz.f17,go_sem];repeat first|refine ⟨zAA (fun x=>x.i) (by simp only[zA0,List.map];kernel_rfl),?_⟩|refine And.intro (by first|omega|exact ⟨by omega,by omega⟩|(show _∧_;omega)|exact okS (by kernel_rfl)) ?_
    refine CallVC.same (hSt _ _ _) ?_;simp only[go_sem];repeat first|refine ⟨zAA (fun x=>x.i) (by simp only[zA0,List.map];kernel_rfl),?_⟩|refine And.intro (by first|omega|exact ⟨by omega,by omega⟩|(show _∧_;omega)|exact okS (by kernel_rfl)) ?_
    exact ⟨(),(so0 hF2 (h1:=by(simp only[go_sem,zAf,and_self,Pkx.row];try trivial)))⟩
  refine VT.of (zAg (L+1)) ?_;simp only[Tk.ev];simp only[Tryz.f17,n0,mR,mO,Int.reduceSub,go_sem];repeat first|refine ⟨zAA (fun x=>x.i) (by simp only[zA0,List.map];kernel_rfl),?_⟩|refine And.intro (by first|omega|exact ⟨by omega,by omega⟩|(show _∧_;omega)|exact okS (by kernel_rfl)) ?_
  exact PostF.rs (v0:=.agg (gR kk.g0 (gR h [.sl ⟨L+1,300576⟩ 0 (kk.w0.length+o.length),.fs 4 (kk.w1.map Pkx.row),.int .i64 kk.now]))) (.inr rfl) (hw:=by simp[Wk,WkL,Tx.look,zQ,wQ])
end Go.Proofs.YtifhjhbfhdcahaaGreat
end
