/- Lemmas for the walk: GK21, U42, GK22, GK23, GK5, GK7, GK8, GD0, GC21, GC23, GC22, GC24, GC16, GC25, GC26, GC27, GC28, GC29, GC30, GC31, GC32, GK10, GK24, GK25, U43, GK39, GK39b, GK27, GK26, GK28, GD20, GD32, GD40, U44, U45, GD1, GC33. -/
import Derived.Test.YtifhjhbfhdcahaaGreatP12
import Derived.Test.YtifhjhbfhdcahaaGreatP11
import Derived.Test.YtifhjhbfhdcahaaGreatP10
set_option linter.all false
section
namespace Go.Tx
theorem rangeK.die{C:Cx}{F0:SF}{g:Operand}{ps:Array Tmp}{assign body:Code}{st:St}{Q:Exit→St→Prop}{f:FuncId}{fl cl:List PV}(hdi:C.dies=true)(hg:zAu st.t g=some (.fn (.func f) fl cl))(hro:C.ro=none)(hfn:∃fn,C.P.funcs[f]?=some fn∧fn.body.isNone=false∧(fn.name== "runtime.NumGoroutine")=false)
  {upd:List (Nm×SBlk)}{rd:List Nm}(t0:List (Option PV))(ht:zAf st.t t0)(hc:∀y:YRec,y.R.params=ps→y.R.assign=assign→y.R.body=body→y.t=t0→IDCon C.P [y] C.ch f (fl++[.fn (.yield y.l) [] []]++cl) (look F0 st.H) C.L upd rd)
  (hq:C.dq ⟨st.t,zAl st.H upd,st.nx⟩):rangeK C F0 g ps assign body st Q:=by
 unfold rangeK;refine RangeVD.die hdi ?_;unfold zEF;rw[hg];obtain ⟨h1,h2⟩:=zC6 ht;refine ⟨hro,hfn,t0,upd,rd,⟨h1.symm,fun i v hv=>?_⟩,hc,hq⟩;simp only[TF,zE]at hv ⊢;cases hx:t0[i]? with
 |none=>rw[hx]at hv;cases hv
 |some x=>rw[hx]at hv;simp at hv;subst hv;rw[h2 i v hx];rfl
end Go.Tx
end
section
namespace Go.Proofs.YtifhjhbfhdcahaaGreat
open Go.Tx
set_option maxRecDepth 100000
set_option maxHeartbeats 16000000
theorem Pkx.nf(p:Pkx):nfl p.row=true:=by simp[Pkx.row,nfl,Tx.nf]
theorem zQQ{F:SF}{L nx:Nat}(r:Nm)(hr:r.l≤L)(s:List UInt8)(p:Nat)(hp:p≤s.length)(hl:s.length≤1000000)(hF:F r=some (rdB s p)):
  Con Tryz.prog 48 [.ptr r 0 0] F L nx nx (.str (s.drop p)) [(r,rdB s s.length)] [r]:=by
 refine bdy Tryz.f48 (hrd:=(by simp;omega)) ?_;intro F3 hF1 hF2;have kr:F3 r=some (rdB s p):=(hF1 r (by simp)).trans hF;have n1:∀k,(r=(⟨L+1,k⟩:Nm))=False:=zAI hr;have n2:∀k,((⟨L+1,k⟩:Nm)=r)=False:=zAF hr;have e1:p+(s.length-p)=s.length:=by omega
 have e2:(s.drop p).take (s.length-p)=s.drop p:=zQ (by simp);simp only[Tryz.f48,rdB,kr,go_sem];repeat refine sd1 ?_
 refine CallVC.same (zOn r (by omega) s p (s.length-p) _ (by omega) (by omega) hl (by simp[rdB,kr])) ?_;rw[e1,e2];simp only[rdB,go_sem];refine ⟨zAA (fun x=>if x=r then 1 else x.i%10000+100) (by simp only[zA0,List.map,if_true];kernel_rfl),?_⟩;exact po0 (.str (s.drop p)) ⟨hr,by simp[BW,Tx.look],trivial⟩
def zOq(s:List UInt8):List PV:=
 [.int .i64 (zBW (s.take 4)),.int .i64 (zBW ((s.drop 4).take 4)),.int .i64 (zBW ((s.drop 8).take 2)),.int .i64 (zBW ((s.drop 10).take 2)),.int .i64 (zBW ((s.drop 12).take 4)),.str (s.drop 16)]
theorem zOr{F:SF}(s:List UInt8)(hs:16≤s.length)(hl:s.length≤1000000):OfOk 46 [] [] s (.agg (zOq s)) s.length F []:=by
 intro F' L r nx hF' hr hrd hFr;simp only[zF,zJ];refine bdy Tryz.f46 (hrd:=(by simp;omega)) ?_;intro F3 hF1 hF2;have kr:F3 r=some (rdB s 0):=(hF1 r (by simp)).trans hFr;have n1:∀k,(r=(⟨L+1,k⟩:Nm))=False:=zAI hr;have n2:∀k,((⟨L+1,k⟩:Nm)=r)=False:=zAF hr;have h32:r.l≤L+1:=by omega
 simp only[Tryz.f46,rdB,go_sem];refine CallVC.same (zBx r h32 s 0 4 4 rfl (by omega) (by omega) (by omega) (by omega) (by simp[rdB,kr,n1])) ?_;simp only[rdB,n1,go_sem];refine CallVC.same (zBx r h32 s 4 4 4 rfl (by omega) (by omega) (by omega) (by omega) (by simp[rdB,n1])) ?_;simp only[rdB,n1,go_sem];refine CallVC.same (zBx r h32 s 8 2 2 rfl (by omega) (by omega) (by omega) (by omega) (by simp[rdB,n1])) ?_;simp only[rdB,n1,go_sem];refine CallVC.same (zBx r h32 s 10 2 2 rfl (by omega) (by omega) (by omega) (by omega) (by simp[rdB,n1])) ?_;simp only[rdB,n1,go_sem];refine CallVC.same (zBx r h32 s 12 4 4 rfl (by omega) (by omega) (by omega) (by omega) (by simp[rdB,n1])) ?_;simp only[rdB,n1,go_sem];refine CallVC.same (zQQ r h32 s 16 (by omega) hl (by simp[rdB,n1])) ?_;simp only[rdB,n1,n2,go_sem];repeat refine sd1 ?_
 exact PostF.of (p:=True) (v0:=.agg (zOq s)) (.inr rfl) (by simp only[zOq,uU,go_sem]) trivial (zCS _ _).1 (by rw[(zCS (fun _=>none) _).2];simp) (by rfl) ⟨hr,by simp[BW,Tx.look,n1],trivial⟩ (by simp[UpdAll,keys])
theorem zMy{F:SF}(s:List UInt8)(hs:s.length<16):OfDie 46 [] [] s F []:=by
 intro F' L r hF' hr hrd hFr;simp only[zF,zJ];refine DCon.body (zAg (L+1)) rfl rfl (fn:=Tryz.f46) (c:=Tryz.f46.body.getD .skip) (by kernel_rfl) (by rfl) (by kernel_rfl) rfl (by simp;omega) ?_;intro F3 hF1 hF2;have kr:F3 r=some (rdB s 0):=(hF1 r (by simp)).trans hFr;have n1:∀k,(r=(⟨L+1,k⟩:Nm))=False:=zAI hr;have n2:∀k,((⟨L+1,k⟩:Nm)=r)=False:=zAF hr;have h32:r.l≤L+1:=by omega
 simp only[Tryz.f46,go_sem];by_cases g0:s.length<4
 ·refine CallVD.same rfl (zC7 r h32 s 0 4 4 rfl (by omega) (by omega) (by omega) (by omega) (by omega) (by simp[rdB,kr,n1,Tx.look])) ?_;exact .dead (ns:=[r]) (by simpa using hr) (by simp[UpdAll,zAl,setH,n1,n2])
 refine CallVD.live (CallVC.same (zBx r h32 s 0 4 4 rfl (by omega) (by omega) (by omega) (by omega) (by simp[rdB,kr,n1])) ?_);simp only[rdB,n1,go_sem];by_cases g4:s.length<8
 ·refine CallVD.same rfl (zC7 r h32 s 4 4 4 rfl (by omega) (by omega) (by omega) (by omega) (by omega) (by simp[rdB,n1,Tx.look])) ?_;exact .dead (ns:=[r]) (by simpa using hr) (by simp[UpdAll,zAl,setH,n1,n2])
 refine CallVD.live (CallVC.same (zBx r h32 s 4 4 4 rfl (by omega) (by omega) (by omega) (by omega) (by simp[rdB,n1])) ?_);simp only[rdB,n1,go_sem];by_cases g8:s.length<10
 ·refine CallVD.same rfl (zC7 r h32 s 8 2 2 rfl (by omega) (by omega) (by omega) (by omega) (by omega) (by simp[rdB,n1,Tx.look])) ?_;exact .dead (ns:=[r]) (by simpa using hr) (by simp[UpdAll,zAl,setH,n1,n2])
 refine CallVD.live (CallVC.same (zBx r h32 s 8 2 2 rfl (by omega) (by omega) (by omega) (by omega) (by simp[rdB,n1])) ?_);simp only[rdB,n1,go_sem];by_cases g10:s.length<12
 ·refine CallVD.same rfl (zC7 r h32 s 10 2 2 rfl (by omega) (by omega) (by omega) (by omega) (by omega) (by simp[rdB,n1,Tx.look])) ?_;exact .dead (ns:=[r]) (by simpa using hr) (by simp[UpdAll,zAl,setH,n1,n2])
 refine CallVD.live (CallVC.same (zBx r h32 s 10 2 2 rfl (by omega) (by omega) (by omega) (by omega) (by simp[rdB,n1])) ?_);simp only[rdB,n1,go_sem];by_cases g12:s.length<16
 ·refine CallVD.same rfl (zC7 r h32 s 12 4 4 rfl (by omega) (by omega) (by omega) (by omega) (by omega) (by simp[rdB,n1,Tx.look])) ?_;exact .dead (ns:=[r]) (by simpa using hr) (by simp[UpdAll,zAl,setH,n1,n2])
 omega
structure Dat where
 tsn:Int
 st:Int
 sq:Int
 pr:Int
 fi:Bool
 la:Bool
 lo:Bool
 pl:List UInt8
 deriving DecidableEq,Inhabited
def Dat.row(d:Dat):List PV:=[.int .i64 d.tsn,.int .i64 d.st,.int .i64 d.sq,.int .i64 d.pr,.bool d.fi,.bool d.la,.bool d.lo,.str d.pl]
def Dat.ok(d:Dat):Bool:=(zA2 32 d.tsn&&zA2 32 d.pr)&&((zA2 16 d.st&&zA2 16 d.sq)&&(decide (1≤(d.pl.length:Int))&&(decide ((d.pl.length:Int)≤1100)&&(!d.lo||d.sq==0))))
structure Msg where
 st:Int
 pr:Int
 lo:Bool
 tx:List UInt8
 deriving DecidableEq,Inhabited
def Msg.row(m:Msg):List PV:=[.int .i64 m.st,.int .i64 m.pr,.bool m.lo,.str m.tx]
def Msg.zero:Msg:=⟨0,0,false,[]⟩
def zIa(ps:List Dat)(h:Dat→Bool):List Dat:=ps.filter fun d=>!h d
def zSg(inn:List Int)(st:Int)(d:Dat):Bool:=d.st==st&& !d.lo&&decide (lead d.sq (inn.getD st.toNat 0) 16<0)
def zHC(inn:List Int)(st sq:Int):List Int:=inn.set st.toNat ((sq+1)%65536)
def zRm(inn:List Int)(ps:List Dat)(st sq:Int):List Dat:=zIa ps (zSg (zHC inn st sq) st)
def zKt(inn:List Int)(d:Dat):Bool:=d.ok&&decide (d.st<inn.length)&&(d.lo||decide (0≤lead d.sq (inn.getD d.st.toNat 0) 16))
structure PsOk (inn:List Int) (ps:List Dat):Prop where
 len:ps.length≤80
 all:∀d∈ps,zKt inn d=true
 nodup:(ps.map Dat.tsn).Nodup
structure Str0 (out inn:List Int) (num seen:Int) (asked:List Int):Prop where
 o1:1≤out.length
 o2:out.length≤16
 o3:out.all (zA2 16)=true
 i1:1≤inn.length
 i2:inn.length≤16
 i3:inn.all (zA2 16)=true
 n:[num].all (zA2 32)=true
 s:seen= -1∨[seen].all (zA2 32)=true
 a:zQJ asked out.length=true
 a2:asked.length≤1000000
theorem zU6{d:Dat}(h:d.ok=true):0≤d.tsn∧d.tsn<4294967296∧0≤d.st∧d.st<65536∧0≤d.sq∧d.sq<65536∧1≤d.pl.length∧d.pl.length≤1100:=by
 have h32:(2:Int)^(Int.toNat 32)=4294967296:=rfl;have h16:(2:Int)^(Int.toNat 16)=65536:=rfl;simp only[Dat.ok,zA2,zC,decide_eq_true_eq,h32,h16]at h;omega
theorem zMz{inn:List Int}{d:Dat}(h:zKt inn d=true):d.ok=true∧d.st<inn.length∧(d.lo=true∨0≤lead d.sq (inn.getD d.st.toNat 0) 16):=by
 simpa only[zKt,zC,decide_eq_true_eq,vV,and_assoc] using h
def zF8(out inn:List Int)(num seen:Int)(asked:List Int)(ps:List Dat):PV:=.agg [.fs 1 (out.map eI),.fs 1 (inn.map eI),.fs 8 (ps.map Dat.row),.int .i64 num,.int .i64 seen,.fs 1 (asked.map eI)]
structure DelP (inn:List Int) (ps:List Dat):Prop where
 len:ps.length≤80
 ok:∀d∈ps,d.ok=true
 st:∀d∈ps,d.st<inn.length
 nodup:(ps.map Dat.tsn).Nodup
 i3:inn.all (zA2 16)=true
 i2:inn.length≤16
theorem DelP.without{inn:List Int}{ps:List Dat}(h:DelP inn ps)(p:Dat→Bool):DelP inn (zIa ps p) where
 len:=vP (List.length_filter_le _ _) h.len
 ok:=fun d hd=>h.ok d (List.mem_filter.1 hd).1
 st:=fun d hd=>h.st d (List.mem_filter.1 hd).1
 nodup:=List.Nodup.sublist (List.Sublist.map _ List.filter_sublist) h.nodup
 i3:=h.i3
 i2:=h.i2
theorem zM0{inn:List Int}(h:inn.all (zA2 16)=true)(st sq:Int):(zHC inn st sq).all (zA2 16)=true:=by
 have h16:(2:Int)^(Int.toNat 16)=65536:=rfl;rw[wK]at h ⊢;intro x hx;rcases qW hx with hx|rfl;·exact h x hx
 ·simp only[zA2,h16,zC,decide_eq_true_eq];omega
theorem DelP.next{inn:List Int}{ps:List Dat}(h:DelP inn ps)(st sq:Int):DelP (zHC inn st sq) (zRm inn ps st sq) where
 len:=(h.without _).len
 ok:=(h.without _).ok
 st:=fun d hd=>by simpa[zHC] using (h.without _).st d hd
 nodup:=(h.without _).nodup
 i3:=zM0 h.i3 st sq
 i2:=by simpa[zHC] using h.i2
theorem zM1(inn:List Int)(st sq:Int):(zHC inn st sq).length=inn.length:=by simp[zHC]
def kE(k:Int×Int):List PV:=[.int .i64 k.1,.int .i64 k.2]
def zUB(sk:List (Int×Int))(i:Nat):Bool:=(zA2 16 (sk.getD i (0,0)).1&&zA2 16 (sk.getD i (0,0)).2)&&(i==0||decide ((sk.getD (i-1) (0,0)).1<(sk.getD i (0,0)).1))
def zUC(cum:Int)(sk:List (Int×Int)):Bool:=(List.range sk.length).all (zUB sk)&&(zA2 32 cum&&decide (sk.length≤30))
def zUD(cum:Int)(sk:List (Int×Int)):PV:=.agg [.int .i64 cum,.fs 2 (sk.map kE)]
def zUE(cum:Nat)(sk:List (Nat×Nat)):List UInt8:=zAa 4 cum++sk.flatMap fun k=>zAa 2 k.1++zAa 2 k.2
def zUF(gs:List (Int×Int))(i:Nat):Int:=if i=0 then 0 else (gs.getD (i-1) (0,0)).2
def zUG(gs:List (Int×Int))(i:Nat):Bool:=decide (zUF gs i+2≤(gs.getD i (0,0)).1)&&(decide ((gs.getD i (0,0)).1≤(gs.getD i (0,0)).2)&&decide ((gs.getD i (0,0)).2≤65535))
def zSh(cum win:Int)(gs:List (Int×Int))(ds:List Int):Bool:=
 (List.range gs.length).all (zUG gs)&&((zA2 32 cum&&zA2 32 win)&&(decide (gs.length≤30)&&(decide (ds.length≤20)&&ds.all (zA2 32))))
def zSi(cum win:Int)(gs:List (Int×Int))(ds:List Int):PV:=.agg [.int .i64 cum,.int .i64 win,.fs 2 (gs.map kE),.fs 1 (ds.map eI)]
def zSj(cum win:Nat)(gs:List (Nat×Nat))(ds:List Nat):List UInt8:=
 (zAa 4 cum++zAa 4 win)++(zAa 2 gs.length++zAa 2 ds.length)++(gs.flatMap fun k=>zAa 2 k.1++zAa 2 k.2)++ds.flatMap (zAa 4)
def zSk(cum win:Int)(gs:List (Int×Int))(ds:List Int):List UInt8:=zSj cum.toNat win.toNat (gs.map fun k=>(k.1.toNat,k.2.toNat)) (ds.map Int.toNat)
def zBj(c:Ckx):Ini:=⟨zBW (c.bd.take 4),zBW ((c.bd.drop 4).take 4),zBW ((c.bd.drop 8).take 2),zBW ((c.bd.drop 10).take 2),zBW ((c.bd.drop 12).take 4),c.bd.drop 16⟩
def zBX(c:Ckx):Bool:=decide (16≤c.bd.length)&&((zBj c).ok&&(decide (zCq (zBj c).ck=c.kd)&&(decide ((0:Int)=c.fl)&&decide ((zBj c).oct=c.bd))))
def zIni:Ini:=⟨0,0,0,0,0,[]⟩
def zBL(c:Ckx):PV:=if c.kd=1∨c.kd=2 then (if zBX c then .tup [.agg (zBj c).row,.int .i64 0] else .tup [.agg zIni.row,.int .i64 5]) else .tup [.agg zIni.row,.int .i64 2]
theorem zEq{F:SF}{L nx:Nat}(c:Ckx)(hl:c.bd.length≤1000000):Con Tryz.prog 22 [.agg c.row] F L nx nx (zBL c) [] []:=by
 have hcall:∀(F:SF) (L nx:Nat),Con Tryz.prog 45 [.agg c.row,.fn (.func 46) [] [],.fn (.func 49) [] [],.fs 1 ([1,2].map eI)] F L nx nx (zBL c) [] []:=by
  intro F L nx;obtain ⟨k,fl,s⟩:=c;simp only[Ckx.row]at hl ⊢;unfold zBL;by_cases hk:k=1∨k=2
  ·have hk1:(([1,2]:List Int).any fun x=>k==x)=true:=by simpa using hk
   rw[if_pos hk];obtain ⟨d,hdd⟩:∃d,d=zBj ⟨k,fl,s⟩:=⟨_,rfl⟩;rw[←hdd];have hP:zMx 49 d.row (if d.ok then zCq d.ck else 0) 0 (if d.ok then d.oct else []) (if d.ok then 0 else 320):=by
    intro F L nx;have h:=zC8 (F:=F) (L:=L) (nx:=nx) d;cases hb:d.ok with
    |true=>rw[hb]at h;simpa using h
    |false=>rw[hb]at h;simpa using h
   by_cases h12:16≤s.length
   ·have hO:=zOr (F:=F) s h12 hl;rw[show zOq s=d.row by rw[hdd];rfl]at hO;cases hd:zBX ⟨k,fl,s⟩ with
    |true=>
     rw[if_pos rfl];unfold zBX at hd;rw[←hdd]at hd;simp only[zC,decide_eq_true_eq]at hd;obtain ⟨_,q1,q2,q3,q4⟩:=hd;rw[q1]at hP;simp only[if_true,q2,q4]at hP;subst q3;exact zLp s hl k 0 46 49 [] [] [1,2] hk1 (by simp) _ rfl rfl [] (by simp) hO hP
    | false=>
     rw[if_neg (by simp)];refine zHB s hl k fl 46 49 [] [] [1,2] hk1 (by simp) [] (by simp) (.inr (.inr ⟨_,_,_,_,_,rfl,rfl,hO,hP,?_⟩))
     rintro ⟨r1,r2,r3,r4⟩
     cases hb:d.ok with
     |false=>rw[hb]at r1;simp at r1
     |true=>
      rw[hb]at r2 r4;simp only[if_true]at r2 r4;unfold zBX at hd;rw[←hdd]at hd;simp only[hb,r2,r3,r4,h12,decide_true,uP]at hd;cases hd
   ·have hd:zBX ⟨k,fl,s⟩=false:=by unfold zBX;rw[decide_eq_false (show ¬16≤(Ckx.mk k fl s).bd.length from h12)];rfl
    rw[hd,if_neg (by simp)];exact zHB s hl k fl 46 49 [] [] [1,2] hk1 (by simp) [] (by simp) (.inl (zMy s (by omega)))
  ·rw[if_neg hk];exact zJB s k fl 46 49 [] [] [1,2] (by simpa using hk) (by simp)
 have hv:∃d e,zBL c= .tup [.agg (Ini.row d),.int .i64 e]:=by
  unfold zBL;split
  ·split;·exact ⟨_,_,rfl⟩
   ·exact ⟨_,_,rfl⟩
  ·exact ⟨_,_,rfl⟩
 obtain ⟨d,e,hv⟩:=hv;rw[hv]at hcall ⊢;simp only[Ckx.row,Ini.row]at hcall ⊢;refine bdy Tryz.f22 ?_;intro F3 hF1 hF2;simp only[Tryz.f22,go_sem];repeat refine sd2 ?_
 refine CallVC.gen (args2:=[.agg [.int .i64 c.kd,.int .i64 c.fl,.str c.bd],.fn (.func 46) [] [],.fn (.func 49) [] [],.fs 1 ([1,2].map eI)]) (by simp[WkL,Wk,eI]) (hcall _ _ _) ?_;simp only[zAt,wkN,unown,go_sem];repeat refine sd2 ?_
 exact ps0
end Go.Proofs.YtifhjhbfhdcahaaGreat
end
section
namespace Go.Tx
section
variable (C : Cx) (F0 : SF)
def zRn(i0 j0:Nat)(l:List Oper)(i:Nat)(Hs:List (Nm×SBlk))(K:RK):RK:=fun t H nx fps=>zGz C F0 i0 j0 l i t H Hs nx fps K
theorem zM2(i0 j0:Nat)(l:List Oper)(i:Nat)(Hs:List (Nm×SBlk))(K:RK)(a:Option PV)(t:List (Option PV))(H:List (Nm×SBlk))(nx:Nat)(fps:FPs):zRn C F0 i0 j0 l i Hs K (a::t) H nx fps=zGz C F0 i0 j0 l i (a::t) H Hs nx fps K:=propext ⟨fun h=>h,fun h=>h⟩
theorem zRo(i0 j0 i:Nat)(t:List (Option PV))(H Hs:List (Nm×SBlk))(nx:Nat)(fps:FPs)(K:RK):zGz C F0 i0 j0 [] i t H Hs nx fps K=K t H nx fps:=propext ⟨fun h=>h,fun h=>h⟩
theorem zQR(i0 j0:Nat)(o:Oper)(l:List Oper)(i:Nat)(t:List (Option PV))(H Hs:List (Nm×SBlk))(nx:Nat)(fps:FPs)(K:RK):zGz C F0 i0 j0 (o::l) i t H Hs nx fps K=
  (match o.guard with
  |some _=>False
  | none=>
   if i=j0 then
    match zCy C.T C.wr (zAu t) (look F0 H) ⟨C.L,nx⟩ o.op,zCy C.T C.wr (zAu t) (look F0 Hs) ⟨C.L,nx⟩ o.op with
    |some r,some r'=>r.vc∧r'.vc∧r'.v=r.v∧r.upd=[]∧r'.upd=[]∧r'.rd=r.rd∧zGz C F0 i0 j0 l (i+1) (zCR t o.dst r.v) H Hs (nx+32) (fps++[(r.rd,[])]) K
    |_,_=>False
   else zRC C F0 o t H nx fps (zRn C F0 i0 j0 l (i+1) (if i=i0 then H else Hs) K)):=propext ⟨fun h=>h,fun h=>h⟩
def zSl(ops:List Oper)(i0 j0:Nat)(Q:Exit→St→Prop):RK:=fun t H nx fps=>zI2 ops fps i0 j0=true∧Q .normal ⟨t,H,nx⟩
theorem zM3(ops:List Oper)(i0 j0:Nat)(Q:Exit→St→Prop)(a:Option PV)(t:List (Option PV))(H:List (Nm×SBlk))(nx:Nat)(fps:FPs):zSl ops i0 j0 Q (a::t) H nx fps=(zI2 ops fps i0 j0=true∧Q .normal ⟨a::t,H,nx⟩):=propext ⟨fun h=>h,fun h=>h⟩
end
attribute [go_sem ↓] zM2 zRo zQR zM3
end Go.Tx
end
section
namespace Go.Proofs.YtifhjhbfhdcahaaGreat
open Go.Tx
set_option maxRecDepth 100000
set_option maxHeartbeats 16000000
structure Fwx where
 cum:Int
 sk:List (Int×Int)
def Fwx.v(d:Fwx):PV:=zUD d.cum d.sk
def Fwx.ok(d:Fwx):Bool:=zUC d.cum d.sk
def Fwx.oct(d:Fwx):List UInt8:=zUE d.cum.toNat (d.sk.map fun k=>(k.1.toNat,k.2.toNat))
structure Rsx where
 kind:Int
 num:Int
 last:Int
 res:Int
 xs:List Int
def Rsx.v(d:Rsx):PV:=zT8 d.kind d.num d.last d.res (.fs 1 (d.xs.map eI))
def Rsx.ok(d:Rsx):Bool:=zRi d.kind d.num d.last d.res d.xs
def Rsx.oct(d:Rsx):List UInt8:=zRj d.kind d.num d.last d.res d.xs
structure Skx where
 cum:Int
 win:Int
 gs:List (Int×Int)
 ds:List Int
def Skx.v(d:Skx):PV:=zSi d.cum d.win d.gs d.ds
def Skx.ok(d:Skx):Bool:=zSh d.cum d.win d.gs d.ds
def Skx.oct(d:Skx):List UInt8:=zSk d.cum d.win d.gs d.ds
theorem zFE{F:SF}{L nx:Nat}(n:Int):Con Tryz.prog 66 [.int .i64 n] F L nx nx (.bool (zA2 16 n)) [] []:=by
 refine bdy Tryz.f66 ?_;intro F3 hF1 hF2;have e:zA2 16 n=(decide (0≤n)&&decide (n≤65535)):=by
  unfold zA2;rw[show ((2:Int)^Int.toNat 16)=65536 from rfl];congr 1;exact decide_eq_decide.2 (by omega)
 rw[e];cases h1:decide (0≤n) with
 |false=>
  simp only[Tryz.f66,h1,zX,go_sem];repeat refine sd2 ?_
  exact PostF.rs (v0:=.bool false) (.inr rfl)
 |true=>
  simp only[Tryz.f66,h1,zR,go_sem];repeat refine sd2 ?_
  exact PostF.rs (v0:=.bool (decide (n≤65535))) (.inr rfl)
theorem zGQ{F:SF}{L nx:Nat}(n:Int):Con Tryz.prog 65 [.int .i64 n] F L nx nx (.bool (zA2 32 n)) [] []:=by
 refine bdy Tryz.f65 ?_;intro F3 hF1 hF2;have e:zA2 32 n=(decide (0≤n)&&decide (n≤4294967295)):=by
  unfold zA2;rw[show ((2:Int)^Int.toNat 32)=4294967296 from rfl];congr 1;exact decide_eq_decide.2 (by omega)
 rw[e];cases h1:decide (0≤n) with
 |false=>
  simp only[Tryz.f65,h1,zX,go_sem];repeat refine sd2 ?_
  exact PostF.rs (v0:=.bool false) (.inr rfl)
 |true=>
  simp only[Tryz.f65,h1,zR,go_sem];repeat refine sd2 ?_
  exact PostF.rs (v0:=.bool (decide (n≤4294967295))) (.inr rfl)
theorem zHD(i v:Nat):zAa (i+1) v=byN (v/256^i)::zAa i v:=by
 simp only[zAa,byN,List.range_succ_eq_map,zL,List.map_map];congr 1;apply List.map_congr_left;intro j hj;have:=List.mem_range.1 hj;simp only[Function.comp];rw[show i+1-1-j.succ=i-1-j by omega]
theorem zCp{F:SF}{L nx:Nat}(n v:Nat)(hn:n≤100)(hv:v<2^62):Con Tryz.prog 67 [.int .i64 n,.int .i64 v] F L nx nx (.str (zAa n v)) [] []:=by
 refine bdy Tryz.f67 ?_;intro F3 hF1 hF2;simp only[Tryz.f67,go_sem];repeat refine sd2 ?_
 refine loopK.intro _ _ (I:=fun i:Nat=>⟨[some (.int .i64 n),some (.int .i64 ((v/256^i:Nat):Int)),none,none,none,some (.str (zAa i v)),some (.int .i64 i)]++oz 15,[],10000*(i+1)⟩) (pre:=fun i=>i≤n) (μ:=fun i=>n-i) 0 (by omega) ?_ ?_;·exact Sub.of (hfz hF2) (by simp only[Nat.pow_zero,Nat.div_one,zAa,List.range_zero,wM,go_sem,zAf,and_self,zW];try trivial) trivial trivial (by simp)
 ·intro i hi;have hx:v/256^i≤v:=qC _ _;obtain ⟨x,hxx⟩:∃x,x=v/256^i:=⟨_,rfl⟩;rw[←hxx]at hx ⊢;have hnx:v/256^(i+1)=x/256:=by rw[hxx,Nat.pow_succ,Nat.div_div_eq_div_mul]
  have hps:=zHD i v;rw[←hxx]at hps;have hpl:=zAL i v;by_cases hlt:i<n
  ·have f1:decide ((i:Int)<(n:Int))=true:=dT (by omega);have w1:(x:Int).tmod 256=((x%256:Nat):Int):=by rw[wY (by omega)];omega
   have w2:IntKind.u8.wrap ((x%256:Nat):Int)=((x%256:Nat):Int):=by rw[IntKind.wrap_u8];omega
   have w3:(x:Int).tdiv 256=((x/256:Nat):Int):=by rw[uJ (by omega)];omega
   have w4:zBc [[.int .u8 ((x%256:Nat):Int)]]=[byN x]:=by simp only[zBc,zLQ,zL,wM,byN,qL]
   simp only[f1,w1,w2,w3,zA,go_sem];simp only[w4];refine ⟨by omega,by intro row h;simp only[wP,uC,or_false]at h;exact ⟨_,h⟩,by simp only[vC,wW];omega,⟨by omega,by omega,by omega⟩,⟨by omega,by omega⟩,?_⟩;refine ⟨i+1,by omega,by omega,Sub.of (hfz hF2) (by simp only[hnx,hps,zJ,zF,go_sem,zAf,and_self,zY];try trivial) trivial (by simp[zAs,keys]) (by simp only[];omega)⟩
  ·have f1:decide ((i:Int)<(n:Int))=false:=dF (by omega);have hin:i=n:=by omega
   subst hin;simp only[f1,zA,go_sem];repeat refine sd2 ?_
   exact PostF.rs (v0:=.str (zAa i v)) (.inr rfl)
theorem zFj{F:SF}{L nx:Nat}(s:List UInt8)(hs:s.length≤7):Con Tryz.prog 139 [.str s] F L nx nx (.int .i64 (zBW s)) [] []:=by
 refine bdy Tryz.f139 ?_;intro F3 hF1 hF2;simp only[Tryz.f139,go_sem];repeat refine sd2 ?_
 refine loopK.intro _ _ (I:=fun i:Nat=>⟨[some (.str s),none,none,some (.int .i64 (zBW (s.take i))),some (.int .i64 i)]++oz 14,[],10000*(i+1)⟩) (pre:=fun i=>i≤s.length) (μ:=fun i=>s.length-i) 0 (by omega) ?_ ?_;·exact Sub.of (hfz hF2) (by simp only[uG,zBW,List.foldl_nil,go_sem,zAf,and_self,zW];try trivial) trivial trivial (by simp)
 ·intro i hi;have hg:=zIW (s.take i);by_cases hlt:i<s.length
  ·have hg2:zBW (s.take i)<256^6:=vD hg (uI (by omega) (by rw[wI];omega));have f1:decide ((i:Int)<(s.length:Int))=true:=dT (by omega);have hsu:=zJA s hlt;obtain ⟨x,hxx⟩:∃x,x=zBW (s.take i):=⟨_,rfl⟩;rw[←hxx]at hg2 hsu ⊢;have hc:=(s.getD i 0).toNat_lt;have w1:IntKind.i64.wrap (((s.getD i 0).toNat:Nat):Int)=(((s.getD i 0).toNat:Nat):Int):=by rw[IntKind.wrap_i64];omega
   have e1:((zBW (s.take (i+1)):Nat):Int)=256*(x:Int)+(((s.getD i 0).toNat:Nat):Int):=by rw[hsu];omega
   simp only[f1,w1,zA,go_sem];repeat refine sd2 ?_
   refine ⟨i+1,by omega,by omega,Sub.of (hfz hF2) (by simp only[e1,go_sem,zAf,and_self,zY];try trivial) trivial (by simp[zAs]) (by simp only[];omega)⟩
  ·have f1:decide ((i:Int)<(s.length:Int))=false:=dF (by omega);have hin:i=s.length:=by omega
   subst hin;rw[qI];simp only[f1,zA,go_sem];repeat refine sd2 ?_
   exact PostF.rs (v0:=.int .i64 (zBW s)) (.inr rfl)
theorem zQS(v:Nat):(byN v).toNat=v%256:=by simp[byN]
theorem zHE:∀(l:List UInt8) (v:Nat),l.foldl (fun v c=>v*256+c.toNat) v=v*256^l.length+zBW l
 | [],v=>by simp[zBW]
 | a::l,v=>by
  have e1:=zHE l (v*256+a.toNat);have e2:=zHE l (0*256+a.toNat);simp only[List.foldl_cons,zBW]at e1 e2 ⊢;rw[e1,e2,vC,Nat.pow_succ];have:(v*256+a.toNat)*256^l.length=v*(256^l.length*256)+(0*256+a.toNat)*256^l.length:=by
   rw[wF,Nat.mul_assoc,vL 256 (256^l.length)];simp
  omega
theorem zM4(a:UInt8)(l:List UInt8):zBW (a::l)=a.toNat*256^l.length+zBW l:=by
 have:=zHE l (0*256+a.toNat);simpa[zBW] using this
theorem zOs(n v:Nat):zBW (zAa n v)=v%256^n:=by
 induction n with
 |zero=>simp[zAa,zBW,Nat.mod_one]
 |succ n ih=>
  rw[zHD,zM4,ih,zAL,zQS,Nat.mod_pow_succ,vL];omega
theorem zJC{n v:Nat}(h:v<256^n):zBW (zAa n v)=v:=by rw[zOs,wD h]
theorem drop_at{A R:List UInt8}{p:Nat}(h:p=A.length):(A++R).drop p=R:=by subst h;simp
theorem take_at{A R:List UInt8}{n:Nat}(h:n=A.length):(A++R).take n=A:=by subst h;simp
theorem zJD{A R:List UInt8}{p n v:Nat}(hp:p=A.length)(hv:v<256^n):zBW (((A++(zAa n v++R)).drop p).take n)=v:=by
 rw[drop_at hp,take_at (zAL n v).symm,zJC hv]
theorem zQT{d:Ini}(h:d.ok=true):zBL ⟨zCq d.ck,0,d.oct⟩= .tup [.agg d.row,.int .i64 0]:=by
 have h0:=h;unfold Ini.ok at h;simp only[zC]at h;obtain ⟨⟨h1,h2,h3⟩,⟨h4,h5⟩,_⟩:=h;obtain ⟨a1,a2⟩:=zBA h1;obtain ⟨b1,b2⟩:=zBA h2;obtain ⟨c1,c2⟩:=zBA h3;obtain ⟨d1,d2⟩:=zBA h4;obtain ⟨x1,x2⟩:=zBA h5;have e0:d.oct=[]++(zAa 4 d.tag.toNat++(zAa 4 d.win.toNat++(zAa 2 d.out.toNat++(zAa 2 d.inn.toNat++(zAa 4 d.tsn.toNat++d.ck))))):=by simp[Ini.oct,zJd]
 have e4:d.oct=zAa 4 d.tag.toNat++(zAa 4 d.win.toNat++(zAa 2 d.out.toNat++(zAa 2 d.inn.toNat++(zAa 4 d.tsn.toNat++d.ck)))):=by simp[Ini.oct,zJd]
 have e8:d.oct=(zAa 4 d.tag.toNat++zAa 4 d.win.toNat)++(zAa 2 d.out.toNat++(zAa 2 d.inn.toNat++(zAa 4 d.tsn.toNat++d.ck))):=by simp[Ini.oct,zJd]
 have e10:d.oct=(zAa 4 d.tag.toNat++zAa 4 d.win.toNat++zAa 2 d.out.toNat)++(zAa 2 d.inn.toNat++(zAa 4 d.tsn.toNat++d.ck)):=by simp[Ini.oct,zJd]
 have e12:d.oct=(zAa 4 d.tag.toNat++zAa 4 d.win.toNat++zAa 2 d.out.toNat++zAa 2 d.inn.toNat)++(zAa 4 d.tsn.toNat++d.ck):=by simp[Ini.oct,zJd]
 have e16:d.oct=(zAa 4 d.tag.toNat++zAa 4 d.win.toNat++zAa 2 d.out.toNat++zAa 2 d.inn.toNat++zAa 4 d.tsn.toNat)++d.ck:=by simp[Ini.oct,zJd]
 have hd:zBj ⟨zCq d.ck,0,d.oct⟩=d:=by
  simp only[zBj];have g0:zBW (d.oct.take 4)=d.tag.toNat:=by
   have:=zJD (A:=[]) (n:=4) (R:=zAa 4 d.win.toNat++(zAa 2 d.out.toNat++(zAa 2 d.inn.toNat++(zAa 4 d.tsn.toNat++d.ck)))) (p:=0) rfl a2;rw[←e0]at this;simpa using this
  have g4:zBW ((d.oct.drop 4).take 4)=d.win.toNat:=by rw[e4];exact zJD (by simp[zAL]) b2
  have g8:zBW ((d.oct.drop 8).take 2)=d.out.toNat:=by rw[e8];exact zJD (by simp[zAL]) d2
  have g10:zBW ((d.oct.drop 10).take 2)=d.inn.toNat:=by rw[e10];exact zJD (by simp[zAL]) x2
  have g12:zBW ((d.oct.drop 12).take 4)=d.tsn.toNat:=by rw[e12];exact zJD (by simp[zAL]) c2
  have g16:d.oct.drop 16=d.ck:=by rw[e16];exact drop_at (by simp[zAL])
  rw[g0,g4,g8,g10,g12,g16,←a1,←b1,←c1,←d1,←x1]
 have hl:16≤d.oct.length:=by rw[e16];simp[zAL];omega
 have hok:zBX ⟨zCq d.ck,0,d.oct⟩=true:=by
  unfold zBX;rw[hd];simp[hl,h0]
 unfold zBL;rw[if_pos (by unfold zCq;split<;>simp),if_pos hok,hd]
def M32:Nat:=4294967296
def rtr(x k:Nat):Nat:=(x*2^(32-k)%M32) ||| (x/2^k)
def sg0(x:Nat):Nat:=rtr x 7 ^^^ rtr x 18 ^^^ x/2^3
def sg1(x:Nat):Nat:=rtr x 17 ^^^ rtr x 19 ^^^ x/2^10
def bg0(x:Nat):Nat:=rtr x 2 ^^^ rtr x 13 ^^^ rtr x 22
def bg1(x:Nat):Nat:=rtr x 6 ^^^ rtr x 11 ^^^ rtr x 25
def chS(e f g:Nat):Nat:=(e &&& f) ^^^ ((M32-1-e) &&& g)
def mjS(a b c:Nat):Nat:=(a &&& b) ^^^ (a &&& c) ^^^ (b &&& c)
def wS(b:List UInt8):Nat→List Nat
 |0=>[]
 |t+1=>wS b t++[if t<16 then zBW ((b.drop (4*t)).take 4) else ((wS b t).getD (t-16) 0+(wS b t).getD (t-7) 0+sg0 ((wS b t).getD (t-15) 0)+sg1 ((wS b t).getD (t-2) 0))%M32]
def rdS(v:List Nat)(k w:Nat):List Nat:=
 let one:=(v.getD 7 0+bg1 (v.getD 4 0)+chS (v.getD 4 0) (v.getD 5 0) (v.getD 6 0)+k+w)%M32
 let two:=(bg0 (v.getD 0 0)+mjS (v.getD 0 0) (v.getD 1 0) (v.getD 2 0))%M32
 [(one+two)%M32,v.getD 0 0,v.getD 1 0,v.getD 2 0,(v.getD 3 0+one)%M32,v.getD 4 0,v.getD 5 0,v.getD 6 0]
def zIq(k w h:List Nat):Nat→List Nat
 |0=>h
 |t+1=>rdS (zIq k w h t) (k.getD t 0) (w.getD t 0)
def zL6(h v:List Nat):List Nat:=(List.range 8).map fun i=>(h.getD i 0+v.getD i 0)%M32
def zRD(k h:List Nat)(b:List UInt8):List Nat:=zL6 h (zIq k (wS b 64) h 64)
def zBO(k h:List Nat)(s:List UInt8):Nat→List Nat
 |0=>h
 |i+1=>zRD k (zBO k h s i) ((s.drop (64*i)).take 64)
def zGR(h:List Nat):List UInt8:=h.flatMap (zAa 4)
def zGH(rest:List UInt8)(n:Nat):List UInt8:=rest++([128]++(List.replicate ((119-rest.length)%64) 0++zAa 8 (8*n)))
def zJE(k h:List Nat)(s:List UInt8):List UInt8:=
 zGR (zBO k h (s.take (s.length/64*64)++zGH (s.drop (s.length/64*64)) s.length) ((s.length/64*64+(zGH (s.drop (s.length/64*64)) s.length).length)/64))
def zEV(key:List UInt8)(c:UInt8):List UInt8:=(List.range 64).map fun i=>key.getD i 0 ^^^ c
def zN5(k h:List Nat)(key s:List UInt8):List UInt8:=zJE k h (zEV key 92++zJE k h (zEV key 54++s))
def zEJ(e:Nat→Bool)(x:Nat):Nat→Nat
 |0=>x
 |n+1=>zEJ e (if e (x+2^n) then x+2^n else x) n
def enK(p x:Nat):Bool:=decide (x*x*x≤p*2^96)
def enH(p x:Nat):Bool:=decide (x*x≤p*2^64)
def zUH(p:Nat):Bool:=(List.range p).all fun d=>decide (d<2)||p%d !=0
def prms:List Nat:=((List.range 312).filter fun p=>decide (2≤p)&&zUH p)
def kT:List Nat:=prms.map fun p=>zEJ (enK p) 0 37%M32
def hT:List Nat:=(prms.take 8).map fun p=>zEJ (enH p) 0 37%M32
theorem zOt:prms.length=64:=by kernel_rfl
theorem zRp:hT=[0x6a09e667,0xbb67ae85,0x3c6ef372,0xa54ff53a,0x510e527f,0x9b05688c,0x1f83d9ab,0x5be0cd19]:=by kernel_rfl
theorem zQU(x k i:Nat)(hx:x<M32)(hk:k<32)(h0:0<k)(hi:i<32):(rtr x k).testBit i=x.testBit ((i+k)%32):=by
 unfold rtr;rw[show M32=2^32 from rfl,Nat.testBit_or,Nat.testBit_mod_two_pow,vL x,Nat.testBit_two_pow_mul,Nat.testBit_div_two_pow];by_cases h:i+k<32
 ·rw[wD h];have:¬32-k≤i:=by omega
  simp[this]
 ·rw[show (i+k)%32=i-(32-k) by omega];have h1:32-k≤i:=by omega
  have h2:x.testBit (i+k)=false:=Nat.testBit_lt_two_pow (vD hx (uI (n:=2) (by omega) (show 32≤i+k by omega)));simp[h1,hi,h2]
theorem zD0{x k:Nat}(hx:x<M32):rtr x k<M32:=by
 unfold rtr;exact Nat.or_lt_two_pow (n:=32) (vE _ (by decide)) (qA (qC _ _) hx)
def zEg(t:Int):Bool:=decide (0≤t)&&decide (t≤1099511627776)
def zAZ(d:Ini):Bool:=d.ok&&d.ck== []
structure Gx where
 st:Int
 fr:Int
 tt:Int
 sec:List UInt8
 own:Ini
 peer:Ini
 ck:List UInt8
 ta:Int
 due:Int
 tr:Int
 deriving DecidableEq
def Gx.row(g:Gx):List PV:=[.int .i64 g.st,.int .i64 g.fr,.int .i64 g.tt,.str g.sec,.int .i64 g.own.tag,.int .i64 g.own.win,.int .i64 g.own.out,.int .i64 g.own.inn,.int .i64 g.own.tsn,.str g.own.ck,.int .i64 g.peer.tag,.int .i64 g.peer.win,.int .i64 g.peer.out,.int .i64 g.peer.inn,.int .i64 g.peer.tsn,.str g.peer.ck,.str g.ck,.int .i64 g.ta,.int .i64 g.due,.int .i64 g.tr]
@[simp, reducible] def gR (X : Gx) (t : List PV) : List PV := .int .i64 X.st :: .int .i64 X.fr :: .int .i64 X.tt :: .str X.sec :: .int .i64 X.own.tag :: .int .i64 X.own.win :: .int .i64 X.own.out :: .int .i64 X.own.inn :: .int .i64 X.own.tsn :: .str X.own.ck :: .int .i64 X.peer.tag :: .int .i64 X.peer.win :: .int .i64 X.peer.out :: .int .i64 X.peer.inn :: .int .i64 X.peer.tsn :: .str X.peer.ck :: .str X.ck :: .int .i64 X.ta :: .int .i64 X.due :: .int .i64 X.tr :: t
@[simp, reducible] def zz20(t:List PV):List PV:=.int .i64 0::.int .i64 0::.int .i64 0::.str []::.int .i64 0::.int .i64 0::.int .i64 0::.int .i64 0::.int .i64 0::.str []::.int .i64 0::.int .i64 0::.int .i64 0::.int .i64 0::.int .i64 0::.str []::.str []::.int .i64 0::.int .i64 0::.int .i64 0::t
@[simp, reducible] def pR (p : Pkx) : List PV := [.int .i64 p.fr, .int .i64 p.tt, .int .i64 p.tg, .fs 3 (p.cs.map Ckx.row)]
attribute [go_sem] gR pR zz20
def zGx:Gx:=⟨0,0,0,[],zIni,zIni,[],0,0,0⟩
def Gx.rest(g:Gx):Bool:=g.due== -1&&g.tr==0
def Gx.tries(g:Gx):Bool:=decide (0≤g.due)&&decide (g.due≤1099511634176)&&decide (1≤g.tr)&&decide (g.tr≤8)
def Gx.hd(g:Gx):Bool:=decide (0≤g.fr)&&decide (g.fr≤65535)&&decide (0≤g.tt)&&decide (g.tt≤65535)&&decide (g.sec.length=32)&&zAZ g.own&&zEg g.ta
def Gx.mid(g:Gx):Bool:=
 if g.st=1 then g.peer==zIni&&g.rest else if g.st=2 then g.peer==zIni&&g.tries
 else if g.st=3∨g.st=5∨g.st=6 then zAZ g.peer&&g.tries
 else if g.st=4 then zAZ g.peer&&g.rest
 else if g.st=7 then (g.peer==zIni||zAZ g.peer)&&g.rest else false
def Gx.cko(g:Gx):Bool:=if g.st=3 then g.ck !=[]&&decide (g.ck.length≤200) else g.ck== []
def Gx.ok(g:Gx):Bool:=g.hd&&g.mid&&g.cko
def ckS(g:Gx)(body:List UInt8)(t:Int):List UInt8:=
 let s:=zAa 6 t.toNat++body++(zAa 4 g.own.tag.toNat++zAa 2 g.fr.toNat++zAa 2 g.tt.toNat)
 s++zN5 kT hT g.sec s
def zA9(g:Gx)(tag:Int)(c:Ckx):List Pkx:=[⟨g.fr,g.tt,tag,[c]⟩]
def zAh(g:Gx)(k:Int):List Pkx:=zA9 g g.peer.tag ⟨k,0,[]⟩
def zAG(g:Gx)(s now:Int):Gx:={g with st:=s,due:=now+400,tr:=1,ck:=[]}
def zAT(g:Gx)(s:Int):Gx:={g with st:=s,due:= -1,tr:=0,ck:=[]}
def zAj(g:Gx):List Pkx:=
 if g.st=2 then zA9 g 0 ⟨1,0,g.own.oct⟩ else if g.st=3 then zA9 g g.peer.tag ⟨10,0,g.ck⟩
 else if g.st=5 then zAh g 7 else if g.st=6 then zAh g 8 else []
def zM5(g:Gx)(now:Int):Option (Gx×List Pkx):=if g.st=1 then some (zAG g 2 now,zAj (zAG g 2 now)) else none
def zJF(g:Gx)(now:Int):Option (Gx×List Pkx):=if g.st=4 then some (zAG g 5 now,zAj (zAG g 5 now)) else none
def zHF(g:Gx):Option (Gx×List Pkx):=if g.st=1∨g.st=7 then none else some (zAT g 7,if g.st=2 then [] else zAh g 6)
def wtS(n:Int):Int:=min (400*2^n.toNat) 6400
def zBy(g:Gx)(now:Int):Gx×List Pkx:=
 if g.due<0∨now<g.due then (g,[]) else if g.tr=8 then (zAT g 7,[]) else ({g with due:=now+wtS g.tr,tr:=g.tr+1},zAj g)
def zFF(g:Gx)(now tag:Int)(c:Ckx):Gx×List Pkx:=
 if zBX c=true∧tag=0∧g.st≤3 then (g,zA9 g (zBj c).tag ⟨2,0,Ini.oct {g.own with ck:=ckS g c.bd now}⟩) else (g,[])
def zDh(g:Gx)(now:Int)(c:Ckx):Gx×List Pkx:=
 if zBX c=true∧g.st=2 then
  let h:Gx:={zAG g 3 now with ck:=(zBj c).ck,peer:={zBj c with ck:=[]}}
  (h,zAj h)
 else (g,[])
def zC9(g:Gx)(now:Int)(b:List UInt8):Gx×List Pkx:=
 let t:Int:=zBW (b.take 6)
 let pb:=(b.drop 6).take 16
 let c:Ckx:=⟨1,0,pb⟩
 if b.length=62∧zBX c=true∧zEg t=true∧ckS g pb t=b then
  if g.st≤3∧(now<t∨60000<now-t) then (g,zA9 g (zBj c).tag ⟨6,0,[]⟩)
  else if g.st≤3 then ({zAT g 4 with peer:=zBj c},zAh {zAT g 4 with peer:=zBj c} 11)
  else if g.st=4∧zBj c=g.peer then (g,zAh g 11)
  else (g,[])
 else (g,[])
def zGI(g:Gx)(now:Int):Gx×List Pkx:=
 if g.st=4∨g.st=5 then (zAG g 6 now,zAj (zAG g 6 now)) else if g.st=6 then (g,zAj g) else (g,[])
def zDA(g:Gx):Gx×List Pkx:=
 if g.st=5∨g.st=6∨(g.st=7∧g.peer≠zIni) then (zAT g 7,zAh g 14) else (g,[])
def zAQ(g:Gx)(now tag:Int)(c:Ckx):Gx×List Pkx:=
 if c.kd=1 then zFF g now tag c
 else if tag≠g.own.tag then (g,[])
 else if c.kd=2 then zDh g now c
 else if c.kd=10 then zC9 g now c.bd
 else if c.kd=11 then (if g.st=3 then (zAT g 4,[]) else (g,[]))
 else if c.kd=7 then zGI g now
 else if c.kd=8 then zDA g
 else if c.kd=14 then (if g.st=6 then (zAT g 7,[]) else (g,[]))
 else if c.kd=6 then (if g.st=1∨g.st=7 then (g,[]) else (zAT g 7,[]))
 else (g,[])
def Pkx.hdC(p:Pkx):Ckx:=p.cs.headD ⟨0,0,[]⟩
def zDB(g:Gx)(now:Int)(p:Pkx):Gx×List Pkx:=if p.fr=g.tt∧p.tt=g.fr then zAQ g now p.tg p.hdC else (g,[])
def gEv(g:Gx)(now kind:Int)(p:Pkx):Option (Gx×List Pkx):=
 if kind=1 then zM5 g now else if kind=2 then zJF g now else if kind=3 then zHF g
 else if kind=4 then some (zBy g now) else some (zDB g now p)
def zAU(g:Gx)(now kind:Int)(p:Pkx):Gx×List Pkx×Int:=
 if g.ok=false then (zGx,[],330)
 else if zEg now=false∨now<g.ta∨kind<1∨5<kind then (zGx,[],2)
 else if kind=5∧p.ok=false then (zGx,[],320)
 else match gEv {g with ta:=now} now kind p with
  |none=>(zGx,[],8)
  |some (h,o)=>(h,o,0)
def zAV(l:List Pkx):PV:=match l with| []=>.nilS|_=>.fs 4 (l.map Pkx.row)
def zEr(r:Gx×List Pkx×Int):PV:=.tup [.agg r.1.row,zAV r.2.1,.int .i64 r.2.2]
end Go.Proofs.YtifhjhbfhdcahaaGreat
end
section
namespace Go.Tx
open Go.Sx (zAB)
theorem zU7{E:Env}{F:SF}{w:World}(h:HRel E F w){n:Nm}{e:TypeId}{wd:Nat}{o p p2:Bool}{rs rs1:List (List PV)}(hn:F n=some (.rows e wd o p rs))(l1:rs1.length=rs.length)
  (hl:∀(r:Nat) (row row1:List PV),rs[r]?=some row→rs1[r]?=some row1→row1.length=row.length)
  (hc:∀(r:Nat) (row row1:List PV) (c:Nat) (x y:PV) (u:Value),rs[r]?=some row→rs1[r]?=some row1→row[c]?=some x→row1[c]?=some y→VR w (Zn E F w) (EE E p) x u→VR w (Zn E F w) (EE E p2) y u):
  StepR E F w E (F.set n (.rows e wd o p2 rs1)) w:=by
 let F4:SF:=F.set n (.rows e wd o p2 rs1)
 have hown:∀m b,F4 m=some b→b.own=true→∃c,F m=some c∧c.own=true:=by
  intro m b hb ho;simp only[F4,SF.set]at hb;split at hb
  ·rename_i he;subst he;injection hb with hb;subst hb;exact ⟨_,hn,ho⟩
  ·exact ⟨b,hb,ho⟩
 have hlive:∀m b,F4 m=some b→b.live=true→∃c,F m=some c∧c.live=true:=by
  intro m b hb ho;simp only[F4,SF.set]at hb;split at hb
  ·rename_i he;subst he;exact ⟨_,hn,rfl⟩
  ·exact ⟨b,hb,ho⟩
 have hzone:∀q,Zn E F w q→Zn E F4 w q:=by
  rintro q ⟨k1,k2⟩
  refine ⟨k1,fun m b i hm ho hi hz=>?_⟩;obtain ⟨c,c1,c2⟩:=hown m b hm ho;exact k2 m c i c1 c2 hi hz
 have hX:Ext E w (Zn E F w) E w (Zn E F4 w):=⟨Env.le.refl _,hzone,fun _ _=>rfl⟩;have hX2:Ext (EE E p2) w (Zn E F w) (EE E p2) w (Zn E F4 w):=⟨Env.le.refl _,hzone,fun _ _=>rfl⟩;have hrel:HRel E F4 w:=by
  refine ⟨fun m b hm=>?_,fun m1 m2 b c i j h1 h2 h12 ho hl hi hj hz1 hz2=>?_⟩
  ·by_cases hmn:m=n
   ·subst hmn;have hb:b= .rows e wd o p2 rs1:=by
     simp only[F4,SF.set,if_true]at hm;injection hm with hm;exact hm.symm
    subst hb;obtain ⟨i,hi,hor⟩:=h.blk m _ hn;refine ⟨i,hi,?_⟩;rcases hor with ⟨z1,rfl,z3,z4⟩|⟨hz,hRr⟩
    ·refine .inl ⟨z1,?_,z3,z4⟩;exact vI l1
    ·refine .inr ⟨hz,?_⟩;obtain ⟨cs,fz,b1,b2,b3,b4⟩:=hRr.cells;have hlen1:∀row∈rs1,row.length=wd:=by
      intro row hrow;obtain ⟨r,hr⟩:=vW hrow;have hlt:=zAB hr;have hr0:=zS (l:=rs) (i:=r) (by omega);rw[hl r _ row hr0 hr];exact hRr.len _ (zO hr0)
     refine ⟨hRr.wd_eq,hRr.o0,hRr.wd_pos,hlen1,by rw[l1];exact hRr.le,hRr.cap,cs,fz,b1,b2,b3,?_⟩;refine (zAM hlen1).2 fun r row1 c y hr1 hc1=>?_
     have hlt:=zAB hr1;have hr0:=zS (l:=rs) (i:=r) (by omega);have hct:=zAB hc1;have hc0:=zS (l:=rs[r]) (i:=c) (by rw[←hl r _ row1 hr0 hr1];exact hct);obtain ⟨u,a1,a2,a3⟩:=(zAM hRr.len).1 b4 r _ c _ hr0 hc0;exact ⟨u,a1,a2,VR.mono hX2 _ _ (hc r _ row1 c _ y u hr0 hr1 hc0 hc1 a3)⟩
   ·have hm':F m=some b:=by simp only[F4,SF.set,if_neg hmn]at hm;exact hm
    exact (h.blk m b hm').mono hX fun _ _ _=>rfl
  ·obtain ⟨c1,d1,d2⟩:=hown m1 b h1 ho;obtain ⟨c2,e1,e2⟩:=hlive m2 c h2 hl;exact h.sep m1 m2 c1 c2 i j d1 e1 h12 d2 e2 hi hj hz1 hz2
 refine ⟨Env.le.refl _,hrel,rfl,rfl,rfl,zH _,fun _ _ _=>rfl,fun m b i hm ho hi hz=>?_⟩;obtain ⟨c,c1,c2⟩:=hown m b hm ho;exact .inr ⟨m,c,i,c1,c2,hi,hz,rfl⟩
theorem zJG(F:SF)(l:List Nm)(n:Nm):(F.upd (unown F l)) n=F n∨(∃e wd p rs,F n=some (.rows e wd true p rs)∧(F.upd (unown F l)) n=some (.rows e wd false p rs))∨(∃p ks vs,F n=some (.map true p ks vs)∧(F.upd (unown F l)) n=some (.map false p ks vs)):=by
 rw[zA6];rcases zBa (unown F l) F n with h|⟨v,h1,h2⟩;·exact .inl h
 ·rcases zDu h1 with ⟨e,wd,p,rs,q1,q2⟩|⟨p,ks,vs,q1,q2⟩;·exact .inr (.inl ⟨e,wd,p,rs,q1,by rw[h2,q2]⟩)
  ·exact .inr (.inr ⟨p,ks,vs,q1,by rw[h2,q2]⟩)
theorem Wk.un{F:SF}(ns:List Nm):∀(x y:PV),Wk F x y→Wk (F.upd (unown F ns)) x y:=by
  intro x;induction x using PV.rec (motive_3:=fun x=>∀(y:List PV),WkL F x y→WkL (F.upd (unown F ns)) x y) (motive_2:=fun _=>True) with
  |nilS=>intro y hw;cases y<;>simp only[Wk]at hw ⊢ <;>exact hw
  | sl n r l=>
    intro y hw;cases y<;>simp only[Wk]at hw ⊢ <;>first|exact hw|skip
    rcases zJG F ns n with h|⟨e,wd,p,rs,h1,h2⟩|⟨p,ks,vs,h1,h2⟩
    ·rw[h];exact hw
    ·rw[h1]at hw;rw[h2];cases p<;>exact hw
    ·rw[h1]at hw;exact hw.elim
  | mp n=>
    intro y hw;cases y<;>simp only[Wk]at hw ⊢ <;>first|exact hw|skip
    rcases zJG F ns n with h|⟨e,wd,p,rs,h1,h2⟩|⟨p,ks,vs,h1,h2⟩
    ·rw[h];exact hw
    ·rw[h1]at hw;exact hw.elim
    ·rw[h1]at hw;rw[h2];cases p<;>exact hw
  |agg l ih=>intro y hw;cases y<;>simp only[Wk]at hw ⊢ <;>first|exact hw|exact ih _ hw
  |tup l ih=>intro y hw;cases y<;>simp only[Wk]at hw ⊢ <;>first|exact hw|exact ih _ hw
  |ifc t u ih=>intro y hw;cases y<;>simp only[Wk]at hw ⊢ <;>first|exact hw|exact ⟨hw.1,ih _ hw.2⟩
  | _=>
    first
    |trivial
    |(intro y hw;cases y<;>simp only[Wk]at hw ⊢ <;>exact hw)
    | (intro y hw
       cases y with
       |nil=>trivial
       |cons _ _=>simp only[WkL]at hw)
    | (rename_i x l ihx ihl
       intro y hw;cases y with
       |nil=>simp only[WkL]at hw
       | cons y l'=>
         simp only[WkL]at hw ⊢;exact ⟨ihx y hw.1,ihl l' hw.2⟩)
theorem WkL.get{F:SF}:∀{l l':List PV},WkL F l l'→∀{c:Nat} {x y:PV},l[c]?=some x→l'[c]?=some y→Wk F x y∧∀n∈wkN x y,n∈zAt l l'
 | [],_,_,c,x,y,h,_=>by simp at h
 |_::_,[],_,c,x,y,_,h=>by simp at h
 |a::l,b::l',hw,0,x,y,h,h'=>by
  simp at h h';subst h;subst h';simp only[WkL]at hw;exact ⟨hw.1,fun n hn=>by simp[zAt,hn]⟩
 |a::l,b::l',hw,c+1,x,y,h,h'=>by
  simp at h h';simp only[WkL]at hw;have:=WkL.get hw.2 h h';exact ⟨this.1,fun n hn=>by simp[zAt,this.2 n hn]⟩
theorem zPX:∀{l:List PV},nfl l=true→∀{c:Nat} {x:PV},l[c]?=some x→Tx.nf x=true
 | [],_,c,x,h=>by simp at h
 |a::l,hn,0,x,h=>by
  simp at h;subst h;simp only[nfl,zC]at hn;exact hn.1
 |a::l,hn,c+1,x,h=>by
  simp at h;simp only[nfl,zC]at hn;exact zPX hn.2 h
theorem zUb{L:Nat}{F0:SF}{t:List (Option PV)}{H:List (Nm×SBlk)}{nx:Nat}(n:Nm){e:TypeId}{wd:Nat}{o p:Bool}{row:List PV}(row1:List PV)(hn:look F0 H n=some (.rows e wd o p [row]))(hl:row1.length=row.length)(hw:WkL (look F0 H) row row1)(hno:n∉zAt row row1)(hnf:nfl row1=true):
  Sub L F0 ⟨t,H,nx⟩ ⟨t,zAl H (unown (look F0 H) (zAt row row1)++[(n,.rows e wd o true [row1])]),nx⟩:=by
 intro B E0 w0 E a w hd0 hR;have hle:=zED (look F0 H) (zAt row row1);have hS:=zUS hR.step.rel hle;have hn1:((look F0 H).upd (unown (look F0 H) (zAt row row1))) n=some (.rows e wd o p [row]):=by
  rw [zP8 (fun hk=>?_)];exact hn;simp only[keys,List.mem_map]at hk;obtain ⟨⟨m,b⟩,h1,h2⟩:=hk;simp only at h2;subst h2;have:∀l:List Nm,(m,b)∈unown (look F0 H) l→m∈l:=by
   intro l;induction l with
   |nil=>intro h;cases h
   | cons a l ih=>
    intro h;simp only[unown,vS]at h;rcases h with h|h
    ·split at h;·simp at h;simp[h.1]
     ·simp at h;simp[h.1]
     ·cases h
    ·exact List.mem_cons_of_mem _ (ih h)
  exact hno (this _ h1)
 have hS2:=zU7 (p2:=true) hS.rel hn1 (rs1:=[row1]) rfl (by
   intro r row' row1' h1 h2;cases r with
   |zero=>simp at h1 h2;subst h1;subst h2;exact hl
   |succ r=>simp at h1) (by
   intro r row' row1' c x y u h1 h2 h3 h4 h5;cases r with
   |succ r=>simp at h1
   |zero=>
    simp at h1 h2;subst h1;subst h2;obtain ⟨k1,k2⟩:=hw.get h3 h4;have h6:=VR.mono ⟨zKT E p,fun _ h=>h,fun _ _=>rfl⟩ _ _ h5;have h7:=zJw hS.rel (SLe.refl _) _ _ _ (Wk.un (zAt row row1) _ _ k1) (fun m hm c hc=>zDv (k2 m hm) hc) h6;exact VR.nf _ _ (zPX hnf h4) h7)
 have hT:=hS.trans hS2;have hlk:look F0 (zAl H (unown (look F0 H) (zAt row row1)++[(n,.rows e wd o true [row1])]))=((look F0 H).upd (unown (look F0 H) (zAt row row1))).set n (.rows e wd o true [row1]):=by
  rw[zAP];have:∀(l:List (Nm×SBlk)) (G:SF),G.upd (l++[(n,.rows e wd o true [row1])])=(G.upd l).set n (.rows e wd o true [row1]):=by
   intro l;induction l with
   |nil=>intro G;rfl
   |cons a l ih=>intro G;exact ih _
  exact this _ _
 refine ⟨E,by rw[hlk];exact hR.step.trans hT,⟨by simpa using hR.tmps.size,fun i v hv=>?_⟩,by rw[hlk];exact hR.marks.mono hT.ext,hR.news⟩;obtain ⟨v',a1,a2⟩:=hR.tmps.val i v hv;exact ⟨v',a1,by rw[hlk];exact VR.mono hT.ext _ _ a2⟩
def VT(C:Cx)(F0:SF)(c:Code)(st:St)(Q:Exit→St→Prop):Prop:=∀(E0:Env) (w0:World),zGD C.L E0→InvY C.ys E0 F0 w0→HRel E0 F0 w0→Tp C F0 E0 w0 st c (Qd C Q)
def hdC:Code→Code
 | .seq a _=>a
 |c=>c
def tlC:Code→Code
 | .seq _ b=>b
 |c=>c
attribute [go_sem] hdC tlC
section
variable {C : Cx} {F0 : SF} {c : Code} {st : St} {Q : Exit → St → Prop}
theorem VT.of(hC:C.Ok)(h:vcC C F0 c st Q):VT C F0 c st Q:=fun _ _ hd hy hR=>zG1 hC hd hy hR c st Q h
theorem VT.sub{st':St}(hs:Sub C.L F0 st st')(h:VT C F0 c st' Q):VT C F0 c st Q:=fun E0 w0 hd hy hR=>(h E0 w0 hd hy hR).sub hd hs
theorem VT.cut(hC:C.Ok)(hc:c= .seq (hdC c) (tlC c)){ι:Type}(I:ι→St)(pre:ι→Prop)(h1:vcC C F0 (hdC c) st (zGE (fun s=>∃x,pre x∧Sub C.L F0 s (I x)) Q))(h2:∀x,pre x→VT C F0 (tlC c) (I x) Q):VT C F0 c st Q:=by
 intro E0 w0 hd hy hR;rw[hc];refine Tp.seq ((zG1 hC hd hy hR _ _ _ h1).mono ?_);intro e s hs;rcases hs with hs|⟨q1,rfl,q2⟩
 ·cases e with
  |normal=>
   obtain ⟨x,hx,hsub⟩:=hs;exact (h2 x hx E0 w0 hd hy hR).sub hd hsub
  |_=>exact .inl hs
 ·exact .inr ⟨q1,rfl,q2⟩
theorem zUU(hC:C.Ok)(hro:C.ro=none)(hys:C.ys=[]){f:FuncId}{fn:Func}{c:Code}(hf:C.P.funcs[f]?=some fn)(hb:fn.body=some c)(hnum:(fn.name== "runtime.NumGoroutine")=false){args:List PV}{F:SF}{L nx:Nat}(hL:C.L=L+1){v:PV}{upd:List (Nm×SBlk)}{rd:List Nm}(hrd:∀n∈rd,n.l≤L)
  (H:∀F3:SF,(∀n∈rd,F3 n=F n)→(∀n:Nm,L<n.l→F3 n=none)→VT C F3 c ⟨zBn args fn.ntmps,[],0⟩ (PostF C.T F3 fn.results.toList L v upd))(hdi:C.dies=false:=by rfl)(hB:C.B=[]:=by rfl):Con C.P f args F L nx nx v upd rd:=by
 refine ⟨zH _,fun F2 hF2 E w args' hR _ hdp hargs=>?_⟩
 let F3:SF:=fun n=>if n.l≤L then F2 n else none
 have h3:SLe F3 F2:=by
  intro n b hb;simp only[F3]at hb;split at hb;·exact .inr (.inl hb)
  ·cases hb
 have hS0:=zUS hR h3;have hvc:=H F3 (fun n hn=>by simp only[F3];rw[if_pos (hrd n hn)];exact hF2 n hn) (fun n hn=>by simp only[F3];rw[if_neg (by omega)]);have hdom:zGD C.L E:=fun n hn=>hdp n (by omega)
 have htp:=(hvc E w hdom (by rw[hys];exact InvY.nil) hS0.rel).mono fun e s hs=>hs.resolve_right fun h=>by rw[hdi]at h;cases h.1
 have hargs3:=VRl.mono hS0.ext _ _ hargs;obtain ⟨hlen,hget⟩:=VRl.get hargs3;have hrel:Rel C.B C.L F3 E w E ⟨zBn args fn.ntmps,[],0⟩ {tmps:=args'.toArray++Array.replicate (fn.ntmps-args'.toArray.size) undef,defers:=[]} w:=by
  refine ⟨StepR.refl hS0.rel,⟨by simp[zBn,hlen],fun i x hx=>?_⟩,(by rw[hB];exact MarksOk.nil),fun n h1 h2=>absurd h1 h2⟩;simp only[TF,zBn]at hx;rw[zE]at hx;by_cases hi:i<args.length
  ·rw[wO (by simpa using hi)]at hx;simp only[wE]at hx;cases hy:args[i]? with
   |none=>rw[hy]at hx;cases hx
   |some y=>
    rw[hy]at hx;simp at hx;subst hx;obtain ⟨v',a1,a2⟩:=hget i y hy;refine ⟨v',?_,a2⟩;rw[uR (by simp;omega)];simpa using a1
  ·rw[wZ (by simp;omega)]at hx;simp only[zG,uT]at hx;split at hx;rotate_left;·cases hx
   rename_i hlt;simp at hx;subst hx;refine ⟨undef,?_,zBr⟩;rw[qO (by simp;omega)];simp only[uO,qX];rw[if_pos (by omega)]
 have hcall:Calls C.P f args'.toArray w fun e w'=>∃v',e= .returned v'∧zBH E F2 w L nx nx v upd v' w':=by
  rw[←callsIn_wide (n:=0)];refine callsIn_of_wp_marks hf hb trivial ?_;have hW:W C.ro=Fence.wide:=by rw[hro];rfl
  rw[←hW];refine wpIn_mono (htp _ _ E hrel) ?_
  rintro e a w1 ⟨st,hP,E',hRl1⟩
  obtain ⟨Ds,d1,d2,d3⟩:=hRl1.marks;have key:LeavesInM (W C.ro) 0 C.P fn a.tmps (fun e w'=>∃v',e= .returned v'∧zBH E F2 w L nx nx v upd v' w') a.defers .returning w1:=by
   rw[d2,hB];refine zCc (by simp) Ds w1 d1 (fun D hD=>⟨(d3 D hD).1,(d3 D hD).2.2⟩) hRl1.step hRl1.tmps fun w' s1 s2=>?_
   have hRl:Rel C.B C.L F3 E w E' st {tmps:=a.tmps,defers:=[]} w':=⟨s1,s2,(by rw[hB];exact MarksOk.nil),hRl1.news⟩;obtain ⟨p,v0,q1,q2,q3,q4⟩:=hP.res;obtain ⟨v',r1,r2⟩:=zG4 hC.T hRl.step.rel hRl.tmps q1 q2
   let G:=look F3 st.H
   let Fm:SF:=fun n=>if n.l≤L then G n else none
   have hm:SLe Fm G:=by
    intro n b hb;simp only[Fm]at hb;split at hb;·exact .inr (.inl hb)
    ·cases hb
   have hSm:=zUS hRl.step.rel hm
   let E2:Env:=fun n=>if n.l≤L then E' n else none
   have hEE:∀n i,E n=some i→E' n=some i∧E2 n=some i:=by
    intro n i hi;have h1:=hRl.step.le n i hi;have hl:n.l≤L:=by
     rcases wT L n.l with h|h;·rw[hdp n h]at hi;cases hi
     ·exact h
    exact ⟨h1,by simp only[E2];rw[if_pos hl];exact h1⟩
   have hE2:∀n,E2 n≠none→n.l≤L∧E n=E2 n∧E' n=E2 n:=by
    intro n hn;have hl:n.l≤L:=by
     rcases wT L n.l with h|h;·simp only[E2]at hn;rw[if_neg (by omega)]at hn;exact absurd rfl hn
     ·exact h
    have e1:E2 n=E' n:=by simp only[E2];rw[if_pos hl]
    refine ⟨hl,?_,e1.symm⟩;cases he:E n with
    |none=>
     have:=(hRl.news n he (by rw[←e1];exact hn)).1;omega
    |some i=>rw[(hEE n i he).2]
   let F':=F2.upd upd
   have hF':∀n b,F' n=some b→b.live=true→n.l≤L∧((n∈keys upd∧BW L G (G n) b)∨(n∉keys upd∧F2 n=some b∧G n=some b)):=by
    intro n b hn hl;have hn':zAX F2 upd n=some b:=by rw[←zA6];exact hn
    by_cases hk:n∈keys upd
    ·rcases zBa upd F2 n with h|⟨u,h1,h2⟩
     ·-- the key is written
      have gen:∀(x:List (Nm×SBlk)) (f:SF),n∈keys x→∃u,(n,u)∈x∧zAX f x n=some u:=by
       intro x;induction x with
       |nil=>intro f h;cases h
       | cons a x ih=>
        intro f h;obtain ⟨m,u⟩:=a;simp only[zAX];by_cases hx:n∈keys x
        ·obtain ⟨u',q1,q2⟩:=ih (fun q=>if q=m then some u else f q) hx;exact ⟨u',by simp[q1],q2⟩
        ·simp only[keys,zL,wP]at h;rcases h with h|h;·subst h;exact ⟨u,by simp,by rw[zAc hx];simp⟩
         ·exact absurd h hx
      obtain ⟨u,u1,u2⟩:=gen upd F2 hk;rw[hn']at u2;injection u2 with u2;subst u2;obtain ⟨c1,c2⟩:=hP.ok.mem u1;exact ⟨c1,.inl ⟨hk,c2⟩⟩
     ·rw[hn']at h2;injection h2 with h2;subst h2;obtain ⟨c1,c2⟩:=hP.ok.mem h1;exact ⟨c1,.inl ⟨hk,c2⟩⟩
    ·rw[zAc hk]at hn';obtain ⟨i,hi⟩:=(hR.blk n b hn').def_ hl;have hll:n.l≤L:=by
      rcases wT L n.l with h|h;·rw[hdp n h]at hi;cases hi
      ·exact h
     refine ⟨hll,.inr ⟨hk,hn',?_⟩⟩;show look F3 st.H n=some b;rw[hP.all.look hll hk];simp only[F3];rw[if_pos hll];exact hn'
   have hBlive:∀{n:Nm} {b:SBlk},BW L G (G n) b→b.live=true→∃b0,G n=some b0∧b0.live=true∧(b.own=true→b0.own=true):=by
    intro n b hb hl;cases hg:G n with
    |none=>rw[hg]at hb;cases b<;>first|exact (show False from hb).elim|(cases hl;done)
    |some b0=>
     rw[hg]at hb;refine ⟨b0,rfl,?_⟩;cases b0<;>cases b<;>first|exact (show False from hb).elim|(cases hl;done)|skip
     ·exact ⟨rfl,hb.2.2.1⟩
     ·exact ⟨rfl,hb.1⟩
   have hFm:∀n b,F' n=some b→b.live=true→n.l≤L∧∃b0,Fm n=some b0∧G n=some b0∧b0.live=true∧(b.own=true→b0.own=true):=by
    intro n b hn hl;obtain ⟨h1,h2⟩:=hF' n b hn hl;refine ⟨h1,?_⟩;have e:Fm n=G n:=by simp only[Fm];rw[if_pos h1]
    rw[e];rcases h2 with ⟨_,h2⟩|⟨_,_,h2⟩
    ·obtain ⟨b0,c1,c2,c3⟩:=hBlive h2 hl;exact ⟨b0,c1,c1,c2,c3⟩
    ·exact ⟨b,h2,h2,hl,id⟩
   have hzone:∀k,Zn E' Fm w' k→Zn E2 F' w' k:=by
    rintro k ⟨k1,k2⟩
    refine ⟨k1,fun n b i hn ho hi hz he=>?_⟩;obtain ⟨h1,b0,c1,_,_,c3⟩:=hFm n b hn (zAe ho);have e:=(hE2 n (by rw[hi];simp)).2.2;exact k2 n b0 i c1 (c3 ho) (by rw[e];exact hi) hz he
   have hzone':∀k,Zn E' G w' k→Zn E2 F' w' k:=fun k hk=>hzone k (hSm.ext.zone k hk)
   have hEx:Ext Env.no w' (Zn E' Fm w') Env.no w' (Zn E2 F' w'):=⟨Env.le.refl _,hzone,fun _ _=>rfl⟩;have hwk:∀(x y:PV) (u:Value),Wk G x y→(∀n∈wkN x y,n.l=L+1)→Tx.nf y=true→VR w' (Zn E' G w') E' x u→VR w' (Zn E2 F' w') Env.no y u:=by
    intro x y u h1 h2 h3 h4;have:=zJw hRl.step.rel hm x y u h1 (fun n hn b hb=>by
     have:=h2 n hn;simp only[Fm]at hb;rw[if_neg (by omega)]at hb;cases hb) h4
    exact VR.mono hEx _ _ (VR.nf y u h3 this)
   have hback:∀n b,F2 n=some b→G n=some b→b.live=true→BRel E2 w' (Zn E2 F' w') n b:=by
    intro n b h1 h2 hl;have:=zUz hEE (hR.blk n b h1) (hRl.step.rel.blk n b h2);exact this.mono ⟨Env.le.refl _,hzone',fun _ _=>rfl⟩ fun _ _ _=>rfl
   have hrelF:HRel E2 F' w':=by
    refine ⟨fun n b hn=>?_,fun n m b d i j hn hm' hnm ho hl hi hj hin hjn=>?_⟩
    ·by_cases hl:b.live=true;rotate_left
     ·cases b with
      |dead=>trivial
      |rows=>exact absurd rfl hl
      |map=>exact absurd rfl hl
      | cap mm kk=>
       have hn':zAX F2 upd n=some (.cap mm kk):=by rw[←zA6];exact hn
       rcases zBa upd F2 n with h9|⟨u9,h9,h10⟩
       ·rw[hn']at h9;obtain ⟨i9,hi9,hz9⟩:=hR.blk n _ h9.symm;exact ⟨i9,(hEE mm i9 hi9).2,hz9⟩
       ·rw[hn']at h10;injection h10 with h10;subst h10;have h11:BW L G (G n) (.cap mm kk):=(hP.ok.mem h9).2;cases hg9:G n with
        |none=>rw[hg9]at h11;exact (show False from h11).elim
        |some b0=>rw[hg9]at h11;cases b0<;>exact (show False from h11).elim
     obtain ⟨h1,h2⟩:=hF' n b hn hl;rcases h2 with ⟨hk,h2⟩|⟨hk,h2,h3⟩;rotate_left;·exact hback n b h2 h3 hl
     have h2':=h2;obtain ⟨b0,g1,g2,g3⟩:=hBlive h2 hl;have hb0:=hRl.step.rel.blk n b0 g1;have eE:E2 n=E' n:=by simp only[E2];rw[if_pos h1]
     rw[g1]at h2;cases b0<;>cases b<;>first|exact (show False from h2).elim|(cases hl;done)|skip
     ·rename_i e wd o p rs e' wd' o' p' rs';obtain ⟨rfl,rfl,ho,rfl,hrs⟩:=h2;obtain ⟨i,hi,hor⟩:=hb0;refine ⟨i,by rw[eE];exact hi,?_⟩;rcases hor with ⟨z1,rfl,z3,z4⟩|⟨hz,hRr⟩
      ·refine .inl ⟨z1,?_,z3,z4⟩;rcases hrs with ⟨_,rfl⟩|⟨hrs,_,_⟩;·rfl
       ·cases rs' with
        |nil=>rfl
        |cons a l=>simp[zHp]at hrs
      ·refine .inr ⟨hz,?_⟩;obtain ⟨cs,fz,b1,b2,b3,b4⟩:=hRr.cells;rcases hrs with ⟨rfl,rfl⟩|⟨hrs,hns,hnf⟩;·exact ⟨hRr.wd_eq,hRr.o0,hRr.wd_pos,hRr.len,hRr.le,hRr.cap,cs,fz,b1,b2,fun h=>b3 (ho h),VRr.mono ⟨Env.le.refl _,hzone',fun _ _=>rfl⟩ _ _ _ b4⟩
       ·obtain ⟨l1,l2⟩:=zE9 hrs;have hlen':∀row∈rs',row.length=wd:=by
         intro row hrow;obtain ⟨r,hr⟩:=vW hrow;have hlt:=zAB hr;have hr0:=zS (l:=rs) (i:=r) (by omega);obtain ⟨k1,_⟩:=l2 r _ row hr0 hr;rw[←(zDV k1).1];exact hRr.len _ (zO hr0)
        refine ⟨hRr.wd_eq,hRr.o0,hRr.wd_pos,hlen',by rw[←l1];exact hRr.le,hRr.cap,cs,fz,b1,b2,fun h=>b3 (ho h),(zAM hlen').2 fun r row' c y hr' hc'=>?_⟩;have hlt:=zAB hr';have hr0:=zS (l:=rs) (i:=r) (by omega);obtain ⟨k1,k2⟩:=l2 r _ row' hr0 hr';obtain ⟨k3,k4⟩:=zDV k1;have hct:=zAB hc';have hc0:=zS (l:=rs[r]) (i:=c) (by omega);obtain ⟨k5,k6⟩:=k4 c _ y hc0 hc';obtain ⟨u,a1,a2,a3⟩:=(zAM hRr.len).1 b4 r _ c _ hr0 hc0;rw[wK]at hnf;exact ⟨u,a1,a2,hwk _ y u k5 (fun n hn=>hns n (k2 n (k6 n hn))) (zIP (hnf row' (zO hr')) y (zO hc')) (VR.up a3)⟩
     ·rename_i o p ks vs o' p' ks' vs';obtain ⟨ho,rfl,rfl,rfl,rfl⟩:=h2;obtain ⟨i,hi,hz,ents,clk,hb,hmr⟩:=hb0;have hX0:Ext Env.no w' (Zn E' G w') Env.no w' (Zn E2 F' w'):=⟨Env.le.refl _,hzone',fun _ _=>rfl⟩;exact ⟨i,by rw[eE];exact hi,hz,ents,clk,hb,VRl.mono hX0 _ _ hmr.1,VRl.mono hX0 _ _ hmr.2⟩
    ·obtain ⟨_,b0,_,c1,_,c3⟩:=hFm n b hn (zAe ho);obtain ⟨_,d0,_,d1,d2,_⟩:=hFm m d hm' hl;have e1:=(hE2 n (by rw[hi];simp)).2.2;have e2:=(hE2 m (by rw[hj];simp)).2.2;exact hRl.step.rel.sep n m b0 d0 i j c1 d1 hnm (c3 ho) d2 (by rw[e1];exact hi) (by rw[e2];exact hj) hin hjn
   have hstep:StepR E F2 w E2 F' w':=by
    refine ⟨fun n i hi=>(hEE n i hi).2,hrelF,hRl.step.os,hRl.step.tape,hRl.step.output,hRl.step.size,fun k hk hno=>?_,fun n b i hn ho hi hin=>?_⟩
    ·refine hRl.step.keep k hk fun n b i hn ho hi hin=>hno n b i (h3.own hn ho) ho hi hin
    ·obtain ⟨_,b0,_,c1,_,c3⟩:=hFm n b hn (zAe ho);have e1:=(hE2 n (by rw[hi];simp)).2.2;rcases hRl.step.own n b0 i c1 (c3 ho) (by rw[e1];exact hi) hin with h|⟨m,d,j,m1,m2,m3,m4,m5⟩;·exact .inl h
     ·exact .inr ⟨m,d,j,h3.own m1 m2,m2,m3,m4,m5⟩
   have hres:zBH E F2 w L nx nx v upd v' w':=by
    refine ⟨E2,?_,hstep,fun n h1 h2=>?_⟩;·exact VR.mono ⟨zUT _,fun _ h=>h,fun _ _=>rfl⟩ _ _ (hwk v0 v v' q3 q4 hP.nf r2)
    ·have:=(hE2 n h2).2.1;rw[h1]at this;exact absurd this.symm h2
   exact ⟨v',r1,v',rfl,hres⟩
  rcases hP.e with rfl|rfl;·exact key
  ·exact key
 have hrun:(callFunc f args'.toArray).run C.P w= .ok (.enter f args'.toArray) w:=zAk hf (by rw[hb];rfl) hnum;rw[hrun];exact hcall
theorem zVI(hC:C.Ok)(hro:C.ro=none){f:FuncId}{fn:Func}{c:Code}(hf:C.P.funcs[f]?=some fn)(hb:fn.body=some c)(hnum:(fn.name== "runtime.NumGoroutine")=false){args:List PV}{F:SF}{L nx k:Nat}(hL:C.L=L+1){v:PV}{upd:List (Nm×SBlk)}{rd:List Nm}(hrd:∀n∈rd,n.l≤L)
  (H:∀F3:SF,(∀n∈rd,F3 n=F n)→(∀n:Nm,L<n.l→F3 n=none)→VT C F3 c ⟨zBn args fn.ntmps,[],0⟩ (PostS C.T F3 fn.results.toList L nx v upd k))(hdi:C.dies=false:=by rfl)(hB:C.B=[]:=by rfl):ICon C.P C.ys f args F L nx (nx+k) v upd rd:=by
 refine ⟨by omega,fun F2 hF2 E w args' hR hfr hdp hargs hy=>?_⟩
 let F3:SF:=zEe L F2
 have h3:SLe F3 F2:=zEo L F2;have hS0:=zUS hR h3;have hvc:=H F3 (fun n hn=>by simp only[F3,zEe];rw[if_pos (hrd n hn)];exact hF2 n hn) (fun n hn=>by simp only[F3,zEe];rw[if_neg (by omega)]);have hdom:zGD C.L E:=fun n hn=>hdp n (by omega)
 have htp:=(hvc E w hdom (hy.step hR hS0) hS0.rel).mono fun e s hs=>hs.resolve_right fun h=>by rw[hdi]at h;cases h.1
 have hargs3:=VRl.mono hS0.ext _ _ hargs;obtain ⟨hlen,hget⟩:=VRl.get hargs3;have hrel:Rel C.B C.L F3 E w E ⟨zBn args fn.ntmps,[],0⟩ {tmps:=args'.toArray++Array.replicate (fn.ntmps-args'.toArray.size) undef,defers:=[]} w:=by
  refine ⟨StepR.refl hS0.rel,⟨by simp[zBn,hlen],fun i x hx=>?_⟩,(by rw[hB];exact MarksOk.nil),fun n h1 h2=>absurd h1 h2⟩;simp only[TF,zBn]at hx;rw[zE]at hx;by_cases hi:i<args.length
  ·rw[wO (by simpa using hi)]at hx;simp only[wE]at hx;cases hy:args[i]? with
   |none=>rw[hy]at hx;cases hx
   |some y=>
    rw[hy]at hx;simp at hx;subst hx;obtain ⟨v',a1,a2⟩:=hget i y hy;refine ⟨v',?_,a2⟩;rw[uR (by simp;omega)];simpa using a1
  ·rw[wZ (by simp;omega)]at hx;simp only[zG,uT]at hx;split at hx;rotate_left;·cases hx
   rename_i hlt;simp at hx;subst hx;refine ⟨undef,?_,zBr⟩;rw[qO (by simp;omega)];simp only[uO,qX];rw[if_pos (by omega)]
 have hcall:Calls C.P f args'.toArray w fun e w'=>∃v',e= .returned v'∧zBH E F2 w L nx (nx+k) v upd v' w':=by
  rw[←callsIn_wide (n:=0)];refine callsIn_of_wp_marks hf hb trivial ?_;have hW:W C.ro=Fence.wide:=by rw[hro];rfl
  rw[←hW];refine wpIn_mono (htp _ _ E hrel) ?_
  rintro e a w' ⟨st0,⟨st,hsub,hP⟩,E0',hRl0⟩
  rw[←hL]at hsub;obtain ⟨E',hRl⟩:=hsub C.B E w E0' a w' hdom hRl0;obtain ⟨Ds,d1,d2,d3⟩:=hRl.marks;have key:LeavesInM (W C.ro) 0 C.P fn a.tmps (fun e w'=>∃v',e= .returned v'∧zBH E F2 w L nx (nx+k) v upd v' w') a.defers .returning w':=by
   rw[d2,hB];refine zCc (by simp) Ds w' d1 (fun D hD=>⟨(d3 D hD).1,(d3 D hD).2.2⟩) hRl.step hRl.tmps fun w'' s1 s2=>?_
   obtain ⟨news,p,v0,v1,hk,hnd,q1,q2,q3,q4,q5,rfl,hok⟩:=hP.res;obtain ⟨v',r1,r2⟩:=zG4 hC.T s1.rel s2 q1 q2;exact ⟨v',r1,v',rfl,zDy hR hfr hdp s1 (fun n h1 h2=>by have:=(hRl.news n h1 h2).1;omega) hk hnd q3 q4 q5 hok hP.all r2⟩
  rcases hP.e with rfl|rfl;·exact key
  ·exact key
 have hrun:(callFunc f args'.toArray).run C.P w= .ok (.enter f args'.toArray) w:=zAk hf (by rw[hb];rfl) hnum;rw[hrun];exact hcall
theorem zUf(hC:C.Ok)(hro:C.ro=none)(hys:C.ys=[]){f:FuncId}{fn:Func}{c:Code}(hf:C.P.funcs[f]?=some fn)(hb:fn.body=some c)(hnum:(fn.name== "runtime.NumGoroutine")=false){args:List PV}{F:SF}{L nx k:Nat}(hL:C.L=L+1){v:PV}{upd:List (Nm×SBlk)}{rd:List Nm}(hrd:∀n∈rd,n.l≤L)
  (H:∀F3:SF,(∀n∈rd,F3 n=F n)→(∀n:Nm,L<n.l→F3 n=none)→VT C F3 c ⟨zBn args fn.ntmps,[],0⟩ (PostS C.T F3 fn.results.toList L nx v upd k))(hdi:C.dies=false:=by rfl)(hB:C.B=[]:=by rfl):Con C.P f args F L nx (nx+k) v upd rd:=by
 have h:=zVI hC hro hf hb hnum hL (nx:=nx) hrd H hdi hB;rw[hys]at h;exact h.con
end
end Go.Tx
end
section
namespace Go.Proofs.YtifhjhbfhdcahaaGreat
open Go.Tx
set_option maxRecDepth 100000
set_option maxHeartbeats 16000000
theorem PsOk.without{inn:List Int}{ps:List Dat}(h:PsOk inn ps)(p:Dat→Bool):PsOk inn (zIa ps p) where
 len:=vP (List.length_filter_le _ _) h.len
 all:=fun d hd=>h.all d (List.mem_filter.1 hd).1
 nodup:=List.Nodup.sublist (List.Sublist.map _ List.filter_sublist) h.nodup
theorem PsOk.next{inn:List Int}{ps:List Dat}(h:PsOk inn ps)(st sq:Int)(hst:0≤st):PsOk (zHC inn st sq) (zRm inn ps st sq):=by
 have hw:=h.without (zSg (zHC inn st sq) st);refine ⟨hw.len,fun d hd=>?_,hw.nodup⟩;have hm:=List.mem_filter.1 hd;obtain ⟨a1,a2,a3⟩:=zMz (h.all d hm.1);have hb:=zU6 a1;unfold zKt;rw[a1,zM1];simp only[zR,zC,decide_eq_true_eq,vV];refine ⟨a2,?_⟩;by_cases hs:d.st=st
 ·have:=hm.2;simp only[zSg,hs,beq_self_eq_true,zR,qM,Bool.and_eq_false_iff,Bool.not_eq_false',decide_eq_false_iff_not]at this;rcases this with h|h;·exact .inl h
  ·right;rw[hs];omega
 ·rcases a3 with h|h;·exact .inl h
  ·right;have:(zHC inn st sq).getD d.st.toNat 0=inn.getD d.st.toNat 0:=by
    unfold zHC;rw[zE,List.getElem?_set_ne (by omega),←zE]
   rw[this];exact h
theorem Str0.inn{out inn inn2 asked:List Int}{num seen:Int}(h:Str0 out inn num seen asked)(hl:inn2.length=inn.length)(hi:inn2.all (zA2 16)=true):Str0 out inn2 num seen asked:=
 ⟨h.o1,h.o2,h.o3,by rw[hl];exact h.i1,by rw[hl];exact h.i2,hi,h.n,h.s,h.a,h.a2⟩
theorem okS{a:List Oper}{b:Nat}(h:zA7 a b=true):zA7 a b=true:=h
end Go.Proofs.YtifhjhbfhdcahaaGreat
end
namespace Go.Proofs.YtifhjhbfhdcahaaGreat
open Go.Tx
theorem vcu{F0:SF}{c:Code}{st:St}{Q:Exit→St→Prop}{L:Nat}(I:St)(h1:vcC (cx (L+1)) F0 (hdC c) st (zGE (fun s=>∃x:Unit,True∧Sub (cx (L+1)).L F0 s I) Q))(h2:VT (cx (L+1)) F0 (tlC c) I Q)(hc:c= .seq (hdC c) (tlC c):=by kernel_rfl):VT (cx (L+1)) F0 c st Q:=VT.cut (zAg (L+1)) hc (fun _=>I) (fun _=>True) h1 fun _ _=>h2
end Go.Proofs.YtifhjhbfhdcahaaGreat
