/- Lemmas for the walk: GC13, GK4, GC14, GC15, GK11, GK12, GK13, GK14, GK15, GK16, GK9, GK17, GK18, U41, GK19, GK20, GK6. -/
import Derived.Test.YtifhjhbfhdcahaaGreatP11
import Derived.Test.YtifhjhbfhdcahaaGreatP10
set_option linter.all false
section
namespace Go.Proofs.YtifhjhbfhdcahaaGreat
open Go.Tx
set_option maxRecDepth 100000
set_option maxHeartbeats 16000000
def eN(v:Nat):List PV:=[.int .i64 v]
def zGF:Option Nm→List (Nm×SBlk)
 |none=>[]
 |some m=>[(m,.dead)]
def zQM(n:Nm):Option Nm→List Nm
 |none=>[n]
 |some m=>[n,m]
def zJc(L nx:Nat):Option Nm→Prop
 |none=>True
 |some m=>m.l<L∨(m.l=L∧m.i<nx)
theorem zEf{F:SF}{L nx:Nat}(n:Nm)(e:TypeId)(he:e=213∨e=133)(hn:n.l<L∨(n.l=L∧n.i<nx))(b:Option Nm)(hm:zJc L nx b)(t s:List UInt8)(hs:s≠[])(hsl:t.length+s.length≤1000000)(hb:zL5 F n e b t):
  Con Tryz.prog 61 [.ptr n 0 0,.str s] F L nx (nx+1) (.tup [.int .i64 s.length,.nilI]) (zGF b++zDk n e ⟨L,nx⟩ (t++s)) (zQM n b):=by
 cases b with
 |none=>
  have:=hb.1;subst this;exact zG7 n e he hn s hs (by simpa using hsl) hb
 |some m=>exact zG8 n e he hn m hm t s hs hsl hb
theorem zKs(k:Nat):∀l:List Nat,(l.flatMap (zAa k)).length=l.length*k
 | []=>by simp
 |x::l=>by simp only[uW,zU,zAL,vC,zKs k l,wV];omega
theorem zQN{F:SF}{L nx:Nat}(n:Nm)(hn:n.l<L∨(n.l=L∧n.i<nx))(b:Option Nm)(hm:zJc L nx b)(t:List UInt8)(k:Nat)(hk1:1≤k)(hk2:k≤7)(vs:List Nat)(hv:∀v∈vs,v<256^k)(hv0:vs≠[])(hvl:t.length+vs.length*7≤1000000)(hb:zL5 F n 213 b t):
  Con Tryz.prog 185 [.ptr n 0 0,.int .i64 k,.fs 1 (vs.map eN)] F L nx (nx+1) (.tup []) (zGF b++zDk n 213 ⟨L,nx⟩ (t++vs.flatMap (zAa k))) (zQM n b):=by
 refine zPU Tryz.f185 (hrd:=(by cases b<;>simp[zQM]<;>(try simp[zJc]at hm)<;>omega)) ?_;intro F3 hF1 hF2;simp only[Tryz.f185,go_sem,meths];refine loopK.intro _ _ (I:=fun i:Nat=>⟨[some (.ptr n 0 0),some (.int .i64 k),none,none,none,none,none,none,none,none,some (.fs 1 (vs.map eN)),some (.int .i64 vs.length),some (.int .i64 i)]++oz 15,
  if i=0 then [] else zGF b++zDk n 213 ⟨L+1,1000*i+480⟩ (t++(vs.take i).flatMap (zAa k)),1000*(i+1)⟩) (pre:=fun i=>i≤vs.length) (μ:=fun i=>vs.length-i) 0 (by omega) ?_ ?_
 ·exact Sub.of (hfz hF2) (by simp only[go_sem,zAf,and_self,zW,zG]) (by simp[zAi]) (by simp only[go_sem,zAs]) (by simp)
 ·intro i hi;by_cases hlt:i<vs.length
  ·have f1:decide ((i:Int)<(vs.length:Int))=true:=dT (by omega);have r0:(vs.map eN).getD i []=[.int .i64 (vs.getD i 0:Nat)]:=by simp[hlt,zE,eN]
   have hvi:=hv (vs.getD i 0) (by rw[zE,zS hlt];simp);have hpl:(zAa k (vs.getD i 0)).length=k:=zAL _ _;have hFb:zL5 F3 n 213 b t:=by
    cases b with
    |none=>exact ⟨hb.1,hb.2.imp fun p h=>(hF1 n (by simp[zQM])).trans h⟩
    |some m=>exact ⟨hb.1,(hF1 n (by simp[zQM])).trans hb.2.1,(hF1 m (by simp[zQM])).trans hb.2.2.1,hb.2.2.2⟩
   have hmL:zJc (L+1) 0 b:=by
    cases b with
    |none=>trivial
    |some m=>simp only[zJc]at hm ⊢;omega
   have hne:zAa k (vs.getD i 0)≠[]:=by intro h;rw[h]at hpl;simp at hpl;omega
   have n1:∀k,(n=(⟨L+1,k⟩:Nm))=False:=zAI (by omega);have n2:∀k,((⟨L+1,k⟩:Nm)=n)=False:=zAF (by omega);have htk:(vs.take i).flatMap (zAa k)++zAa k (vs.getD i 0)=(vs.take (i+1)).flatMap (zAa k):=by
    rw[List.take_add_one,List.flatMap_append,zE,zS hlt];simp
   have hfl:((vs.take i).flatMap (zAa k)).length=i*k:=by
    rw[zKs,wI,uN hi]
   have hik:i*k≤i*7:=Nat.mul_le_mul_left _ hk2;cases i with
   | zero=>
    simp only[f1,r0,zG,go_sem];repeat refine sd1 ?_
    refine CallVC.same (zMq k (vs.getD 0 0) hk1 hk2 hvi) ?_;simp only[go_sem];refine CallVC.same (zEf n 213 (.inl rfl) (by omega) b ?_ t (zAa k (vs.getD 0 0)) hne (by omega) hFb) ?_
    ·cases b with
     |none=>trivial
     |some m=>exact .inl (by simp only[zJc]at hm;omega)
    simp only[go_sem];refine ⟨⟨by omega,by omega⟩,1,by omega,by omega,?_⟩;rw[if_neg (by omega),←htk];simp only[uG,List.flatMap_nil,zF];cases b with
    |none=>
     refine Sub.of (hfz hF2) (by simp only[go_sem,zAf,and_self,zY]) ?_ ?_ (by simp);·simp[zAi,Tx.look,zGF,zDk,zAl,setH,n2]
     ·simp[zAs,keys,zGF,zDk,zAl,setH,n1,n2]
    |some m=>
     have hmn:=hb.2.2.2;have n3:∀k,(m=(⟨L+1,k⟩:Nm))=False:=zAI (by simp only[zJc]at hm;omega);have n4:∀k,((⟨L+1,k⟩:Nm)=m)=False:=zAF (by simp only[zJc]at hm;omega);have n5:(m=n)=False:=by simp[hmn]
     have n6:(n=m)=False:=by simp[Ne.symm hmn]
     refine Sub.of (hfz hF2) (by simp only[go_sem,zAf,and_self,zY]) ?_ ?_ (by simp);·simp[zAi,Tx.look,zGF,zDk,zAl,setH,n2,n4,n6]
     ·simp[zAs,keys,zGF,zDk,zAl,setH,n1,n2,n3,n4,n5,n6]
   | succ i=>
    simp only[f1,r0,zG,go_sem];repeat refine sd1 ?_
    refine CallVC.same (zMq k (vs.getD (i+1) 0) hk1 hk2 hvi) ?_;simp only[go_sem];refine CallVC.same (zEf n 213 (.inl rfl) (by omega) (some ⟨L+1,1000*(i+1)+480⟩) ?_ (t++(vs.take (i+1)).flatMap (zAa k)) (zAa k (vs.getD (i+1) 0)) hne (by rw[zU];omega) ?_) ?_;·exact .inr ⟨rfl,by simp only[];omega⟩
    ·have hlen0:t++(vs.take (i+1)).flatMap (zAa k)≠[]:=by
      intro h;have:=congrArg List.length h;rw[zU,hfl]at this;have:1*1≤(i+1)*k:=uV (by omega) hk1;simp at *;omega
     cases b with
     |none=>exact ⟨hlen0,by simp[Tx.look,zGF,zDk],by simp[Tx.look,zGF,zDk,n2],by simp[n2]⟩
     |some m=>
      have hmn:=hb.2.2.2;have n3:∀k,(m=(⟨L+1,k⟩:Nm))=False:=zAI (by simp only[zJc]at hm;omega);have n4:∀k,((⟨L+1,k⟩:Nm)=m)=False:=zAF (by simp only[zJc]at hm;omega);have n5:(m=n)=False:=by simp[hmn]
      have n6:(n=m)=False:=by simp[Ne.symm hmn]
      exact ⟨hlen0,by simp[Tx.look,zGF,zDk,n6],by simp[Tx.look,zGF,zDk,n2,n4],by simp[n2]⟩
    rw[show (1000*(i+1+1)+32+32+32+32+32+32+32+32+32+32+32+32+32+32+32:Nat)=1000*(i+1+1)+480 by omega];simp only[go_sem];refine ⟨⟨by omega,by omega⟩,i+1+1,by omega,by omega,?_⟩;rw[if_neg (by omega),←htk,←vO];have n7:((⟨L+1,1000*(i+1)+480⟩:Nm)=⟨L+1,1000*(i+1+1)+480⟩)=False:=by simp;omega
    have n8:((⟨L+1,1000*(i+1+1)+480⟩:Nm)=⟨L+1,1000*(i+1)+480⟩)=False:=by simp;omega
    cases b with
    |none=>
     refine Sub.of (hfz hF2) (by simp only[go_sem,zAf,and_self,zY]) ?_ ?_ (by simp only[];omega);·simp only[zAi,Tx.look,zGF,zDk,zAl,setH,n1,n2,n8,zJ,zF,if_true,if_false,and_self]
     ·simp[zAs,keys,zGF,zDk,zAl,setH,n1,n2,n7,n8]
    |some m=>
     have hmn:=hb.2.2.2;have n3:∀k,(m=(⟨L+1,k⟩:Nm))=False:=zAI (by simp only[zJc]at hm;omega);have n4:∀k,((⟨L+1,k⟩:Nm)=m)=False:=zAF (by simp only[zJc]at hm;omega);have n5:(m=n)=False:=by simp[hmn]
     have n6:(n=m)=False:=by simp[Ne.symm hmn]
     refine Sub.of (hfz hF2) (by simp only[go_sem,zAf,and_self,zY]) ?_ ?_ (by simp only[];omega);·simp only[zAi,Tx.look,zGF,zDk,zAl,setH,n1,n2,n3,n4,n5,n6,n8,zJ,zF,if_true,if_false,and_self]
     ·simp[zAs,keys,zGF,zDk,zAl,setH,n1,n2,n3,n4,n5,n6,n7,n8]
  ·have f1:decide ((i:Int)<(vs.length:Int))=false:=dF (by omega);have e:i=vs.length:=by omega
   subst e;have hi0:vs.length≠0:=by intro h;exact hv0 (vI h)
   have n1:∀k,(n=(⟨L+1,k⟩:Nm))=False:=zAI (by omega);have n2:∀k,((⟨L+1,k⟩:Nm)=n)=False:=zAF (by omega);simp only[f1,qI,go_sem];rw[if_neg hi0];have hnd:[1000*vs.length+480].Nodup:=by simp
   cases b with
   |none=>
    refine .now (PostN.val [1000*vs.length+480] (.inl rfl) hnd (p:=True) (v0:=.tup []) rfl trivial (by trivial) rfl ⟨by omega,?_,zH _,?_,trivial⟩ (by simp[UpdAll,keys,zGF,zDk]))
    ·rw[zCd (hn.imp id fun h=>.inl h.2)];exact .ren (by simp[Tx.look,zDk,zGF];rfl) (by simp[zB2,nmA,zDf,Dn];omega) (by simp[Tx.rn,Tx.rnL,zDz (show n.l≤L by omega)];simp[sg])
    ·rw[zDg (by simp)];exact .pure (by simp[Tx.look,zDk,zGF,n2])
   |some m=>
    have hmn:=hb.2.2.2;have n3:∀k,(m=(⟨L+1,k⟩:Nm))=False:=zAI (by simp only[zJc]at hm;omega);have n4:∀k,((⟨L+1,k⟩:Nm)=m)=False:=zAF (by simp only[zJc]at hm;omega);have n6:(n=m)=False:=by simp[Ne.symm hmn]
    refine .now (PostN.val [1000*vs.length+480] (.inl rfl) hnd (p:=True) (v0:=.tup []) rfl trivial (by trivial) rfl ⟨by simp only[zJc]at hm;omega,zFi,by omega,?_,zH _,?_,trivial⟩ (by simp[UpdAll,keys,zGF,zDk]))
    ·rw[zCd (hn.imp id fun h=>.inl h.2)];exact .ren (by simp[Tx.look,zDk,zGF,n6];rfl) (by simp[zB2,nmA,zDf,Dn];omega) (by simp[Tx.rn,Tx.rnL,zDz (show n.l≤L by omega)];simp[sg])
    ·rw[zDg (by simp)];exact .pure (by simp[Tx.look,zDk,zGF,n2,n4])
theorem zMt(a i j:Nat):((⟨a,i⟩:Nm)==⟨a,j⟩)=(i==j):=by
 rw[qB];simp
theorem kS2{i c k:Nat}(h:k<10000):(10000*(i+1)+c=k)=False:=by apply eq_false;omega
theorem zT7{i c k:Nat}(h:k<10000):(k=10000*(i+1)+c)=False:=by apply eq_false;omega
theorem kS3(x c d:Nat):(x+c=x+d)=(c=d):=by simp
theorem zFD{F:SF}{L nx:Nat}(b:Int)(xs:List Int)(h0:0≤b)(h1:b≤32)(hlen:xs.length≤1000000):Con Tryz.prog 69 [.int .i64 b,.fs 1 (xs.map eI)] F L nx nx (.bool (xs.all (zA2 b))) [] []:=by
 refine bdy Tryz.f69 ?_;intro F3 hF1 hF2;simp only[Tryz.f69,go_sem,meths];refine loopK.intro _ _ (I:=fun i:Nat=>⟨[some (.int .i64 b),none,none,none,none,none,none,some (.fs 1 (xs.map eI)),some (.int .i64 xs.length),some (.int .i64 i)]++oz 12,[],1000*(i+1)⟩) (pre:=fun i=>i≤xs.length∧∀j,j<i→zA2 b (xs.getD j 0)=true) (μ:=fun i=>xs.length-i) 0 ⟨by omega,by intro j h;omega⟩ ?_ ?_;·exact Sub.of (hfz hF2) (by simp only[go_sem,zAf,and_self,zG,zW]) trivial trivial (by simp)
 ·rintro i ⟨hi,hp⟩
  have hpw:(1:Int)≤2^b.toNat:=(zRb h0 h1).2;by_cases hlt:i<xs.length
  ·have f1:decide ((i:Int)<(xs.length:Int))=true:=dT (by omega);have r0:=zJ1 xs hlt;have bad:zA2 b (xs.getD i 0)=false→xs.all (zA2 b)=false:=by
    intro h;rw[List.all_eq_false];exact ⟨xs.getD i 0,by rw[zE,zS hlt];simp,by rw[h];decide⟩
   rcases Int.lt_or_le (xs.getD i 0) 0 with hn|hn
   ·have f2:decide (xs.getD i 0<0)=true:=dT hn;simp only[f1,f2,r0,eI,zG,go_sem];repeat refine sd1 ?_
    exact .bool (.inr rfl) rfl (bad (by unfold zA2;rw[dF (show ¬0≤xs.getD i 0 by omega)];rfl)).symm trivial
   ·have f2:decide (xs.getD i 0<0)=false:=dF (by omega);rcases Int.lt_or_le (xs.getD i 0) (2^b.toNat) with hb|hb
    ·have f3:=neF (zTF h0 (by omega) hn hb);simp only[f1,f2,f3,r0,eI,zG,go_sem];repeat refine sd1 ?_
     refine ⟨i+1,⟨by omega,fun j hj=>?_⟩,by omega,?_⟩
     ·rcases wT j i with h|h;·exact hp j h
      ·have:j=i:=by omega
       subst this;unfold zA2;rw[dT hn,dT hb];rfl
     ·exact Sub.of (hfz hF2) (by simp only[go_sem,zAf,and_self,zY]) trivial trivial (by simp;omega)
    ·have f3:((xs.getD i 0).fdiv (2^min b.toNat 64) !=0)=true:=neT (by
      rw[zMf _ h0 (by omega)];have:=Int.le_ediv_of_mul_le (show (0:Int)<2^b.toNat by omega) (show 1*2^b.toNat≤xs.getD i 0 by omega);omega)
     simp only[f1,f2,f3,r0,eI,zG,go_sem];repeat refine sd1 ?_
     exact .bool (.inr rfl) rfl (bad (by unfold zA2;rw[dF (show ¬xs.getD i 0<2^b.toNat by omega)];simp)).symm trivial
  ·have f1:decide ((i:Int)<(xs.length:Int))=false:=dF (by omega);simp only[f1,go_sem];refine .bool (.inr rfl) rfl ?_ trivial;symm;rw[wK];intro x hx;obtain ⟨j,hj,rfl⟩:=List.getElem_of_mem hx;have:=hp j (by omega);simpa[zE,hj] using this
def zT8(kind num last res:Int)(streams:PV):PV:=.agg [.int .i64 kind,.int .i64 num,.int .i64 last,.int .i64 res,streams]
def zT9(xs:List Int):Bool:=(List.range xs.length).all fun i=>zA2 16 (xs.getD i 0)&&(i==0||decide (xs.getD (i-1) 0<xs.getD i 0))
def zRi(kind num last res:Int)(xs:List Int):Bool:=
 zT9 xs&&zA2 32 num&&zA2 32 last&&zA2 8 res&&(if kind=2 then last==0&&xs.isEmpty else kind==1&&res==0&&decide (1≤xs.length)&&decide (xs.length≤30))
theorem zHA{F:SF}{L nx:Nat}{K:PV→List (Nm×SBlk)→List Nm→Nat→Prop}(n:Nm)(hn:n.l<L∨(n.l=L∧n.i<nx))(b:Option Nm)(hm:zJc L nx b)(t:List UInt8)(k:Nat)(kk:Int)(hkk:kk=k)(hk1:1≤k)(hk2:k≤7)(vs:List Nat)(hv:∀v∈vs,v<256^k)(hv0:vs≠[])(hvl:t.length+vs.length*7≤1000000)
  (m:Nm)(l:Nat)(hl:l=vs.length)(hFm:F m=some (.rows 3 1 true true (vs.map eN)))(hmn:n≠m)(hmb:b≠some m)(hb:zL5 F n 213 b t)(t2:List UInt8)(ht2:t2=t++vs.flatMap (zAa k))
  (hk:K (.tup []) ([(m,.rows 3 1 false true (vs.map eN))]++(zGF b++zDk n 213 ⟨L,nx⟩ t2)) ([m]++zQM n b) (nx+1)):CallVC Tryz.prog 185 [.ptr n 0 0,.int .i64 kk,.sl m 0 l] F L nx K:=by
 subst hkk;subst hl;subst ht2;have e1:zAt [.ptr n 0 0,.int .i64 (k:Int),.sl m 0 vs.length] [.ptr n 0 0,.int .i64 (k:Int),.fs 1 (vs.map eN)]=[m]:=by simp[zAt,wkN]
 have e2:unown F [m]=[(m,.rows 3 1 false true (vs.map eN))]:=by simp[unown,hFm]
 refine CallVC.gen (args2:=[.ptr n 0 0,.int .i64 (k:Int),.fs 1 (vs.map eN)]) ?_ (zQN n hn b hm t k hk1 hk2 vs hv hv0 hvl ?_) ?_;·simp[Wk,WkL,hFm,zQ]
 ·rw[e1,e2];have hx:∀q,q≠m→(F.upd [(m,.rows 3 1 false true (vs.map eN))]) q=F q:=by intro q hq;simp[SF.upd,SF.set,hq]
  cases b with
  |none=>exact ⟨hb.1,hb.2.imp fun p h=>(hx n hmn).trans h⟩
  |some m2=>exact ⟨hb.1,(hx n hmn).trans hb.2.1,(hx m2 (fun e=>hmb (by rw[e]))).trans hb.2.2.1,hb.2.2.2⟩
 ·rw[e1,e2];exact hk
theorem zBA{b x:Int}(h:zA2 b x=true):x=(x.toNat:Int)∧x.toNat<2^b.toNat:=by
 simp only[zA2,zC,decide_eq_true_eq]at h;have e:((x.toNat:Nat):Int)=x:=by omega
 refine ⟨e.symm,?_⟩;have h2:=h.2;rw[←e]at h2
 exact_mod_cast h2
theorem zMu{F:SF}{L nx:Nat}(ty:TypeId)(v:PV)(fv:FuncId)(h1:Meths.get meths ty "tannoy/chunk.valid" =some fv)(hv:∀(F:SF) (L nx:Nat),Con Tryz.prog fv [v] F L nx nx (.bool false) [] []):
  Con Tryz.prog 94 [.ifc ty v] F L nx nx (.tup [.agg [.int .i64 0,.int .i64 0,.str []],.int .i64 320]) [] []:=by
 refine bdy Tryz.f94 ?_;intro F3 hF1 hF2;simp only[Tryz.f94,h1,go_sem];refine CallVC.same (hv _ _ _) ?_;simp only[go_sem];exact ps0
theorem zLn{F:SF}{L nx:Nat}(ty:TypeId)(v:PV)(fv fw:FuncId)(h1:Meths.get meths ty "tannoy/chunk.valid" =some fv)(h2:Meths.get meths ty "tannoy/chunk.write" =some fw)(hv:∀(F:SF) (L nx:Nat),Con Tryz.prog fv [v] F L nx nx (.bool true) [] [])
  (kind flags:Int)(t:List UInt8)(ht:t≠[])(htl:t.length≤1000000)(hw:∀(F:SF) (L nx:Nat) (n:Nm),(n.l<L∨(n.l=L∧n.i<nx))→zL5 F n 213 none []→Con Tryz.prog fw [v,.ptr n 0 0] F L nx (nx+1) (.tup [.int .i64 kind,.int .i64 flags]) (zDk n 213 ⟨L,nx⟩ t) [n]):
  Con Tryz.prog 94 [.ifc ty v] F L nx nx (.tup [.agg [.int .i64 kind,.int .i64 flags,.str t],.int .i64 0]) [] []:=by
 refine bdy Tryz.f94 ?_;intro F3 hF1 hF2;simp only[Tryz.f94,h1,go_sem];refine CallVC.same (hv _ _ _) ?_;simp only[h2,go_sem];refine CallVC.same (hw _ _ _ ⟨L+1,128⟩ (by simp) ⟨rfl,true,by simp⟩) ?_;simp only[zDk,go_sem];refine CallVC.same (zLm ⟨L+1,128⟩ 213 (by simp) ⟨L+1,192⟩ (by simp) t htl ⟨ht,by simp,by simp,by simp⟩) ?_;simp only[go_sem];exact ps0
def zRj(kind num last res:Int)(xs:List Int):List UInt8:=
 if kind=2 then zAa 1 2++zAa 4 num.toNat++zAa 1 res.toNat else zAa 1 1++zAa 4 num.toNat++(zAa 4 last.toNat++(xs.map Int.toNat).flatMap (zAa 2))
theorem zUA{a b:Nat}(ha:a<2^8)(hb:b<2^8):Sx.zFU .xor .u8 (a:Int) (b:Int)=((a ^^^ b:Nat):Int):=by
 show IntKind.u8.wrap ((BitVec.ofInt 8 (a:Int) ^^^ BitVec.ofInt 8 (b:Int)).toNat:Int)=_;rw[vY,vY,BitVec.toNat_xor,vU,vU,wD (by omega),wD (by omega)];have:=Nat.xor_lt_two_pow ha hb;rw[IntKind.wrap_u8];omega
def byN(v:Nat):UInt8:=UInt8.ofNat (v%256)
structure Ckx where
 kd:Int
 fl:Int
 bd:List UInt8
def Ckx.row(c:Ckx):List PV:=[.int .i64 c.kd,.int .i64 c.fl,.str c.bd]
structure Pkx where
 fr:Int
 tt:Int
 tg:Int
 cs:List Ckx
def Pkx.row(p:Pkx):List PV:=[.int .i64 p.fr,.int .i64 p.tt,.int .i64 p.tg,.fs 3 (p.cs.map Ckx.row)]
def Ckx.ok(c:Ckx):Bool:=(zA2 8 c.kd&&zA2 8 c.fl)&&decide (c.bd.length≤1200)
def Ckx.sz(c:Ckx):Nat:=4+(c.bd.length+3)/4*4
def szs(cs:List Ckx):Nat:=(cs.map Ckx.sz).sum
def Pkx.hd(p:Pkx):Bool:=(zA2 16 p.fr&&zA2 16 p.tt)&&zA2 32 p.tg&&decide (1≤p.cs.length)&&decide (p.cs.length≤40)
def Pkx.ok(p:Pkx):Bool:=p.hd&&p.cs.all Ckx.ok&&decide (12+szs p.cs≤1200)
theorem zRk{cs:List Ckx}{i:Nat}(h:i<cs.length):(cs.map Ckx.row).getD i []=cs[i].row:=by
 rw[zE,wE,zS h];rfl
theorem zOo{cs:List Ckx}{i:Nat}(h:i<cs.length):szs (cs.take (i+1))=szs (cs.take i)+cs[i].sz:=by
 rw[List.take_add_one,zS h,szs,wQ,List.sum_append];rfl
theorem zPW:∀{cs:List Ckx},(∀c∈cs,c.bd.length≤1000000)→szs cs≤cs.length*1000010
 | [],_=>by simp[szs]
 |c::l,h=>by
  have h1:=zPW (cs:=l) (fun d hd=>h d (by simp[hd]));have h2:=h c (by simp);have e:szs (c::l)=c.sz+szs l:=by simp[szs]
  rw[e,vC,wF,Ckx.sz];omega
theorem zEI {F : SF} {L nx : Nat} (p : Pkx) (hlen : p.cs.length ≤ 1000000) (hb : ∀ c ∈ p.cs,c.bd.length≤1000000):Con Tryz.prog 37 [.agg p.row] F L nx nx (.int .i64 (if p.ok then 0 else 320)) [] []:=by
  refine bdy Tryz.f37 ?_;intro F3 hF1 hF2;obtain ⟨fr,tt,tg,cs⟩:=p;simp only at hlen hb;unfold Pkx.ok Pkx.hd;simp only[Tryz.f37,Pkx.row,go_sem,meths];repeat refine sd2 ?_
  refine CallVC.pure (args2:=[_,.fs 1 ([fr,tt].map eI)]) ⟨rfl,by simp[Wk,eI],trivial⟩ (zFD 16 [fr,tt] (by omega) (by omega) (by simp)) rfl ?_;have e1:[fr,tt].all (zA2 16)=(zA2 16 fr&&zA2 16 tt):=by simp
  have e2:[tg].all (zA2 32)=zA2 32 tg:=by simp
  cases h1:(zA2 16 fr&&zA2 16 tt) with
  | false=>
    have f0:(!false)=true:=rfl;simp only[e1,h1,f0,zX,go_sem];repeat refine sd2 ?_
    exact PostF.rs (v0:=.int .i64 320) (.inr rfl)
  | true=>
    have f0:(!true)=false:=rfl;simp only[e1,h1,f0,zR,go_sem];repeat refine sd2 ?_
    refine CallVC.pure (args2:=[_,.fs 1 ([tg].map eI)]) ⟨rfl,by simp[Wk,eI],trivial⟩ (zFD 32 [tg] (by omega) (by omega) (by simp)) rfl ?_;cases h2:zA2 32 tg with
    | false=>
      have f0:(!false)=true:=rfl;simp only[e2,h2,f0,zX,go_sem];repeat refine sd2 ?_
      exact PostF.rs (v0:=.int .i64 320) (.inr rfl)
    | true=>
      cases h3:decide (1≤cs.length) with
      | false=>
        have h3':cs.length<1:=by simpa using h3
        have k1:decide ((cs.length:Int)<1)=true:=dT (by omega);simp only[e2,h2,k1,f0,zR,zX,zG,go_sem];repeat refine sd2 ?_
        exact PostF.rs (v0:=.int .i64 320) (.inr rfl)
      | true=>
        have h3':1≤cs.length:=by simpa using h3
        have k1:decide ((cs.length:Int)<1)=false:=dF (by omega);cases h4:decide (cs.length≤40) with
        | false=>
          have h4':40<cs.length:=by simpa using h4
          have k2:decide ((cs.length:Int)>40)=true:=dT (by omega);have k2':decide ((40:Int)<cs.length)=true:=dT (by omega);simp only[e2,h2,k1,k2,f0,zR,zX,zG,go_sem];repeat refine sd2 ?_
          exact PostF.rs (v0:=.int .i64 320) (.inr rfl)
        | true=>
          have h4':cs.length≤40:=by simpa using h4
          have k2:decide ((cs.length:Int)>40)=false:=dF (by omega);have k2':decide ((40:Int)<cs.length)=false:=dF (by omega);simp only[e2,h2,k1,k2,f0,zR,zG,go_sem];repeat refine sd2 ?_
          refine loopK.intro _ _ (I:=fun i:Nat=>⟨[none,none,some (.int .i64 0),some (.int .i64 ((12+szs (cs.take i):Nat):Int))]++oz 29++[some (.fs 3 (cs.map Ckx.row)),some (.int .i64 cs.length),some (.int .i64 i)]++oz 28,[],10000*(i+1)⟩)
            (pre:=fun i=>i≤cs.length∧(cs.take i).all Ckx.ok=true) (μ:=fun i=>cs.length-i) 0 ⟨by omega,by simp⟩ ?_ ?_
          · refine Sub.of (hfz hF2) (by simp only[szs,uG,wM,List.sum_nil,go_sem,zAf,and_self,zW];try trivial) ?_ (by simp[zAs,keys]) (by simp)
            simp[zAi]
          · rintro i ⟨hi,hall⟩
            simp only at hi hall ⊢;have hsz:szs (cs.take i)≤40*1000010:=by
              have:=zPW (cs:=cs.take i) (fun c h=>hb c (vR h));have h5:=wN 1000010 (show (cs.take i).length≤40 by rw[wI];omega);exact vP this h5
            by_cases hlt:i<cs.length
            · have k3:decide ((i:Int)<(cs.length:Int))=true:=dT (by omega)
              have r0:=zRk hlt;have hmem:=uH hlt;have hs:=zOo hlt;have ha:(cs.take (i+1)).all Ckx.ok=(cs[i]).ok:=by
                rw[List.take_add_one,zS hlt,List.all_append,hall];simp
              obtain ⟨c,hc⟩:∃c,c=cs[i]:=⟨_,rfl⟩;rw[←hc]at r0 hmem hs ha;have hbl:=hb c hmem;simp only[k3,r0,Ckx.row,zG,kS3,zA,go_sem];repeat refine sd2 ?_
              refine CallVC.pure (args2:=[_,.fs 1 ([c.kd,c.fl].map eI)]) ⟨rfl,by simp[Wk,eI],trivial⟩ (zFD 8 [c.kd,c.fl] (by omega) (by omega) (by simp)) rfl ?_;have e3:[c.kd,c.fl].all (zA2 8)=(zA2 8 c.kd&&zA2 8 c.fl):=by simp
              have hno:c.ok=false→cs.all Ckx.ok=false:=fun h=>List.all_eq_false.2 ⟨c,hmem,by simp[h]⟩
              cases h6:(zA2 8 c.kd&&zA2 8 c.fl) with
              | false=>
                have f1:(!false)=true:=rfl;have hv:=hno (by simp[Ckx.ok,h6]);simp only[e3,h6,f1,hv,zX,zA,go_sem];repeat refine sd2 ?_
                exact PostF.rs (v0:=.int .i64 320) (.inr rfl)
              | true=>
                by_cases h7:1200<c.bd.length
                · have k4:decide ((c.bd.length:Int)>1200)=true:=dT (by omega)
                  have k4':decide ((1200:Int)<c.bd.length)=true:=dT (by omega);have hv:=hno (by simp[Ckx.ok];intros;omega);simp only[e3,h6,f0,k4,hv,zX,kS3,zA,go_sem];repeat refine sd2 ?_
                  exact PostF.rs (v0:=.int .i64 320) (.inr rfl)
                · have k4:decide ((c.bd.length:Int)>1200)=false:=dF (by omega)
                  have k4':decide ((1200:Int)<c.bd.length)=false:=dF (by omega);have hcok:c.ok=true:=by simp only[Ckx.ok,h6,zR,decide_eq_true_eq];omega
                  have q1:((c.bd.length:Int)+3).tdiv 4=(((c.bd.length+3)/4:Nat):Int):=by rw[uJ (by omega)];omega
                  simp only[e3,h6,f0,k4,q1,kS3,zA,go_sem];repeat refine sd2 ?_
                  refine ⟨i+1,⟨by omega,by rw[ha];exact hcok⟩,by omega,?_⟩;have e5:((12+szs (cs.take (i+1)):Nat):Int)=((12+szs (cs.take i):Nat):Int)+(4+(((c.bd.length+3)/4:Nat):Int)*4):=by rw[hs,Ckx.sz];omega
                  refine Sub.of (hfz hF2) (by simp only[e5,go_sem,zAf,and_self,zY];try trivial) ?_ (by simp[zAs,keys]) (by simp only[];omega);simp[zAi]
            · have hin:i=cs.length:=by omega
              subst hin;have k3:decide ((cs.length:Int)<(cs.length:Int))=false:=dF (by omega);rw[qI]at hall hsz ⊢;cases h5:decide (12+szs cs≤1200) with
              | false=>
                have k4 : decide (((12 + szs cs : Nat) : Int) > 1200) = true := dT (by have:¬(12+szs cs≤1200):=by simpa using h5
                                                                                       omega)
                simp only[k3,k4,hall,zR,zA,go_sem];repeat refine sd2 ?_
                exact PostF.rs (v0:=.int .i64 320) (.inr rfl)
              | true=>
                have k4 : decide (((12 + szs cs : Nat) : Int) > 1200) = false := dF (by have:12+szs cs≤1200:=by simpa using h5
                                                                                        omega)
                simp only[k3,k4,hall,zR,zA,go_sem];repeat refine sd2 ?_
                exact PostF.rs (v0:=.int .i64 0) (.inr rfl)
theorem zLo{F:SF}{L nx:Nat}(n:Nm)(e:TypeId)(he:e=213∨e=133)(hn:n.l<L∨(n.l=L∧n.i<nx))(m:Nm)(hm:m.l<L∨(m.l=L∧m.i<nx))(t s:List UInt8)(hsl:t.length+s.length≤1000000)(hb:zL5 F n e (some m) t):
  Con Tryz.prog 61 [.ptr n 0 0,.str s] F L nx (nx+1) (.tup [.int .i64 s.length,.nilI]) ((m,.dead)::zDk n e ⟨L,nx⟩ (t++s)) [n,m]:=by
 refine zPU Tryz.f61 (hrd:=(by simp;omega)) ?_;intro F3 hF1 hF2;obtain ⟨ht,hb1,hb2,hmn⟩:=hb;have hFn:=(hF1 n (by simp)).trans hb1;have hFm:=(hF1 m (by simp)).trans hb2;have n1:∀k,(n=(⟨L+1,k⟩:Nm))=False:=zAI (by omega);have n2:∀k,((⟨L+1,k⟩:Nm)=n)=False:=zAF (by omega);have n3:∀k,(m=(⟨L+1,k⟩:Nm))=False:=zAI (by omega);have n4:∀k,((⟨L+1,k⟩:Nm)=m)=False:=zAF (by omega);have n5:(m=n)=False:=by simp[hmn]
 have n6:(n=m)=False:=by simp[Ne.symm hmn]
 simp only[Tryz.f61,go_sem,meths];refine CallVC.same (zFC n e he _ (by omega) (by simp[hFn];rfl)) ?_;simp only[hFn,hFm,n1,n4,n6,go_sem];have e1:List.map (fun b:UInt8=>[PV.int .u8 b.toNat]) s=s.map zBY:=rfl;rw[e1];simp only[zG];refine ⟨⟨trivial,by omega,by omega⟩,?_⟩;refine .now (PostN.val [288] (.inr rfl) (by simp) (p:=True) (v0:=.tup [.int .i64 s.length,.nilI]) ?_ trivial ?_ ?_ ⟨by omega,?_,by omega,?_,zH _,?_,trivial⟩ ?_);·simp only[go_sem]
 ·simp[nmA,zDf]
 ·simp[Tx.rn,Tx.rnL]
 ·exact zFi
 ·rw[zCd (hn.imp id fun h=>.inl h.2)];exact .ren (by simp[Tx.look,n1,n6];rfl) (by simp[zB2,nmA,zDf,Dn];omega) (by simp[Tx.rn,Tx.rnL,zDz (show n.l≤L by omega)];simp[sg])
 ·rw[zDg (by simp)];exact .pure (by simp[Tx.look,n4])
 ·simp[UpdAll,keys,zDk]
structure Ini where
 tag:Int
 win:Int
 out:Int
 inn:Int
 tsn:Int
 ck:List UInt8
 deriving DecidableEq
def Ini.row(d:Ini):List PV:=[.int .i64 d.tag,.int .i64 d.win,.int .i64 d.out,.int .i64 d.inn,.int .i64 d.tsn,.str d.ck]
def Ini.ok(d:Ini):Bool:=(zA2 32 d.tag&&(zA2 32 d.win&&zA2 32 d.tsn))&&((zA2 16 d.out&&zA2 16 d.inn)&&(decide (0<d.tag)&&(decide (0<d.out)&&(decide (0<d.inn)&&decide ((d.ck.length:Int)≤200)))))
theorem zIY{F:SF}{L nx:Nat}(d:Ini):Con Tryz.prog 183 [.agg d.row] F L nx nx (.bool d.ok) [] []:=by
 refine bdy Tryz.f183 ?_;intro F3 hF1 hF2;obtain ⟨tag,win,out,inn,tsn,ck⟩:=d;unfold Ini.ok;simp only[Tryz.f183,Ini.row,go_sem,meths];refine CallVC.pure (args2:=[_,.fs 1 ([tag,win,tsn].map eI)]) ⟨rfl,by simp[Wk,eI],trivial⟩ (zFD 32 [tag,win,tsn] (by omega) (by omega) (by simp)) rfl ?_;cases h1:(zA2 32 tag&&(zA2 32 win&&zA2 32 tsn)) with
 |false=>
  simp only[h1,go_sem];exact .bool (.inr rfl) rfl rfl (by simp[UpdAll])
 | true=>
  simp only[h1,go_sem];refine CallVC.pure (args2:=[_,.fs 1 ([out,inn].map eI)]) ⟨rfl,by simp[Wk,eI],trivial⟩ (zFD 16 [out,inn] (by omega) (by omega) (by simp)) rfl ?_;cases h2:(zA2 16 out&&zA2 16 inn) with
  |false=>
   simp only[h2,go_sem];exact .bool (.inr rfl) rfl rfl (by simp[UpdAll])
  | true=>
   cases h3:decide (0<tag) with
   |false=>
    simp only[h2,h3,go_sem];exact .bool (.inr rfl) rfl rfl (by simp[UpdAll])
   | true=>
    cases h4:decide (0<out) with
    |false=>
     simp only[h2,h3,h4,go_sem];exact .bool (.inr rfl) rfl rfl (by simp[UpdAll])
    | true=>
     cases h5:decide (0<inn) with
     |false=>
      simp only[h2,h3,h4,h5,go_sem];exact .bool (.inr rfl) rfl rfl (by simp[UpdAll])
     |true=>
      simp only[h2,h3,h4,h5,go_sem];exact .bool (.inr rfl) rfl (by simp) (by simp[UpdAll])
def zJd(tag win out inn tsn:Nat)(ck:List UInt8):List UInt8:=zAa 4 tag++zAa 4 win++(zAa 2 out++zAa 2 inn)++zAa 4 tsn++ck
def zCq(ck:List UInt8):Int:=if ck=[] then 1 else 2
theorem zIZ{F:SF}{L nx:Nat}(n:Nm)(hn:n.l<L∨(n.l=L∧n.i<nx))(tag win out inn tsn:Nat)(ck:List UInt8)(h1:tag<256^4)(h2:win<256^4)(h3:out<256^2)(h4:inn<256^2)(h5:tsn<256^4)(hpl:ck.length≤1100)(hb:zL5 F n 213 none []):
  Con Tryz.prog 184 [.agg (Ini.mk tag win out inn tsn ck).row,.ptr n 0 0] F L nx (nx+1) (.tup [.int .i64 (zCq ck),.int .i64 0]) (zDk n 213 ⟨L,nx⟩ (zJd tag win out inn tsn ck)) [n]:=by
 refine zPU Tryz.f184 (hrd:=(by simp;omega)) ?_;intro F3 hF1 hF2;have hFb:zL5 F3 n 213 none []:=⟨rfl,hb.2.imp fun p h=>(hF1 n (by simp)).trans h⟩;have n1:∀k,(n=(⟨L+1,k⟩:Nm))=False:=zAI (by omega);have n2:∀k,((⟨L+1,k⟩:Nm)=n)=False:=zAF (by omega);unfold zJd;simp only[Tryz.f184,Ini.row,go_sem,meths];obtain ⟨t1,e1⟩:∃t,t=zAa 4 tag++zAa 4 win:=⟨_,rfl⟩;obtain ⟨t2,e2⟩:∃t,t=t1++(zAa 2 out++zAa 2 inn):=⟨_,rfl⟩;obtain ⟨t3,e3⟩:∃t,t=t2++zAa 4 tsn:=⟨_,rfl⟩;have l1:t1.length=8:=by rw[e1,zU,zAL,zAL]
 have l2:t2.length=12:=by rw[e2,zU,zU,zAL,zAL,l1]
 have l3:t3.length=16:=by rw[e3,zU,zAL,l2]
 have z1:t1≠[]:=by intro h;rw[h]at l1;simp at l1
 have z2:t2≠[]:=by intro h;rw[h]at l2;simp at l2
 have z3:t3≠[]:=by intro h;rw[h]at l3;simp at l3
 rw[←e1,←e2,←e3];refine zHA n (.inl (show n.l<L+1 by omega)) none trivial [] 4 4 rfl (by omega) (by omega) [tag,win] (by simp;exact ⟨h1,h2⟩) (by simp) (by simp) ⟨L+1,320⟩ 2 rfl (by simp[eN]) (by intro h;rw[n1]at h;exact h) (by simp) ⟨rfl,hFb.2.imp fun p h=>by simp[h,n1]⟩ t1 (by simp[e1]) ?_;simp only[zGF,zDk,n1,n2,go_sem];refine zHA n (.inl (show n.l<L+1 by omega)) (some ⟨L+1,352⟩) (.inr ⟨rfl,by simp⟩) t1 2 2 rfl (by omega) (by omega) [out,inn] (by simp;exact ⟨h3,h4⟩) (by simp) (by simp;omega) ⟨L+1,577⟩ 2 rfl (by simp[eN,n2]) (by intro h;rw[n1]at h;exact h) (by simp) ⟨z1,by simp[n1],by simp[n2],by simp[n2]⟩ t2 (by simp[e2]) ?_;simp only[zGF,zDk,n1,n2,go_sem];refine zHA n (.inl (show n.l<L+1 by omega)) (some ⟨L+1,609⟩) (.inr ⟨rfl,by simp⟩) t2 4 4 rfl (by omega) (by omega) [tsn] (by simpa using h5) (by simp) (by simp;omega) ⟨L+1,738⟩ 1 rfl (by simp[eN,n2]) (by intro h;rw[n1]at h;exact h) (by simp) ⟨z2,by simp[n1],by simp[n2],by simp[n2]⟩ t3 (by simp[e3]) ?_;simp only[zGF,zDk,n1,n2,go_sem];refine ⟨by kernel_rfl,CallVC.same (zLo n 213 (.inl rfl) (.inl (show n.l<L+1 by omega)) ⟨L+1,770⟩ (.inr ⟨rfl,by simp⟩) t3 ck (by omega) ⟨z3,by simp[n1],by simp[n2],by simp[n2]⟩) ?_⟩;simp only[zDk,n1,n2,go_sem]
 refine ⟨zAA (fun x=>if x=n then 1 else x.i) (by simp only[zA0,List.map,n2,if_true,if_false];kernel_rfl),?_⟩;by_cases hck:ck=[]
 ·have f1:(ck== [])=true:=by simp[hck]
  have k1:zCq ck=1:=by simp[zCq,hck]
  rw[k1];simp only[f1,go_sem];refine .now (PostN.val [963] (.inr rfl) (by simp) (p:=True) (v0:=.tup [.int .i64 1,.int .i64 0]) ?_ trivial ?_ ?_ ⟨by omega,?_,zH _,?_,trivial⟩ ?_);·simp only[go_sem]
  ·simp[nmA,zDf]
  ·simp[Tx.rn,Tx.rnL]
  ·rw[zCd (hn.imp id fun h=>.inl h.2)];exact .ren (by simp[Tx.look,n1];rfl) (by simp[zB2,nmA,zDf,Dn];omega) (by simp[Tx.rn,Tx.rnL,zDz (show n.l≤L by omega)];simp[sg])
  ·rw[zDg (by simp)];exact .pure (by simp[Tx.look,n2])
  ·simp[UpdAll,keys]
 ·have f1:(ck== [])=false:=by simp[hck]
  have k1:zCq ck=2:=by simp[zCq,hck]
  rw[k1];simp only[f1,go_sem];refine .now (PostN.val [963] (.inr rfl) (by simp) (p:=True) (v0:=.tup [.int .i64 2,.int .i64 0]) ?_ trivial ?_ ?_ ⟨by omega,?_,zH _,?_,trivial⟩ ?_);·simp only[go_sem]
  ·simp[nmA,zDf]
  ·simp[Tx.rn,Tx.rnL]
  ·rw[zCd (hn.imp id fun h=>.inl h.2)];exact .ren (by simp[Tx.look,n1];rfl) (by simp[zB2,nmA,zDf,Dn];omega) (by simp[Tx.rn,Tx.rnL,zDz (show n.l≤L by omega)];simp[sg])
  ·rw[zDg (by simp)];exact .pure (by simp[Tx.look,n2])
  ·simp[UpdAll,keys]
theorem zMv:Meths.get meths 184 "tannoy/chunk.valid" =some 183:=by simp[Meths.get,meths]
theorem zQO:Meths.get meths 184 "tannoy/chunk.write" =some 184:=by simp[Meths.get,meths]
def Ini.oct(d:Ini):List UInt8:=zJd d.tag.toNat d.win.toNat d.out.toNat d.inn.toNat d.tsn.toNat d.ck
theorem zC8{F:SF}{L nx:Nat}(d:Ini):Con Tryz.prog 49 [.agg d.row] F L nx nx
   (if d.ok then .tup [.agg [.int .i64 (zCq d.ck),.int .i64 0,.str d.oct],.int .i64 0] else .tup [.agg [.int .i64 0,.int .i64 0,.str []],.int .i64 320]) [] []:=by
 have hva:∀(F:SF) (L nx:Nat),Con Tryz.prog 183 [.agg d.row] F L nx nx (.bool d.ok) [] []:=fun F L nx=>zIY d
 cases hV:d.ok with
 |false=>
  rw[hV]at hva;simp only[if_false,wC];refine bdy Tryz.f49 ?_;intro F3 hF1 hF2;simp only[Tryz.f49,Ini.row,go_sem,meths];refine CallVC.same (zMu 184 _ 183 zMv hva) ?_;simp only[go_sem];exact ps0
 | true=>
  rw[hV]at hva;simp only[if_true];have hB:=hV;unfold Ini.ok at hB;simp only[zC,decide_eq_true_eq]at hB;obtain ⟨⟨b1,b2,b3⟩,⟨b4,b5⟩,b6,b7,b8,b9⟩:=hB;obtain ⟨e1,c1⟩:=zBA b1;obtain ⟨e2,c2⟩:=zBA b2;obtain ⟨e3,c3⟩:=zBA b3;obtain ⟨e4,c4⟩:=zBA b4;obtain ⟨e5,c5⟩:=zBA b5;have hw:∀(F:SF) (L nx:Nat) (n:Nm),(n.l<L∨(n.l=L∧n.i<nx))→zL5 F n 213 none []→Con Tryz.prog 184 [.agg d.row,.ptr n 0 0] F L nx (nx+1) (.tup [.int .i64 (zCq d.ck),.int .i64 0]) (zDk n 213 ⟨L,nx⟩ d.oct) [n]:=by
   intro F L nx n hn hb;have:=zIZ (F:=F) (L:=L) (nx:=nx) n hn d.tag.toNat d.win.toNat d.out.toNat d.inn.toNat d.tsn.toNat d.ck c1 c2 c4 c5 c3 (by omega) hb;rw[←e1,←e2,←e3,←e4,←e5]at this;exact this
  refine bdy Tryz.f49 ?_;intro F3 hF1 hF2;simp only[Tryz.f49,Ini.row,go_sem,meths];refine CallVC.same (zLn 184 _ 183 184 zMv zQO hva (zCq d.ck) 0 d.oct ?_ ?_ hw) ?_
  ·intro h;have:=congrArg List.length h;unfold Ini.oct zJd at this;simp[zAL]at this
  ·unfold Ini.oct zJd;simp only[zU,zAL];omega
  simp only[go_sem];exact ps0
end Go.Proofs.YtifhjhbfhdcahaaGreat
end
section
namespace Go.Tx
open Go.Sx (zAB)
theorem zUq{E:Env}{F:SF}{w:World}(h:HRel E F w){n:Nm}{e:TypeId}{wd:Nat}{o p:Bool}{rs rs1:List (List PV)}(hn:F n=some (.rows e wd o p rs))(l1:rs1.length=rs.length)
  (hl:∀(r:Nat) (row row1:List PV),rs[r]?=some row→rs1[r]?=some row1→row1.length=row.length)
  (hc:∀(r:Nat) (row row1:List PV) (c:Nat) (x y:PV) (u:Value),rs[r]?=some row→rs1[r]?=some row1→row[c]?=some x→row1[c]?=some y→VR w (Zn E F w) (EE E p) x u→VR w (Zn E F w) E y u):
  StepR E F w E (F.set n (.rows e wd o false rs1)) w:=by
 let F4:SF:=F.set n (.rows e wd o false rs1)
 have hown:∀m b,F4 m=some b→b.own=true→∃c,F m=some c∧c.own=true:=by
  intro m b hb ho;simp only[F4,SF.set]at hb;split at hb
  ·rename_i he;subst he;injection hb with hb;subst hb;exact ⟨_,hn,ho⟩
  ·exact ⟨b,hb,ho⟩
 have hlive:∀m b,F4 m=some b→b.live=true→∃c,F m=some c∧c.live=true:=by
  intro m b hb ho;simp only[F4,SF.set]at hb;split at hb
  ·rename_i he;subst he;exact ⟨_,hn,rfl⟩
  ·exact ⟨b,hb,ho⟩
 have hzone:∀q,Zn E F w q→Zn E F4 w q:=by
  rintro q ⟨k1,k2⟩
  refine ⟨k1,fun m b i hm ho hi hz=>?_⟩;obtain ⟨c,c1,c2⟩:=hown m b hm ho;exact k2 m c i c1 c2 hi hz
 have hX:Ext E w (Zn E F w) E w (Zn E F4 w):=⟨Env.le.refl _,hzone,fun _ _=>rfl⟩;have hrel:HRel E F4 w:=by
  refine ⟨fun m b hm=>?_,fun m1 m2 b c i j h1 h2 h12 ho hl hi hj hz1 hz2=>?_⟩
  ·by_cases hmn:m=n
   ·subst hmn;have hb:b= .rows e wd o false rs1:=by
     simp only[F4,SF.set,if_true]at hm;injection hm with hm;exact hm.symm
    subst hb;obtain ⟨i,hi,hor⟩:=h.blk m _ hn;refine ⟨i,hi,?_⟩;rcases hor with ⟨z1,rfl,z3,z4⟩|⟨hz,hRr⟩
    ·refine .inl ⟨z1,?_,z3,z4⟩;exact vI l1
    ·refine .inr ⟨hz,?_⟩;obtain ⟨cs,fz,b1,b2,b3,b4⟩:=hRr.cells;have hlen1:∀row∈rs1,row.length=wd:=by
      intro row hrow;obtain ⟨r,hr⟩:=vW hrow;have hlt:=zAB hr;have hr0:=zS (l:=rs) (i:=r) (by omega);rw[hl r _ row hr0 hr];exact hRr.len _ (zO hr0)
     refine ⟨hRr.wd_eq,hRr.o0,hRr.wd_pos,hlen1,by rw[l1];exact hRr.le,hRr.cap,cs,fz,b1,b2,b3,?_⟩;refine (zAM hlen1).2 fun r row1 c y hr1 hc1=>?_
     have hlt:=zAB hr1;have hr0:=zS (l:=rs) (i:=r) (by omega);have hct:=zAB hc1;have hc0:=zS (l:=rs[r]) (i:=c) (by rw[←hl r _ row1 hr0 hr1];exact hct);obtain ⟨u,a1,a2,a3⟩:=(zAM hRr.len).1 b4 r _ c _ hr0 hc0;exact ⟨u,a1,a2,VR.mono hX _ _ (hc r _ row1 c _ y u hr0 hr1 hc0 hc1 a3)⟩
   ·have hm':F m=some b:=by simp only[F4,SF.set,if_neg hmn]at hm;exact hm
    exact (h.blk m b hm').mono hX fun _ _ _=>rfl
  ·obtain ⟨c1,d1,d2⟩:=hown m1 b h1 ho;obtain ⟨c2,e1,e2⟩:=hlive m2 c h2 hl;exact h.sep m1 m2 c1 c2 i j d1 e1 h12 d2 e2 hi hj hz1 hz2
 refine ⟨Env.le.refl _,hrel,rfl,rfl,rfl,zH _,fun _ _ _=>rfl,fun m b i hm ho hi hz=>?_⟩;obtain ⟨c,c1,c2⟩:=hown m b hm ho;exact .inr ⟨m,c,i,c1,c2,hi,hz,rfl⟩
theorem zU0{L:Nat}{F0:SF}{t:List (Option PV)}{H:List (Nm×SBlk)}{nx:Nat}{n:Nm}{e e2:TypeId}{wd wd2:Nat}{o p:Bool}{row row1:List PV}(hwd:0<wd2)(hn:look F0 H n=some (.rows e wd o p [row]))(hne:n≠⟨L,nx⟩)(hl:row1.length=row.length)
  (hc:∀c:Nat,row1[c]?=row[c]?∨(row[c]?=some PV.nilS∧row1[c]?=some (PV.sl ⟨L,nx⟩ 0 0))):
  Sub L F0 ⟨t,H,nx⟩ ⟨t,zAl H [(⟨L,nx⟩,.rows e2 wd2 true true []),(n,.rows e wd o false [row1])],nx+1⟩:=by
 intro B E0 w0 E a w hd0 hR;have hf:=(hR.fresh hd0).1 nx (zH _);have hS:=zUe hR.step.rel hf e2 hwd true none;have hn1:((look F0 H).set ⟨L,nx⟩ (.rows e2 wd2 true true [])) n=some (.rows e wd o p [row]):=by simp only[SF.set,if_neg hne];exact hn
 have hEE:Ext (EE (E.set ⟨L,nx⟩ ⟨0,0,wd2,0,true,none⟩) p) w (Zn (E.set ⟨L,nx⟩ ⟨0,0,wd2,0,true,none⟩) ((look F0 H).set ⟨L,nx⟩ (.rows e2 wd2 true true [])) w) (E.set ⟨L,nx⟩ ⟨0,0,wd2,0,true,none⟩) w (Zn (E.set ⟨L,nx⟩ ⟨0,0,wd2,0,true,none⟩) ((look F0 H).set ⟨L,nx⟩ (.rows e2 wd2 true true [])) w):=by
  refine ⟨?_,fun _ h=>h,fun _ _=>rfl⟩;cases p;·exact Env.le.refl _
  ·intro k i hk;cases hk
 have hS2:=zUq hS.rel hn1 (rs1:=[row1]) rfl (by
   intro r row' row1' h1 h2;cases r with
   |zero=>simp at h1 h2;subst h1;subst h2;exact hl
   |succ r=>simp at h1) (by
   intro r row' row1' c x y u h1 h2 h3 h4 h5;cases r with
   |succ r=>simp at h1
   |zero=>
    simp at h1 h2;subst h1;subst h2;rcases hc c with h|⟨ha,hb⟩
    ·rw[h4,h3]at h;injection h with h;subst h;exact VR.mono hEE _ _ h5
    ·rw[h3]at ha;injection ha with ha;subst ha;rw[h4]at hb;injection hb with hb;subst hb;simp only[VR]at h5 ⊢;subst h5;exact ⟨_,zUO _ _ _,.inl ⟨rfl,trivial,rfl⟩⟩)
 have hT:=hS.trans hS2;have hlk:look F0 (zAl H [(⟨L,nx⟩,SBlk.rows e2 wd2 true true []),(n,.rows e wd o false [row1])])=((look F0 H).set ⟨L,nx⟩ (.rows e2 wd2 true true [])).set n (.rows e wd o false [row1]):=by rw[zAP];rfl
 refine ⟨E.set ⟨L,nx⟩ ⟨0,0,wd2,0,true,none⟩,by rw[hlk];exact hR.step.trans hT,⟨by simpa using hR.tmps.size,fun i v hv=>?_⟩,by rw[hlk];exact hR.marks.mono hT.ext,fun m h1 h2=>?_⟩
 ·obtain ⟨v',a1,a2⟩:=hR.tmps.val i v hv;exact ⟨v',a1,by rw[hlk];exact VR.mono hT.ext _ _ a2⟩
 ·by_cases he:m=⟨L,nx⟩;·subst he;exact ⟨rfl,by simp⟩
  ·rw[zUP E _ he]at h2;have:=hR.news m h1 h2;exact ⟨this.1,by simp only at this ⊢;omega⟩
end Go.Tx
end
section
namespace Go.Proofs.YtifhjhbfhdcahaaGreat
open Go.Tx
set_option maxRecDepth 100000
set_option maxHeartbeats 16000000
theorem zQP{L:Nat}{G:SF}{ob:Option SBlk}:BW L G ob .dead:=by
 cases ob with
 |none=>trivial
 |some b=>cases b<;>trivial
def OfOk(g:FuncId)(xs ys:List PV)(s:List UInt8)(v:PV)(p:Nat)(F:SF)(rds:List Nm):Prop:=
 ∀(F':SF) (L:Nat) (r:Nm) (nx:Nat),(∀n∈rds,F' n=F n)→r.l≤L→(∀n∈rds,n.l≤L)→F' r=some (rdB s 0)→Con Tryz.prog g (xs++[.ptr r 0 0]++ys) F' L nx nx v [(r,rdB s p)] (r::rds)
def OfDie(g:FuncId)(xs ys:List PV)(s:List UInt8)(F:SF)(rds:List Nm):Prop:=
 ∀(F':SF) (L:Nat) (r:Nm),(∀n∈rds,F' n=F n)→r.l≤L→(∀n∈rds,n.l≤L)→F' r=some (rdB s 0)→DCon Tryz.prog chM g (xs++[.ptr r 0 0]++ys) F' L [(r,.dead)] (r::rds)
def zMx(gp:FuncId)(l:List PV)(k fl:Int)(b:List UInt8)(e:Int):Prop:=
 ∀(F:SF) (L nx:Nat),Con Tryz.prog gp [.agg l] F L nx nx (.tup [.agg [.int .i64 k,.int .i64 fl,.str b],.int .i64 e]) [] []
theorem OfOk.agree{g:FuncId}{xs ys:List PV}{s:List UInt8}{v:PV}{p:Nat}{F F2:SF}{rds:List Nm}(h:OfOk g xs ys s v p F rds)(ha:∀n∈rds,F2 n=F n):OfOk g xs ys s v p F2 rds:=
 fun F' L r nx h1=>h F' L r nx fun n hn=>(h1 n hn).trans (ha n hn)
theorem OfDie.agree{g:FuncId}{xs ys:List PV}{s:List UInt8}{F F2:SF}{rds:List Nm}(h:OfDie g xs ys s F rds)(ha:∀n∈rds,F2 n=F n):OfDie g xs ys s F2 rds:=
 fun F' L r h1=>h F' L r fun n hn=>(h1 n hn).trans (ha n hn)
def zRl(g gp:FuncId)(xs ys:List PV)(s:List UInt8)(k fl:Int)(w:Nat)(F:SF)(rds:List Nm):Prop:=
 OfDie g xs ys s F rds∨(∃l p,l.length=w∧nfl l=true∧p≠s.length∧OfOk g xs ys s (.agg l) p F rds)∨
 (∃l k2 fl2 e2 b2,l.length=w∧nfl l=true∧OfOk g xs ys s (.agg l) s.length F rds∧zMx gp l k2 fl2 b2 e2∧¬(e2=0∧k2=k∧fl2=fl∧b2=s))
theorem zKG{F:SF}{L nx:Nat}(r nof npt nc:Nm)(hr:r.l≤L)(hof:nof.l≤L)(hpt:npt.l≤L)(hc:nc.l≤L)(d1:nof≠r)(d2:npt≠r)(d3:nc≠r)(s:List UInt8)(hl:s.length≤1000000)(k fl:Int)(eo ep:TypeId)(oo op po pp oc:Bool)(g gp:FuncId)(xs ys:List PV)(l:List PV)(hlw:l.length=6)(hnf:nfl l=true)(rds:List Nm)(hrd:∀n∈rds,n.l≤L∧n≠r)
  (hFr:F r=some (rdB s 0))(hFo:F nof=some (.rows eo 1 oo po [[.fn (.func g) xs ys]]))(hFp:F npt=some (.rows ep 1 op pp [[.fn (.func gp) [] []]]))(hFc:F nc=some (.rows 73 3 oc true [[.int .i64 k,.int .i64 fl,.str s]]))
  (hg:OfOk g xs ys s (.agg l) s.length F rds)(hp:zMx gp l k fl s 0):Con Tryz.prog 90 [.ptr r 0 0,.ptr nof 0 0,.ptr npt 0 0,.ptr nc 0 0] F L nx nx (.agg l) [(r,.dead)] (r::nof::npt::nc::rds):=by
 refine bdy Tryz.f90 (hrd:=(by intro n hn;simp at hn;rcases hn with rfl|rfl|rfl|rfl|hn<;>first|assumption|exact (hrd n hn).1)) ?_;intro F3 hF1 hF2;have kr:F3 r=some (rdB s 0):=(hF1 r (by simp)).trans hFr;have ko:F3 nof=some (.rows eo 1 oo po [[.fn (.func g) xs ys]]):=(hF1 nof (by simp)).trans hFo;have kp:F3 npt=some (.rows ep 1 op pp [[.fn (.func gp) [] []]]):=(hF1 npt (by simp)).trans hFp;have kc:F3 nc=some (.rows 73 3 oc true [[.int .i64 k,.int .i64 fl,.str s]]):=(hF1 nc (by simp)).trans hFc;have n1:∀k,(r=(⟨L+1,k⟩:Nm))=False:=zAI hr;have n2:∀k,((⟨L+1,k⟩:Nm)=r)=False:=zAF hr;have o1:∀k,(nof=(⟨L+1,k⟩:Nm))=False:=zAI hof;have o2:∀k,(npt=(⟨L+1,k⟩:Nm))=False:=zAI hpt;have o3:∀k,(nc=(⟨L+1,k⟩:Nm))=False:=zAI hc;have e1:(nof=r)=False:=eq_false d1;have e2:(npt=r)=False:=eq_false d2;have e3:(nc=r)=False:=eq_false d3;simp only[Tryz.f90,ko,o1,go_sem,meths];refine CallVC.same (hg _ (L+1) r _ (fun n hn=>?_) (by omega) (fun n hn=>by have:=(hrd n hn).1;omega) (by simp[n1,kr])) ?_
 ·have e5:∀k,(n=(⟨L+1,k⟩:Nm))=False:=zAI (hrd n hn).1;simp[e5,hF1 n (by simp[hn])]
 simp only[rdB,kr,n1,n2,hlw,hnf,go_sem];repeat refine sd1 ?_
 refine zUQ zG9 rfl ?_;simp only[kp,n2,o2,e2,go_sem];repeat refine sd1 ?_
 refine zUQ (hp _ _ _) rfl ?_;simp only[kc,n2,o3,e3,go_sem];repeat refine sd1 ?_
 refine zUQ zG9 rfl ?_;simp only[n2,hlw,hnf,go_sem];repeat refine sd1 ?_
 exact PostF.of (p:=True) (v0:=.agg l) (.inr rfl) (by simp only[go_sem]) trivial (zCS _ _).1 (by rw[(zCS (fun _=>none) _).2];simp) (by simp only[Tx.nf];exact hnf) ⟨hr,zQP,trivial⟩ (by simp[UpdAll,keys])
theorem zHY{F:SF}{L:Nat}(r nof npt nc:Nm)(hr:r.l≤L)(hof:nof.l≤L)(hpt:npt.l≤L)(hc:nc.l≤L)(d1:nof≠r)(d2:npt≠r)(d3:nc≠r)(s:List UInt8)(hl:s.length≤1000000)(k fl:Int)(eo ep:TypeId)(oo op po pp oc:Bool)(g gp:FuncId)(xs ys:List PV)(l:List PV)(hlw:l.length=6)(hnf:nfl l=true)(rds:List Nm)(hrd:∀n∈rds,n.l≤L∧n≠r)
  (hFr:F r=some (rdB s 0))(hFo:F nof=some (.rows eo 1 oo po [[.fn (.func g) xs ys]]))(hFp:F npt=some (.rows ep 1 op pp [[.fn (.func gp) [] []]]))(hFc:F nc=some (.rows 73 3 oc true [[.int .i64 k,.int .i64 fl,.str s]]))
  (hg:OfDie g xs ys s F rds):DCon Tryz.prog chM 90 [.ptr r 0 0,.ptr nof 0 0,.ptr npt 0 0,.ptr nc 0 0] F L [(r,.dead)] (r::nof::npt::nc::rds):=by
 refine DCon.body (zAg (L+1)) rfl rfl (fn:=Tryz.f90) (c:=Tryz.f90.body.getD .skip) (by kernel_rfl) (by rfl) (by kernel_rfl) rfl (by intro n hn;simp at hn;rcases hn with rfl|rfl|rfl|rfl|hn<;>first|assumption|exact (hrd n hn).1) ?_;intro F3 hF1 hF2;have kr:F3 r=some (rdB s 0):=(hF1 r (by simp)).trans hFr;have ko:F3 nof=some (.rows eo 1 oo po [[.fn (.func g) xs ys]]):=(hF1 nof (by simp)).trans hFo;have kp:F3 npt=some (.rows ep 1 op pp [[.fn (.func gp) [] []]]):=(hF1 npt (by simp)).trans hFp;have kc:F3 nc=some (.rows 73 3 oc true [[.int .i64 k,.int .i64 fl,.str s]]):=(hF1 nc (by simp)).trans hFc;have n1:∀k,(r=(⟨L+1,k⟩:Nm))=False:=zAI hr;have n2:∀k,((⟨L+1,k⟩:Nm)=r)=False:=zAF hr;have o1:∀k,(nof=(⟨L+1,k⟩:Nm))=False:=zAI hof;have o2:∀k,(npt=(⟨L+1,k⟩:Nm))=False:=zAI hpt;have o3:∀k,(nc=(⟨L+1,k⟩:Nm))=False:=zAI hc;have e1:(nof=r)=False:=eq_false d1;have e2:(npt=r)=False:=eq_false d2;have e3:(nc=r)=False:=eq_false d3;simp only[Tryz.f90,ko,o1,go_sem,meths];refine CallVD.same rfl (hg _ (L+1) r (fun n hn=>?_) (by omega) (fun n hn=>by have:=(hrd n hn).1;omega) (by simp[Tx.look,n1,kr])) ?_
 ·have e5:∀k,(n=(⟨L+1,k⟩:Nm))=False:=zAI (hrd n hn).1;simp[Tx.look,e5,hF1 n (by simp[hn])]
 exact .dead (ns:=[r]) (by simpa using hr) (by simp[UpdAll,zAl,setH,n1,n2])
theorem zHZ{F:SF}{L:Nat}(r nof npt nc:Nm)(hr:r.l≤L)(hof:nof.l≤L)(hpt:npt.l≤L)(hc:nc.l≤L)(d1:nof≠r)(d2:npt≠r)(d3:nc≠r)(s:List UInt8)(hl:s.length≤1000000)(k fl:Int)(eo ep:TypeId)(oo op po pp oc:Bool)(g gp:FuncId)(xs ys:List PV)(l:List PV)(hlw:l.length=6)(hnf:nfl l=true)(rds:List Nm)(hrd:∀n∈rds,n.l≤L∧n≠r)
  (hFr:F r=some (rdB s 0))(hFo:F nof=some (.rows eo 1 oo po [[.fn (.func g) xs ys]]))(hFp:F npt=some (.rows ep 1 op pp [[.fn (.func gp) [] []]]))(hFc:F nc=some (.rows 73 3 oc true [[.int .i64 k,.int .i64 fl,.str s]]))
  (p:Nat)(hps:p≠s.length)(hg:OfOk g xs ys s (.agg l) p F rds):DCon Tryz.prog chM 90 [.ptr r 0 0,.ptr nof 0 0,.ptr npt 0 0,.ptr nc 0 0] F L [(r,.dead)] (r::nof::npt::nc::rds):=by
 refine DCon.body (zAg (L+1)) rfl rfl (fn:=Tryz.f90) (c:=Tryz.f90.body.getD .skip) (by kernel_rfl) (by rfl) (by kernel_rfl) rfl (by intro n hn;simp at hn;rcases hn with rfl|rfl|rfl|rfl|hn<;>first|assumption|exact (hrd n hn).1) ?_;intro F3 hF1 hF2;have kr:F3 r=some (rdB s 0):=(hF1 r (by simp)).trans hFr;have ko:F3 nof=some (.rows eo 1 oo po [[.fn (.func g) xs ys]]):=(hF1 nof (by simp)).trans hFo;have kp:F3 npt=some (.rows ep 1 op pp [[.fn (.func gp) [] []]]):=(hF1 npt (by simp)).trans hFp;have kc:F3 nc=some (.rows 73 3 oc true [[.int .i64 k,.int .i64 fl,.str s]]):=(hF1 nc (by simp)).trans hFc;have n1:∀k,(r=(⟨L+1,k⟩:Nm))=False:=zAI hr;have n2:∀k,((⟨L+1,k⟩:Nm)=r)=False:=zAF hr;have o1:∀k,(nof=(⟨L+1,k⟩:Nm))=False:=zAI hof;have o2:∀k,(npt=(⟨L+1,k⟩:Nm))=False:=zAI hpt;have o3:∀k,(nc=(⟨L+1,k⟩:Nm))=False:=zAI hc;have e1:(nof=r)=False:=eq_false d1;have e2:(npt=r)=False:=eq_false d2;have e3:(nc=r)=False:=eq_false d3;simp only[Tryz.f90,ko,o1,go_sem,meths];refine CallVD.live (CallVC.same (hg _ (L+1) r _ (fun n hn=>?_) (by omega) (fun n hn=>by have:=(hrd n hn).1;omega) (by simp[n1,kr])) ?_)
 ·have e5:∀k,(n=(⟨L+1,k⟩:Nm))=False:=zAI (hrd n hn).1;simp[e5,hF1 n (by simp[hn])]
 simp only[rdB,kr,n1,n2,hlw,hnf,go_sem];have f1:((p:Int)==(s.length:Int))=false:=eqF (by omega);repeat refine sd1 ?_
 refine zVH 12 [] rfl (by simp) rfl (by kernel_rfl) ?_;simp only[f1,rdB,kr,n1,go_sem];refine dieX.same zGP ?_;simp only[go_sem];repeat refine sd1 ?_
 exact fun nz=>PostD.all (ns:=[r]) rfl (by simpa using hr) (by simp[UpdAll,n2]) (by simp[keys])
theorem zGG{F:SF}{L:Nat}(r nof npt nc:Nm)(hr:r.l≤L)(hof:nof.l≤L)(hpt:npt.l≤L)(hc:nc.l≤L)(d1:nof≠r)(d2:npt≠r)(d3:nc≠r)(s:List UInt8)(hl:s.length≤1000000)(k fl:Int)(eo ep:TypeId)(oo op po pp oc:Bool)(g gp:FuncId)(xs ys:List PV)(l:List PV)(hlw:l.length=6)(hnf:nfl l=true)(rds:List Nm)(hrd:∀n∈rds,n.l≤L∧n≠r)
  (hFr:F r=some (rdB s 0))(hFo:F nof=some (.rows eo 1 oo po [[.fn (.func g) xs ys]]))(hFp:F npt=some (.rows ep 1 op pp [[.fn (.func gp) [] []]]))(hFc:F nc=some (.rows 73 3 oc true [[.int .i64 k,.int .i64 fl,.str s]]))
  (hg:OfOk g xs ys s (.agg l) s.length F rds)(k2 fl2 e2:Int)(b2:List UInt8)(hp:zMx gp l k2 fl2 b2 e2)(hne:¬(e2=0∧k2=k∧fl2=fl∧b2=s)):DCon Tryz.prog chM 90 [.ptr r 0 0,.ptr nof 0 0,.ptr npt 0 0,.ptr nc 0 0] F L [(r,.dead)] (r::nof::npt::nc::rds):=by
 refine DCon.body (zAg (L+1)) rfl rfl (fn:=Tryz.f90) (c:=Tryz.f90.body.getD .skip) (by kernel_rfl) (by rfl) (by kernel_rfl) rfl (by intro n hn;simp at hn;rcases hn with rfl|rfl|rfl|rfl|hn<;>first|assumption|exact (hrd n hn).1) ?_;intro F3 hF1 hF2;have kr:F3 r=some (rdB s 0):=(hF1 r (by simp)).trans hFr;have ko:F3 nof=some (.rows eo 1 oo po [[.fn (.func g) xs ys]]):=(hF1 nof (by simp)).trans hFo;have kp:F3 npt=some (.rows ep 1 op pp [[.fn (.func gp) [] []]]):=(hF1 npt (by simp)).trans hFp;have kc:F3 nc=some (.rows 73 3 oc true [[.int .i64 k,.int .i64 fl,.str s]]):=(hF1 nc (by simp)).trans hFc;have n1:∀k,(r=(⟨L+1,k⟩:Nm))=False:=zAI hr;have n2:∀k,((⟨L+1,k⟩:Nm)=r)=False:=zAF hr;have o1:∀k,(nof=(⟨L+1,k⟩:Nm))=False:=zAI hof;have o2:∀k,(npt=(⟨L+1,k⟩:Nm))=False:=zAI hpt;have o3:∀k,(nc=(⟨L+1,k⟩:Nm))=False:=zAI hc;have e1:(nof=r)=False:=eq_false d1;have e2':(npt=r)=False:=eq_false d2;have e3:(nc=r)=False:=eq_false d3;simp only[Tryz.f90,ko,o1,go_sem,meths];refine CallVD.live (CallVC.same (hg _ (L+1) r _ (fun n hn=>?_) (by omega) (fun n hn=>by have:=(hrd n hn).1;omega) (by simp[n1,kr])) ?_)
 ·have e5:∀k,(n=(⟨L+1,k⟩:Nm))=False:=zAI (hrd n hn).1;simp[e5,hF1 n (by simp[hn])]
 simp only[rdB,kr,n1,n2,hlw,hnf,go_sem];repeat refine sd1 ?_
 refine RegVD.live ?_;repeat refine sd1 ?_
 refine zUQ zG9 rfl ?_;simp only[kp,n2,o2,e2',go_sem];repeat refine sd1 ?_
 refine CallVD.live (zUQ (hp _ _ _) rfl ?_);simp only[kc,n2,o3,e3,go_sem];repeat refine sd1 ?_
 refine brB.mk (fun h=>?_) (fun h=>?_)
 ·have h1:e2=0:=by simpa using h
  have f2:(k2==k&&(fl2==fl&&b2==s))=false:=by
   rw[Bool.eq_false_iff];intro h2;simp only[zC,beq_iff_eq]at h2;exact hne ⟨h1,h2.1,h2.2.1,h2.2.2⟩
  simp only[f2];refine CallVD.same rfl zGP ?_;exact .dead (ns:=[r]) (by simpa using hr) (by simp[UpdAll,zAl,n2])
 ·simp only[h,zT,go_sem];refine CallVD.same rfl zGP ?_;exact .dead (ns:=[r]) (by simpa using hr) (by simp[UpdAll,zAl,n2])
theorem zJB{F:SF}{L nx:Nat}(s:List UInt8)(k fl:Int)(g gp:FuncId)(xs ys:List PV)(ks:List Int)(hk:(ks.any fun x=>k==x)=false)(hks:ks.length≤1000):
  Con Tryz.prog 45 [.agg [.int .i64 k,.int .i64 fl,.str s],.fn (.func g) xs ys,.fn (.func gp) [] [],.fs 1 (ks.map eI)] F L nx nx (.tup [.agg [.int .i64 0,.int .i64 0,.int .i64 0,.int .i64 0,.int .i64 0,.str []],.int .i64 2]) [] []:=by
 refine bdy Tryz.f45 ?_;intro F3 hF1 hF2;simp only[Tryz.f45,go_sem,meths];refine zUQ (zEp ks k (by omega)) rfl ?_;simp only[hk,go_sem];repeat refine sd1 ?_
 exact PostF.rs (v0:=.tup [.agg [.int .i64 0,.int .i64 0,.int .i64 0,.int .i64 0,.int .i64 0,.str []],.int .i64 2]) (.inr rfl)
theorem zLp{F:SF}{L nx:Nat}(s:List UInt8)(hl:s.length≤1000000)(k fl:Int)(g gp:FuncId)(xs ys:List PV)(ks:List Int)(hk:(ks.any fun x=>k==x)=true)(hks:ks.length≤1000)(l:List PV)(hlw:l.length=6)(hnf:nfl l=true)(rds:List Nm)(hrd:∀n∈rds,n.l≤L)
  (hg:OfOk g xs ys s (.agg l) s.length F rds)(hp:zMx gp l k fl s 0):Con Tryz.prog 45 [.agg [.int .i64 k,.int .i64 fl,.str s],.fn (.func g) xs ys,.fn (.func gp) [] [],.fs 1 (ks.map eI)] F L nx nx (.tup [.agg l,.int .i64 0]) [] rds:=by
 refine bdy Tryz.f45 (hrd:=hrd) ?_;intro F3 hF1 hF2;simp only[Tryz.f45,go_sem,meths];refine zUQ (zEp ks k (by omega)) rfl ?_;simp only[hk,go_sem];repeat refine sd1 ?_
 refine CallVC.same (zKB s 90 [] [.ptr ⟨L+1,32⟩ 0 0,.ptr ⟨L+1,64⟩ 0 0,.ptr ⟨L+1,0⟩ 0 0] l hlw hnf (⟨L+1,32⟩::⟨L+1,64⟩::⟨L+1,0⟩::rds) (fun n hn=>?_) ?_) ?_
 ·simp only[wP]at hn;rcases hn with rfl|rfl|rfl|hn<;>first|exact zH _|(have:=hrd n hn;omega)
 ·intro F' r nx' hF' hr hFr;have hne:∀(m:Nm),m.l≤L+1→m≠r:=fun m hm e=>by rw[e,hr]at hm;omega
  refine zKG r ⟨L+1,32⟩ ⟨L+1,64⟩ ⟨L+1,0⟩ (Nat.le_of_eq hr) (by simp) (by simp) (by simp) (hne _ (zH _)) (hne _ (zH _)) (hne _ (zH _)) s hl k fl _ _ _ _ _ _ _ g gp xs ys l hlw hnf rds (fun n hn=>⟨by have:=hrd n hn;omega,hne n (by have:=hrd n hn;omega)⟩) hFr ((hF' _ (by simp)).trans (by simp;first|exact ⟨rfl,rfl,rfl⟩|exact ⟨rfl,rfl⟩|rfl)) ((hF' _ (by simp)).trans (by simp;first|exact ⟨rfl,rfl,rfl⟩|exact ⟨rfl,rfl⟩|rfl)) ((hF' _ (by simp)).trans (by simp;first|exact ⟨rfl,rfl,rfl⟩|exact ⟨rfl,rfl⟩|rfl)) (hg.agree fun n hn=>?_) hp;have e5:∀k,(n=(⟨L+1,k⟩:Nm))=False:=zAI (hrd n hn);rw[hF' n (by simp[hn])];simp[e5,hF1 n hn]
 simp only[hlw,hnf,go_sem];repeat refine sd1 ?_
 exact PostF.of (p:=True) (v0:=.tup [.agg l,.int .i64 0]) (.inr rfl) (by simp only[go_sem]) trivial (zCS _ _).1 (by rw[(zCS (fun _=>none) _).2];simp) (by simp only[Tx.nf,nfl,hnf];rfl) trivial (by simp[UpdAll,keys])
theorem zHB{F:SF}{L nx:Nat}(s:List UInt8)(hl:s.length≤1000000)(k fl:Int)(g gp:FuncId)(xs ys:List PV)(ks:List Int)(hk:(ks.any fun x=>k==x)=true)(hks:ks.length≤1000)(rds:List Nm)(hrd:∀n∈rds,n.l≤L)
  (hg:zRl g gp xs ys s k fl 6 F rds):Con Tryz.prog 45 [.agg [.int .i64 k,.int .i64 fl,.str s],.fn (.func g) xs ys,.fn (.func gp) [] [],.fs 1 (ks.map eI)] F L nx nx (.tup [.agg [.int .i64 0,.int .i64 0,.int .i64 0,.int .i64 0,.int .i64 0,.str []],.int .i64 5]) [] rds:=by
 refine bdy Tryz.f45 (hrd:=hrd) ?_;intro F3 hF1 hF2;simp only[Tryz.f45,go_sem,meths];refine zUQ (zEp ks k (by omega)) rfl ?_;simp only[hk,go_sem];repeat refine sd1 ?_
 refine CallVC.same (zI9 s 90 [] [.ptr ⟨L+1,32⟩ 0 0,.ptr ⟨L+1,64⟩ 0 0,.ptr ⟨L+1,0⟩ 0 0] (⟨L+1,32⟩::⟨L+1,64⟩::⟨L+1,0⟩::rds) (fun n hn=>?_) ?_) ?_
 ·simp only[wP]at hn;rcases hn with rfl|rfl|rfl|hn<;>first|exact zH _|(have:=hrd n hn;omega)
 ·intro F' r hF' hr hFr;have hne:∀(m:Nm),m.l≤L+1→m≠r:=fun m hm e=>by rw[e,hr]at hm;omega
  have hag:∀n∈rds,F' n=F n:=fun n hn=>by
   have e5:∀k,(n=(⟨L+1,k⟩:Nm))=False:=zAI (hrd n hn);rw[hF' n (by simp[hn])];simp[e5,hF1 n hn]
  have hrd':∀n∈rds,n.l≤L+1+2∧n≠r:=fun n hn=>⟨by have:=hrd n hn;omega,hne n (by have:=hrd n hn;omega)⟩
  rcases hg with hg|⟨l,p,hlw,hnf,hp,hg⟩|⟨l,k2,fl2,e2,b2,hlw,hnf,hg,hp,hb⟩;·exact zHY r ⟨L+1,32⟩ ⟨L+1,64⟩ ⟨L+1,0⟩ (Nat.le_of_eq hr) (by simp) (by simp) (by simp) (hne _ (zH _)) (hne _ (zH _)) (hne _ (zH _)) s hl k fl _ _ _ _ _ _ _ g gp xs ys (List.replicate 6 (.bool false)) (by simp) (by rfl) rds hrd' hFr ((hF' _ (by simp)).trans (by simp;first|exact ⟨rfl,rfl,rfl⟩|exact ⟨rfl,rfl⟩|rfl)) ((hF' _ (by simp)).trans (by simp;first|exact ⟨rfl,rfl,rfl⟩|exact ⟨rfl,rfl⟩|rfl)) ((hF' _ (by simp)).trans (by simp;first|exact ⟨rfl,rfl,rfl⟩|exact ⟨rfl,rfl⟩|rfl)) (hg.agree hag)
  ·exact zHZ r ⟨L+1,32⟩ ⟨L+1,64⟩ ⟨L+1,0⟩ (Nat.le_of_eq hr) (by simp) (by simp) (by simp) (hne _ (zH _)) (hne _ (zH _)) (hne _ (zH _)) s hl k fl _ _ _ _ _ _ _ g gp xs ys l hlw hnf rds hrd' hFr ((hF' _ (by simp)).trans (by simp;first|exact ⟨rfl,rfl,rfl⟩|exact ⟨rfl,rfl⟩|rfl)) ((hF' _ (by simp)).trans (by simp;first|exact ⟨rfl,rfl,rfl⟩|exact ⟨rfl,rfl⟩|rfl)) ((hF' _ (by simp)).trans (by simp;first|exact ⟨rfl,rfl,rfl⟩|exact ⟨rfl,rfl⟩|rfl)) p hp (hg.agree hag)
  ·exact zGG r ⟨L+1,32⟩ ⟨L+1,64⟩ ⟨L+1,0⟩ (Nat.le_of_eq hr) (by simp) (by simp) (by simp) (hne _ (zH _)) (hne _ (zH _)) (hne _ (zH _)) s hl k fl _ _ _ _ _ _ _ g gp xs ys l hlw hnf rds hrd' hFr ((hF' _ (by simp)).trans (by simp;first|exact ⟨rfl,rfl,rfl⟩|exact ⟨rfl,rfl⟩|rfl)) ((hF' _ (by simp)).trans (by simp;first|exact ⟨rfl,rfl,rfl⟩|exact ⟨rfl,rfl⟩|rfl)) ((hF' _ (by simp)).trans (by simp;first|exact ⟨rfl,rfl,rfl⟩|exact ⟨rfl,rfl⟩|rfl)) (hg.agree hag) k2 fl2 e2 b2 hp hb
 simp only[go_sem];repeat refine sd1 ?_
 exact PostF.rs (v0:=.tup [.agg [.int .i64 0,.int .i64 0,.int .i64 0,.int .i64 0,.int .i64 0,.str []],.int .i64 5]) (.inr rfl)
end Go.Proofs.YtifhjhbfhdcahaaGreat
end
namespace Go.Proofs.YtifhjhbfhdcahaaGreat
attribute [go_sem] meths
end Go.Proofs.YtifhjhbfhdcahaaGreat
