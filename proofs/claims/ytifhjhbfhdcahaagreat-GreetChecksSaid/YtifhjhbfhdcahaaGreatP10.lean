/- Lemmas for the walk: U24, U25, U26, U27, U28, U30, U31, U32, U33, U34, U36, U37. -/
import Derived.Test.YtifhjhbfhdcahaaGreatP09
import Derived.ChangeArms
import Derived.Carry
import Derived.OpenShut
import Derived.ProofKit
set_option linter.all false
section
namespace Go.Tx
def eI(n:Int):List PV:=[.int .i64 n]
theorem zJ1(xs:List Int){i:Nat}(h:i<xs.length):(xs.map eI).getD i []=eI (xs.getD i 0):=by simp[h,zE]
theorem zRc(xs:List Int):(xs.map eI).length=xs.length:=by simp
def zP7{α:Type}(p:α→Bool)(X:List α):Int:=match X.findIdx? p with|some i=>i|none=> -1
theorem zMg{α:Type}{p:α→Bool}{Z:List α}{i:Nat}(hi:i<Z.length)(h:∀(j:Nat) (hj:j<Z.length),j<i→p Z[j]=false)(hp:p Z[i]=true):zP7 p Z=i:=by
 unfold zP7;have:Z.findIdx? p=some i:=by
  rw[List.findIdx?_eq_some_iff_getElem];exact ⟨hi,hp,fun j hj=>by simp[h j (by omega) hj]⟩
 rw[this]
theorem zOU{α:Type}{p:α→Bool}{Z:List α}(h:∀(j:Nat) (hj:j<Z.length),p Z[j]=false):zP7 p Z= -1:=by
 unfold zP7;have:Z.findIdx? p=none:=by
  rw[List.findIdx?_eq_none_iff];intro x hx;obtain ⟨j,hj,rfl⟩:=List.getElem_of_mem hx;exact h j hj
 rw[this]
theorem zOV{α:Type}(p:α→Bool)(Z:List α):decide (0≤zP7 p Z)=Z.any p:=by
 unfold zP7;cases h:Z.findIdx? p with
 |some i=>
  have h1:decide ((0:Int)≤((i:Nat):Int))=true:=by simp
  simp only[h1];rw[List.findIdx?_eq_some_iff_getElem]at h;obtain ⟨hi,hp,_⟩:=h;symm;rw[List.any_eq_true];exact ⟨Z[i],uH hi,hp⟩
 | none=>
  simp only;rw[List.findIdx?_eq_none_iff]at h;have:Z.any p=false:=by
   rw[List.any_eq_false];intro x hx;simp[h x hx]
  rw[this];rfl
theorem Con.agree{P:Program}{f:FuncId}{args:List PV}{F F':SF}{L nx top:Nat}{v:PV}{upd:List (Nm×SBlk)}{rd:List Nm}(h:Con P f args F L nx top v upd rd)(ha:∀n∈rd,F' n=F n):Con P f args F' L nx top v upd rd:=
 ⟨h.1,fun F2 h2=>h.2 F2 fun n hn=>(h2 n hn).trans (ha n hn)⟩
theorem zCS(F:SF):∀x:PV,Wk F x x∧wkN x x=[]:=by
 intro x;induction x using PV.rec (motive_3:=fun l=>WkL F l l∧zAt l l=[]) (motive_2:=fun _=>True) with
 |agg l ih=>exact ⟨by simp only[Wk];exact ih.1,by simp only[wkN];exact ih.2⟩
 |tup l ih=>exact ⟨by simp only[Wk];exact ih.1,by simp only[wkN];exact ih.2⟩
 |ifc t v ih=>exact ⟨by simp only[Wk];exact ⟨trivial,ih.1⟩,by simp only[wkN];exact ih.2⟩
 |_=>
  first
  |trivial
  |(rename_i x l ihx ihl;refine ⟨?_,?_⟩;(simp only[WkL];exact ⟨ihx.1,ihl.1⟩);(simp only[zAt,ihx.2,ihl.2];rfl))
  |(refine ⟨?_,?_⟩<;>simp only[Wk,wkN];done)
  |(refine ⟨?_,?_⟩<;>simp only[WkL,zAt];done)
theorem zDW(F:SF):∀l:List PV,WkL F l l∧zAt l l=[]
 | []=>⟨by simp only[WkL],by simp only[zAt]⟩
 |x::l=>⟨by simp only[WkL];exact ⟨(zCS F x).1,(zDW F l).1⟩,by simp only[zAt,(zCS F x).2,(zDW F l).2];rfl⟩
theorem CallVC.same{P:Program}{f:FuncId}{args:List PV}{F:SF}{L nx top:Nat}{K:PV→List (Nm×SBlk)→List Nm→Nat→Prop}{v:PV}{upd:List (Nm×SBlk)}{rd:List Nm}
  (hc:Con P f args F L nx top v upd rd)(hk:K v upd rd top):CallVC P f args F L nx K:=by
 obtain ⟨h1,h2⟩:=zDW F args;refine CallVC.gen (args2:=args) (v:=v) (upd:=upd) (rd:=rd) (top:=top) h1 ?_ ?_;·rw[h2];exact hc
 ·rw[h2];exact hk
theorem zUQ{P:Program}{f:FuncId}{args:List PV}{F:SF}{L nx:Nat}{K:PV→List (Nm×SBlk)→List Nm→Nat→Prop}{v:PV}
  (hc:Con P f args (fun _=>none) L nx nx v [] [])(hp:zBC v=true)(hk:K v [] [] nx):CallVC P f args F L nx K:=by
 obtain ⟨h1,h2⟩:=zDW F args;refine CallVC.pure (args2:=args) h1 hc hp ?_;rw[h2];exact hk
end Go.Tx
end
section
namespace Go.Tx
open Go.Sx (zAB)
mutual
def rn(σ:Nm→Nm):PV→PV
 | .ptr n r c=>.ptr (σ n) r c
 | .sl n r l=>.sl (σ n) r l
 | .mp n=>.mp (σ n)
 | .fn f x y=>.fn f (rnL σ x) (rnL σ y)
 | .ifc t v=>.ifc t (rn σ v)
 | .agg l=>.agg (rnL σ l)
 | .tup l=>.tup (rnL σ l)
 |v=>v
def rnL(σ:Nm→Nm):List PV→List PV
 | []=>[]
 |v::l=>rn σ v::rnL σ l
end
mutual
def nmA(D:Nm→Prop):PV→Prop
 | .ptr n _ _=>D n
 | .sl n _ _=>D n
 | .mp n=>D n
 | .fn _ x y=>zDf D x∧zDf D y
 | .ifc _ v=>nmA D v
 | .agg l=>zDf D l
 | .tup l=>zDf D l
 |_=>True
def zDf(D:Nm→Prop):List PV→Prop
 | []=>True
 |v::l=>nmA D v∧zDf D l
end
mutual
theorem VR.rn{w:World}{Z:Nat→Prop}{E E':Env}{σ:Nm→Nm}{D:Nm→Prop}(hE:∀n i,D n→E n=some i→E' (σ n)=some i):∀(x:PV) (v:Value),nmA D x→VR w Z E x v→VR w Z E' (rn σ x) v
 | .bool _,v,_,h=>by simpa[VR,Tx.rn] using h
 | .int _ _,v,_,h=>by simpa[VR,Tx.rn] using h
 | .str _,v,_,h=>by simpa[VR,Tx.rn] using h
 | .nilP,v,_,h=>by simpa[VR,Tx.rn] using h
 | .nilS,v,_,h=>by simpa[VR,Tx.rn] using h
 | .nilM,v,_,h=>by simpa[VR,Tx.rn] using h
 | .nilF,v,_,h=>by simpa[VR,Tx.rn] using h
 | .nilI,v,_,h=>by simpa[VR,Tx.rn] using h
 | .ptr n _ _,v,hd,h=>by
  simp only[nmA]at hd;simp only[VR,Tx.rn]at h ⊢;obtain ⟨i,hi,h⟩:=h;exact ⟨i,hE n i hd hi,h⟩
 | .sl n _ _,v,hd,h=>by
  simp only[nmA]at hd;simp only[VR,Tx.rn]at h ⊢;obtain ⟨i,hi,h⟩:=h;exact ⟨i,hE n i hd hi,h⟩
 | .mp n,v,hd,h=>by
  simp only[nmA]at hd;simp only[VR,Tx.rn]at h ⊢;obtain ⟨i,hi,h⟩:=h;exact ⟨i,hE n i hd hi,h⟩
 | .fp _ _ _ _,v,_,h=>by simp only[VR,Tx.rn]at h ⊢;exact h
 | .fs _ _,v,_,h=>by simp only[VR,Tx.rn]at h ⊢;exact h
 | .fm _ _,v,_,h=>by simp only[VR,Tx.rn]at h ⊢;exact h
 | .fn f x y,v,hd,h=>by
  simp only[nmA]at hd;simp only[VR,Tx.rn]at h ⊢;obtain ⟨x',y',rfl,b1,b2⟩:=h;exact ⟨x',y',rfl,VRl.rn hE x _ hd.1 b1,VRl.rn hE y _ hd.2 b2⟩
 | .ifc t u,v,hd,h=>by
  simp only[nmA]at hd;simp only[VR,Tx.rn]at h ⊢;obtain ⟨u',rfl,b1⟩:=h;exact ⟨u',rfl,VR.rn hE u _ hd b1⟩
 | .agg l,v,hd,h=>by
  simp only[nmA]at hd;simp only[VR,Tx.rn]at h ⊢;obtain ⟨l',rfl,b0,b1⟩:=h;exact ⟨l',rfl,b0,VRl.rn hE l _ hd b1⟩
 | .tup l,v,hd,h=>by
  simp only[nmA]at hd;simp only[VR,Tx.rn]at h ⊢;obtain ⟨l',rfl,b1⟩:=h;exact ⟨l',rfl,VRl.rn hE l _ hd b1⟩
theorem VRl.rn{w:World}{Z:Nat→Prop}{E E':Env}{σ:Nm→Nm}{D:Nm→Prop}(hE:∀n i,D n→E n=some i→E' (σ n)=some i):∀(x:List PV) (v:List Value),zDf D x→VRl w Z E x v→VRl w Z E' (rnL σ x) v
 | [],v,_,h=>by simpa[VRl,rnL] using h
 |x::l,v,hd,h=>by
  simp only[zDf]at hd;simp only[VRl,rnL]at h ⊢;obtain ⟨u,t,rfl,b1,b2⟩:=h;exact ⟨u,t,rfl,VR.rn hE x _ hd.1 b1,VRl.rn hE l _ hd.2 b2⟩
end
theorem zHr(σ:Nm→Nm):∀l:List PV,(rnL σ l).length=l.length
 | []=>rfl
 |_::l=>by simp[rnL,zHr σ l]
theorem zMh(σ:Nm→Nm):∀(l:List PV) (c:Nat),(rnL σ l)[c]?=(l[c]?).map (rn σ)
 | [],c=>by simp[rnL]
 |x::l,0=>by simp[rnL]
 |x::l,c+1=>by simp only[rnL,List.getElem?_cons_succ];exact zMh σ l c
theorem zKo{D:Nm→Prop}:∀{l:List PV},zDf D l→∀x∈l,nmA D x
 | [],_,x,hx=>by cases hx
 |a::l,h,x,hx=>by
  simp only[zDf]at h;rcases List.mem_cons.1 hx with rfl|hx;·exact h.1
  ·exact zKo h.2 x hx
def sg(L nx:Nat)(news:List Nat)(n:Nm):Nm:=if n.l=L+1 then ⟨L,nx+news.idxOf n.i⟩ else n
def Dn(L:Nat)(news:List Nat)(n:Nm):Prop:=n.l≤L∨(n.l=L+1∧n.i∈news)
def kp(L nx:Nat)(news:List Nat)(n:Nm):Nm:=if n.l=L∧nx≤n.i∧n.i<nx+news.length then ⟨L+1,news.getD (n.i-nx) 0⟩ else n
def zB2(D:Nm→Prop):List (List PV)→Prop
 | []=>True
 |r::l=>zDf D r∧zB2 D l
def BN(L nx:Nat)(news:List Nat)(G:SF):Option SBlk→SBlk→Prop
 | some (.rows e wd o p rs),.rows e' wd' o' p' rs'=>e=e'∧wd=wd'∧(o'=true→o=true)∧
   ((p=true∧p'=true∧rs=rs')∨(∃rs1,zHp G rs rs1∧(∀n∈zCA rs rs1,n.l=L+1∧n.i∉news)∧zB2 (Dn L news) rs1∧rs'=rs1.map (rnL (sg L nx news))∧(p'=true→rs'.all nfl=true)))
 |some (.map o p ks vs),.map o' p' ks' vs'=>(o'=true→o=true)∧p'=true∧p=true∧ks=ks'∧vs=vs'
 |_,.dead=>True
 |_,_=>False
def UpdN(L nx:Nat)(news:List Nat)(G:SF):List (Nm×SBlk)→Prop
 | []=>True
 |(n,b)::l=>n.l≤L∧BN L nx news G (G (kp L nx news n)) b∧UpdN L nx news G l
structure PostN (T:Tys) (F:SF) (rl:List ResultVar) (L nx:Nat) (v:PV) (upd:List (Nm×SBlk)) (k:Nat) (e:Exit) (st:St):Prop where
 e:e= .normal∨e= .ret
 res:∃(news:List Nat) (p:Prop) (v0 v1:PV),news.length=k∧news.Nodup∧zC5 T (look F st.H) st.t rl=some (p,v0)∧p∧Wk (look F st.H) v0 v1∧(∀n∈wkN v0 v1,n.l=L+1∧n.i∉news)∧nmA (Dn L news) v1∧v=rn (sg L nx news) v1∧
  UpdN L nx news (look F st.H) upd
 all:UpdAll L (keys upd) st.H
theorem UpdN.mem{L nx:Nat}{news:List Nat}{G:SF}{n:Nm}{b:SBlk}:∀{l:List (Nm×SBlk)},UpdN L nx news G l→(n,b)∈l→n.l≤L∧BN L nx news G (G (kp L nx news n)) b
 |(m,c)::l,h,hm=>by
  rcases List.mem_cons.1 hm with hm|hm;·injection hm with h1 h2;subst h1;subst h2;exact ⟨h.1,h.2.1⟩
  ·exact UpdN.mem h.2.2 hm
theorem zHs{D:Nm→Prop}:∀{rs:List (List PV)},zB2 D rs→∀r∈rs,zDf D r
 | [],_,r,h=>by cases h
 |a::l,h,r,hr=>by
  rcases List.mem_cons.1 hr with rfl|hr;·exact h.1
  ·exact zHs h.2 r hr
theorem zLf{κ α:Type}[DecidableEq κ]{n:κ}:∀(x:List (κ×α)) (f:κ→Option α),n∈keys x→∃u,(n,u)∈x∧zAX f x n=some u:=by
 intro x;induction x with
 |nil=>intro f h;cases h
 | cons a x ih=>
  intro f h;obtain ⟨m,u⟩:=a;simp only[zAX];by_cases hx:n∈keys x
  ·obtain ⟨u',q1,q2⟩:=ih (fun q=>if q=m then some u else f q) hx;exact ⟨u',by simp[q1],q2⟩
  ·simp only[keys,zL,wP]at h;rcases h with h|h;·subst h;exact ⟨u,by simp,by rw[zAc hx];simp⟩
   ·exact absurd h hx
def zEe(L:Nat)(F:SF):SF:=fun n=>if n.l≤L then F n else none
theorem zEo(L:Nat)(F:SF):SLe (zEe L F) F:=by
 intro n b hb;simp only[zEe]at hb;split at hb;·exact .inr (.inl hb)
 ·cases hb
theorem zDy{E E':Env}{F2:SF}{w w':World}{L nx k:Nat}{st:St}{upd:List (Nm×SBlk)}{news:List Nat}{v0 v1:PV}{v':Value}(hR:HRel E F2 w)(hfr:∀j,nx≤j→j<nx+k→E ⟨L,j⟩=none)(hdp:∀n:Nm,L<n.l→E n=none)
  (hstep0:StepR E (zEe L F2) w E' (look (zEe L F2) st.H) w')(hnews:∀n,E n=none→E' n≠none→n.l=L+1)(hk:news.length=k)(hnd:news.Nodup)(q3:Wk (look (zEe L F2) st.H) v0 v1)(q4:∀n∈wkN v0 v1,n.l=L+1∧n.i∉news)(q5:nmA (Dn L news) v1)
  (hok:UpdN L nx news (look (zEe L F2) st.H) upd)(hall:UpdAll L (keys upd) st.H)(r2:VR w' (Zn E' (look (zEe L F2) st.H) w') E' v0 v'):zBH E F2 w L nx (nx+k) (rn (sg L nx news) v1) upd v' w':=by
 have h3:=zEo L F2
 let F3:=zEe L F2
 let G:=look F3 st.H
 let Fm:SF:=fun n=>if n.l≤L∨n.i∈news then G n else none
 have hm:SLe Fm G:=by
  intro n b hb;simp only[Fm]at hb;split at hb;·exact .inr (.inl hb)
  ·cases hb
 have hSm:=zUS hstep0.rel hm
 let E2:Env:=fun n=>if n.l≤L then (match E n with|some i=>some i|none=>if n.l=L∧nx≤n.i∧n.i<nx+news.length then E' (kp L nx news n) else none) else none
 have hlE:∀n i,E n=some i→n.l≤L:=by
  intro n i hi;rcases wT L n.l with h|h;·rw[hdp n h]at hi;cases hi
  ·exact h
 have hkE:∀n i,E n=some i→kp L nx news n=n:=by
  intro n i hi;unfold kp;rw[if_neg]
  rintro ⟨h1,h2,h3⟩
  have:=hfr n.i h2 (by omega);have e:n=⟨L,n.i⟩:=by cases n;simp at h1;subst h1;rfl
  rw[e,this]at hi;cases hi
 have hEE:∀n i,E n=some i→E' n=some i∧E2 n=some i:=by
  intro n i hi;exact ⟨hstep0.le n i hi,by simp only[E2];rw[if_pos (hlE n i hi),hi]⟩
 have hE2:∀n i,E2 n=some i→n.l≤L∧E' (kp L nx news n)=some i∧((E n=some i∧kp L nx news n=n)∨(E n=none∧n.l=L∧nx≤n.i∧n.i<nx+news.length)):=by
  intro n i hi;simp only[E2]at hi;split at hi;rotate_left;·cases hi
  rename_i hl;cases he:E n with
  |some j=>
   rw[he]at hi;simp only at hi;injection hi with hi;subst hi;have:=hkE n j he;exact ⟨hl,by rw[this];exact hstep0.le n j he,.inl ⟨rfl,this⟩⟩
  |none=>
   rw[he]at hi;simp only at hi;split at hi;·rename_i hw;exact ⟨hl,hi,.inr ⟨rfl,hw⟩⟩
   ·cases hi
 have hsig:∀n i,Dn L news n→E' n=some i→E2 (sg L nx news n)=some i:=by
  intro n i hD hi;rcases hD with hD|⟨hD1,hD2⟩
  ·have e:sg L nx news n=n:=by unfold sg;rw[if_neg (by omega)]
   rw[e];cases he:E n with
   |none=>have:=hnews n he (by rw[hi];simp);omega
   |some j=>
    obtain ⟨a1,a2⟩:=hEE n j he;rw[a1]at hi;rw[a2];exact hi
  ·have hlt:=List.idxOf_lt_length_of_mem hD2;have e:sg L nx news n=⟨L,nx+news.idxOf n.i⟩:=by unfold sg;rw[if_pos hD1]
   rw[e];simp only[E2];rw[if_pos (zH _),hfr _ (by omega) (by omega)];simp only;rw[if_pos ⟨trivial,by omega,by omega⟩];have e2:kp L nx news ⟨L,nx+news.idxOf n.i⟩=n:=by
    unfold kp;rw[if_pos ⟨rfl,by simp,by simp;omega⟩];simp only[Nat.add_sub_cancel_left];have:news.getD (news.idxOf n.i) 0=n.i:=by
     rw[zE,zS hlt];simp
    rw[this];cases n;simp at hD1;subst hD1;rfl
   rw[e2];exact hi
 let F':=F2.upd upd
 have hBlive:∀{ob:Option SBlk} {b:SBlk},BN L nx news G ob b→b.live=true→∃b0,ob=some b0∧b0.live=true∧(b.own=true→b0.own=true):=by
  intro ob b hb hl;cases ob with
  |none=>cases b<;>first|exact (show False from hb).elim|(cases hl;done)
  |some b0=>
   refine ⟨b0,rfl,?_⟩;cases b0<;>cases b<;>first|exact (show False from hb).elim|(cases hl;done)|skip
   ·exact ⟨rfl,hb.2.2.1⟩
   ·exact ⟨rfl,hb.1⟩
 have hF':∀n b,F' n=some b→b.live=true→n.l≤L∧((n∈keys upd∧BN L nx news G (G (kp L nx news n)) b)∨(n∉keys upd∧F2 n=some b∧G n=some b∧kp L nx news n=n)):=by
  intro n b hn hl;have hn':zAX F2 upd n=some b:=by rw[←zA6];exact hn
  by_cases hk:n∈keys upd
  ·obtain ⟨u,u1,u2⟩:=zLf upd F2 hk;rw[hn']at u2;injection u2 with u2;subst u2;obtain ⟨c1,c2⟩:=hok.mem u1;exact ⟨c1,.inl ⟨hk,c2⟩⟩
  ·rw[zAc hk]at hn';obtain ⟨i,hi⟩:=(hR.blk n b hn').def_ hl;have hll:=hlE n i hi;refine ⟨hll,.inr ⟨hk,hn',?_,hkE n i hi⟩⟩;show look F3 st.H n=some b;rw[hall.look hll hk];simp only[F3,zEe];rw[if_pos hll];exact hn'
 have hFm:∀n b,F' n=some b→b.live=true→∃b0,G (kp L nx news n)=some b0∧b0.live=true∧(b.own=true→b0.own=true):=by
  intro n b hn hl;obtain ⟨h1,h2⟩:=hF' n b hn hl;rcases h2 with ⟨_,h2⟩|⟨_,_,h2,h4⟩;·exact hBlive h2 hl
  ·exact ⟨b,by rw[h4];exact h2,hl,id⟩
 have hkin:∀n,n.l≤L→(kp L nx news n).l≤L∨(kp L nx news n).i∈news:=by
  intro n hn;unfold kp;split
  ·rename_i hw;right;simp only;rw[zE,zS (by omega)];simp
  ·exact .inl hn
 have hzone:∀q,Zn E' Fm w' q→Zn E2 F' w' q:=by
  rintro q ⟨k1,k2⟩
  refine ⟨k1,fun n b i hn ho hi hz he=>?_⟩;obtain ⟨b0,c1,_,c3⟩:=hFm n b hn (zAe ho);obtain ⟨e1,e2,_⟩:=hE2 n i hi;exact k2 _ b0 i (by simp only[Fm];rw[if_pos (hkin n e1)];exact c1) (c3 ho) e2 hz he
 have hzone':∀q,Zn E' G w' q→Zn E2 F' w' q:=fun q hq=>hzone q (hSm.ext.zone q hq)
 have hwk:∀(x y:PV) (u:Value),Wk G x y→(∀n∈wkN x y,n.l=L+1∧n.i∉news)→nmA (Dn L news) y→VR w' (Zn E' G w') E' x u→VR w' (Zn E2 F' w') E2 (rn (sg L nx news) y) u:=by
  intro x y u h1 h2 h3 h4;have:=zJw hstep0.rel hm x y u h1 (fun n hn b hb=>by
   have:=h2 n hn;simp only[Fm]at hb;rw[if_neg (by rintro (h|h);omega;exact this.2 h)]at hb;cases hb) h4
  have:=VR.mono (E':=E') (Z':=Zn E2 F' w') ⟨Env.le.refl _,hzone,fun _ _=>rfl⟩ _ _ this;exact VR.rn hsig y u h3 this
 have hrelF:HRel E2 F' w':=by
  refine ⟨fun n b hn=>?_,fun n m b d i j hn hm' hnm ho hl hi hj hin hjn=>?_⟩
  ·by_cases hl:b.live=true;rotate_left
   ·cases b with
    |dead=>trivial
    |rows=>exact absurd rfl hl
    |map=>exact absurd rfl hl
    | cap mm kk=>
     have hn':zAX F2 upd n=some (.cap mm kk):=by rw[←zA6];exact hn
     rcases zBa upd F2 n with h9|⟨u9,h9,h10⟩
     ·rw[hn']at h9;obtain ⟨i9,hi9,hz9⟩:=hR.blk n _ h9.symm;exact ⟨i9,(hEE mm i9 hi9).2,hz9⟩
     ·rw[hn']at h10;injection h10 with h10;subst h10;have h11:BN L nx news G (G (kp L nx news n)) (.cap mm kk):=(hok.mem h9).2;cases hg9:G (kp L nx news n) with
      |none=>rw[hg9]at h11;exact (show False from h11).elim
      |some b0=>rw[hg9]at h11;cases b0<;>exact (show False from h11).elim
   obtain ⟨h1,h2⟩:=hF' n b hn hl;rcases h2 with ⟨hk',h2⟩|⟨hk',h2,h4,h5⟩;rotate_left
   ·have:=zUz hEE (hR.blk n b h2) (hstep0.rel.blk n b h4);exact this.mono ⟨Env.le.refl _,hzone',fun _ _=>rfl⟩ fun _ _ _=>rfl
   obtain ⟨b0,g1,g2,g3⟩:=hBlive h2 hl;have hb0:=hstep0.rel.blk _ b0 g1;rw[g1]at h2;have hin:∀i,E' (kp L nx news n)=some i→E2 n=some i:=by
    intro i hi;by_cases hw:n.l=L∧nx≤n.i∧n.i<nx+news.length
    ·have he:E n=none:=by
      have e:n=⟨L,n.i⟩:=by cases n;simp at hw;obtain ⟨rfl,_⟩:=hw;rfl
      rw[e];exact hfr _ hw.2.1 (by omega)
     simp only[E2];rw[if_pos h1,he];simp only;rw[if_pos hw];exact hi
    ·have e:kp L nx news n=n:=by unfold kp;rw[if_neg hw]
     rw[e]at hi;have e2:sg L nx news n=n:=by unfold sg;rw[if_neg (by omega)]
     have:=hsig n i (.inl h1) hi;rw[e2]at this;exact this
   cases b0<;>cases b<;>first|exact (show False from h2).elim|(cases hl;done)|skip
   ·rename_i e wd o p rs e' wd' o' p' rs';obtain ⟨rfl,rfl,ho,hrs⟩:=h2;obtain ⟨i,hi,hor⟩:=hb0;refine ⟨i,hin i hi,?_⟩;rcases hor with ⟨z1,rfl,z3,z4⟩|⟨hz,hRr⟩
    ·refine .inl ⟨z1,?_,z3,z4⟩;rcases hrs with ⟨_,_,rfl⟩|⟨rs1,hrs,_,_,rfl,_⟩;·rfl
     ·cases rs1 with
      |nil=>rfl
      |cons a l=>simp[zHp]at hrs
    ·refine .inr ⟨hz,?_⟩;obtain ⟨cs,fz,b1,b2,b3,b4⟩:=hRr.cells;rcases hrs with ⟨rfl,rfl,rfl⟩|⟨rs1,hrs,hns,hnm,rfl,hnf⟩;·exact ⟨hRr.wd_eq,hRr.o0,hRr.wd_pos,hRr.len,hRr.le,hRr.cap,cs,fz,b1,b2,fun h=>b3 (ho h),VRr.mono ⟨Env.le.refl _,hzone',fun _ _=>rfl⟩ _ _ _ b4⟩
     ·obtain ⟨l1,l2⟩:=zE9 hrs;have hlen1:∀row∈rs1,row.length=wd:=by
       intro row hrow;obtain ⟨r,hr⟩:=vW hrow;have hlt:=zAB hr;have hr0:=zS (l:=rs) (i:=r) (by omega);obtain ⟨k1,_⟩:=l2 r _ row hr0 hr;rw[←(zDV k1).1];exact hRr.len _ (zO hr0)
      have hlen':∀row∈rs1.map (rnL (sg L nx news)),row.length=wd:=by
       intro row hrow;obtain ⟨row1,h,rfl⟩:=List.mem_map.1 hrow;rw[zHr];exact hlen1 row1 h
      have hcells:VRr w' (Zn E2 F' w') E2 (rs1.map (rnL (sg L nx news))) i.o cs:=by
       refine (zAM hlen').2 fun r row' c y hr' hc'=>?_
       rw[wE]at hr';cases hr1:rs1[r]? with
       |none=>rw[hr1]at hr';cases hr'
       | some row1=>
        rw[hr1]at hr';simp at hr';subst hr';rw[zMh]at hc';cases hc1:row1[c]? with
        |none=>rw[hc1]at hc';cases hc'
        |some y1=>
         rw[hc1]at hc';simp at hc';subst hc';have hlt:=zAB hr1;have hr0:=zS (l:=rs) (i:=r) (by omega);obtain ⟨k1,k2⟩:=l2 r _ row1 hr0 hr1;obtain ⟨k3,k4⟩:=zDV k1;have hct:=zAB hc1;have hc0:=zS (l:=rs[r]) (i:=c) (by omega);obtain ⟨k5,k6⟩:=k4 c _ y1 hc0 hc1;obtain ⟨u,a1,a2,a3⟩:=(zAM hRr.len).1 b4 r _ c _ hr0 hc0;exact ⟨u,a1,a2,hwk _ y1 u k5 (fun n hn=>hns n (k2 n (k6 n hn))) (zKo (zHs hnm row1 (zO hr1)) y1 (zO hc1)) (VR.up a3)⟩
      refine ⟨hRr.wd_eq,hRr.o0,hRr.wd_pos,hlen',by rw[zG,←l1];exact hRr.le,hRr.cap,cs,fz,b1,b2,fun h=>b3 (ho h),?_⟩;cases p' with
      |false=>exact hcells
      |true=>
       have hnf:=hnf rfl;rw[wK]at hnf;refine (zAM hlen').2 fun r row c y hr hc=>?_
       obtain ⟨u,a1,a2,a3⟩:=(zAM hlen').1 hcells r row c y hr hc;exact ⟨u,a1,a2,VR.nf y u (zIP (hnf row (zO hr)) y (zO hc)) a3⟩
   ·rename_i o p ks vs o' p' ks' vs';obtain ⟨ho,rfl,rfl,rfl,rfl⟩:=h2;obtain ⟨i,hi,hz,ents,clk,hb,hmr⟩:=hb0;have hX0:Ext Env.no w' (Zn E' G w') Env.no w' (Zn E2 F' w'):=⟨Env.le.refl _,hzone',fun _ _=>rfl⟩;exact ⟨i,hin i hi,hz,ents,clk,hb,VRl.mono hX0 _ _ hmr.1,VRl.mono hX0 _ _ hmr.2⟩
  ·obtain ⟨b0,c1,_,c3⟩:=hFm n b hn (zAe ho);obtain ⟨d0,d1,d2,_⟩:=hFm m d hm' hl;obtain ⟨n1,n2,n3⟩:=hE2 n i hi;obtain ⟨m1,m2,m3⟩:=hE2 m j hj;refine hstep0.rel.sep _ _ b0 d0 i j c1 d1 ?_ (c3 ho) d2 n2 m2 hin hjn;intro he;apply hnm;rcases n3 with ⟨_,n3⟩|⟨_,n3⟩<;>rcases m3 with ⟨_,m3⟩|⟨_,m3⟩
   ·rw[n3,m3]at he;exact he
   ·rw[n3]at he;have:(kp L nx news m).l=L+1:=by unfold kp;rw[if_pos m3]
    rw[←he]at this;omega
   ·rw[m3]at he;have:(kp L nx news n).l=L+1:=by unfold kp;rw[if_pos n3]
    rw[he]at this;omega
   ·unfold kp at he;rw[if_pos n3,if_pos m3]at he;injection he with _ he;rw[zE,zE,zS (by omega),zS (by omega)]at he;simp only[vT]at he;have:=(List.getElem_inj hnd).1 he;cases n;cases m;simp at n3 m3 this ⊢;omega
 have hstep:StepR E F2 w E2 F' w':=by
  refine ⟨fun n i hi=>(hEE n i hi).2,hrelF,hstep0.os,hstep0.tape,hstep0.output,hstep0.size,fun q hq hno=>?_,fun n b i hn ho hi hin=>?_⟩
  ·refine hstep0.keep q hq fun n b i hn ho hi hin=>hno n b i (h3.own hn ho) ho hi hin
  ·obtain ⟨b0,c1,_,c3⟩:=hFm n b hn (zAe ho);obtain ⟨_,e2,_⟩:=hE2 n i hi;rcases hstep0.own _ b0 i c1 (c3 ho) e2 hin with h|⟨m,d,j,m1,m2,m3,m4,m5⟩;·exact .inl h
   ·exact .inr ⟨m,d,j,h3.own m1 m2,m2,m3,m4,m5⟩
 show zBH E F2 w L nx (nx+k) (rn (sg L nx news) v1) upd v' w';refine ⟨E2,hwk v0 v1 v' q3 q4 q5 r2,hstep,fun n h1 h2=>?_⟩;cases he:E2 n with
 |none=>exact absurd he h2
 |some i=>
  obtain ⟨_,_,h⟩:=hE2 n i he;rcases h with ⟨h,_⟩|⟨_,h⟩;·rw[h1]at h;cases h
  ·exact ⟨h.1,h.2.1,by omega⟩
theorem ICon.con{P:Program}{f:FuncId}{args:List PV}{F:SF}{L nx top:Nat}{v:PV}{upd:List (Nm×SBlk)}{rd:List Nm}(h:ICon P [] f args F L nx top v upd rd):Con P f args F L nx top v upd rd:=
 ⟨h.1,fun F2 hF E w args' hR hfr hdp ha=>h.2 F2 hF E w args' hR hfr hdp ha InvY.nil⟩
theorem zUm{L:Nat}{F0:SF}{t:List (Option PV)}{H:List (Nm×SBlk)}{nx:Nat}(d:Nat)(e:TypeId){wd:Nat}(hwd:0<wd)(hd:t[d]?=some (some .nilS)):
  Sub L F0 ⟨t,H,nx⟩ ⟨t.set d (some (.sl ⟨L,nx⟩ 0 0)),zAl H [(⟨L,nx⟩,.rows e wd true true [])],nx+1⟩:=by
 intro B E0 w0 E a w hd0 hR;have hf:=(hR.fresh hd0).1 nx (zH _);have hS:=zUe hR.step.rel hf e hwd true none;have hl:look F0 (zAl H [(⟨L,nx⟩,SBlk.rows e wd true true [])])=(look F0 H).set ⟨L,nx⟩ (.rows e wd true true []):=by rw[zAP];rfl
 refine ⟨E.set ⟨L,nx⟩ ⟨0,0,wd,0,true,none⟩,by rw[hl];exact hR.step.trans hS,⟨by simpa using hR.tmps.size,fun i v hv=>?_⟩,by rw[hl];exact hR.marks.mono hS.ext,fun n h1 h2=>?_⟩
 ·simp only[TF,zE,vQ]at hv;by_cases hi:d=i
  ·subst hi;rw[if_pos rfl]at hv;have hlt:=zAB hd;rw[if_pos hlt]at hv;simp at hv;subst hv;obtain ⟨v',a1,a2⟩:=hR.tmps.val d .nilS (by simp[TF,zE,hd]);refine ⟨v',a1,?_⟩;simp only[VR]at a2 ⊢;subst a2;exact ⟨_,zUO _ _ _,.inl ⟨rfl,trivial,rfl⟩⟩
  ·rw[if_neg hi]at hv;obtain ⟨v',a1,a2⟩:=hR.tmps.val i v (by simpa[TF,zE] using hv);exact ⟨v',a1,by rw[hl];exact VR.mono hS.ext _ _ a2⟩
 ·by_cases he:n=⟨L,nx⟩;·subst he;exact ⟨rfl,by simp⟩
  ·rw[zUP E _ he]at h2;have:=hR.news n h1 h2;exact ⟨this.1,by simp only at this ⊢;omega⟩
theorem Sub.trans{L:Nat}{F0:SF}{s s1 s2:St}(h:Sub L F0 s s1)(k:Sub L F0 s1 s2):Sub L F0 s s2:=fun B E0 w0 E a w hd hR=>by
 obtain ⟨E1,h1⟩:=h B E0 w0 E a w hd hR;exact k B E0 w0 E1 a w hd h1
def PostS(T:Tys)(F:SF)(rl:List ResultVar)(L nx:Nat)(v:PV)(upd:List (Nm×SBlk))(k:Nat)(e:Exit)(st:St):Prop:=∃st',Sub (L+1) F st st'∧PostN T F rl L nx v upd k e st'
theorem PostS.now{T:Tys}{F:SF}{rl:List ResultVar}{L nx:Nat}{v:PV}{upd:List (Nm×SBlk)}{k:Nat}{e:Exit}{st:St}(h:PostN T F rl L nx v upd k e st):PostS T F rl L nx v upd k e st:=⟨st,Sub.refl _ _ _,h⟩
section
variable {C : Cx}
theorem zU2(hC:C.Ok)(hro:C.ro=none){f:FuncId}{fn:Func}{c:Code}(hf:C.P.funcs[f]?=some fn)(hb:fn.body=some c)(hnum:(fn.name== "runtime.NumGoroutine")=false){args:List PV}{F:SF}{L nx k:Nat}(hL:C.L=L+1){v:PV}{upd:List (Nm×SBlk)}{rd:List Nm}(hrd:∀n∈rd,n.l≤L)
  (H:∀F3:SF,(∀n∈rd,F3 n=F n)→(∀n:Nm,L<n.l→F3 n=none)→vcC C F3 c ⟨zBn args fn.ntmps,[],0⟩ (PostS C.T F3 fn.results.toList L nx v upd k))(hdi:C.dies=false:=by rfl)(hB:C.B=[]:=by rfl):ICon C.P C.ys f args F L nx (nx+k) v upd rd:=by
 refine ⟨by omega,fun F2 hF2 E w args' hR hfr hdp hargs hy=>?_⟩
 let F3:SF:=zEe L F2
 have h3:SLe F3 F2:=zEo L F2;have hS0:=zUS hR h3;have hvc:=H F3 (fun n hn=>by simp only[F3,zEe];rw[if_pos (hrd n hn)];exact hF2 n hn) (fun n hn=>by simp only[F3,zEe];rw[if_neg (by omega)]);have hdom:zGD C.L E:=fun n hn=>hdp n (by omega)
 have htp:=zKn (w0:=w) hdi hC hdom (hy.step hR hS0) hS0.rel c _ _ hvc;have hargs3:=VRl.mono hS0.ext _ _ hargs;obtain ⟨hlen,hget⟩:=VRl.get hargs3;have hrel:Rel C.B C.L F3 E w E ⟨zBn args fn.ntmps,[],0⟩ {tmps:=args'.toArray++Array.replicate (fn.ntmps-args'.toArray.size) undef,defers:=[]} w:=by
  refine ⟨StepR.refl hS0.rel,⟨by simp[zBn,hlen],fun i x hx=>?_⟩,(by rw[hB];exact MarksOk.nil),fun n h1 h2=>absurd h1 h2⟩;simp only[TF,zBn]at hx;rw[zE]at hx;by_cases hi:i<args.length
  ·rw[wO (by simpa using hi)]at hx;simp only[wE]at hx;cases hy:args[i]? with
   |none=>rw[hy]at hx;cases hx
   |some y=>
    rw[hy]at hx;simp at hx;subst hx;obtain ⟨v',a1,a2⟩:=hget i y hy;refine ⟨v',?_,a2⟩;rw[uR (by simp;omega)];simpa using a1
  ·rw[wZ (by simp;omega)]at hx;simp only[zG,uT]at hx;split at hx;rotate_left;·cases hx
   rename_i hlt;simp at hx;subst hx;refine ⟨undef,?_,zBr⟩;rw[qO (by simp;omega)];simp only[uO,qX];rw[if_pos (by omega)]
 have hcall:Calls C.P f args'.toArray w fun e w'=>∃v',e= .returned v'∧zBH E F2 w L nx (nx+k) v upd v' w':=by
  rw[←callsIn_wide (n:=0)];refine callsIn_of_wp_marks hf hb trivial ?_;have hW:W C.ro=Fence.wide:=by rw[hro];rfl
  rw[←hW];refine wpIn_mono (htp _ _ E hrel) ?_
  rintro e a w' ⟨st0,⟨st,hsub,hP⟩,E0',hRl0⟩
  rw[←hL]at hsub;obtain ⟨E',hRl⟩:=hsub C.B E w E0' a w' hdom hRl0;obtain ⟨Ds,d1,d2,d3⟩:=hRl.marks;have key:LeavesInM (W C.ro) 0 C.P fn a.tmps (fun e w'=>∃v',e= .returned v'∧zBH E F2 w L nx (nx+k) v upd v' w') a.defers .returning w':=by
   rw[d2,hB];refine zCc (by simp) Ds w' d1 (fun D hD=>⟨(d3 D hD).1,(d3 D hD).2.2⟩) hRl.step hRl.tmps fun w'' s1 s2=>?_
   obtain ⟨news,p,v0,v1,hk,hnd,q1,q2,q3,q4,q5,rfl,hok⟩:=hP.res;obtain ⟨v',r1,r2⟩:=zG4 hC.T s1.rel s2 q1 q2;exact ⟨v',r1,v',rfl,zDy hR hfr hdp s1 (fun n h1 h2=>by have:=(hRl.news n h1 h2).1;omega) hk hnd q3 q4 q5 hok hP.all r2⟩
  rcases hP.e with rfl|rfl;·exact key
  ·exact key
 have hrun:(callFunc f args'.toArray).run C.P w= .ok (.enter f args'.toArray) w:=zAk hf (by rw[hb];rfl) hnum;rw[hrun];exact hcall
theorem zVT(hC:C.Ok)(hro:C.ro=none)(hys:C.ys=[]){f:FuncId}{fn:Func}{c:Code}(hf:C.P.funcs[f]?=some fn)(hb:fn.body=some c)(hnum:(fn.name== "runtime.NumGoroutine")=false){args:List PV}{F:SF}{L nx k:Nat}(hL:C.L=L+1){v:PV}{upd:List (Nm×SBlk)}{rd:List Nm}(hrd:∀n∈rd,n.l≤L)
  (H:∀F3:SF,(∀n∈rd,F3 n=F n)→(∀n:Nm,L<n.l→F3 n=none)→vcC C F3 c ⟨zBn args fn.ntmps,[],0⟩ (PostS C.T F3 fn.results.toList L nx v upd k))(hdi:C.dies=false:=by rfl)(hB:C.B=[]:=by rfl):Con C.P f args F L nx (nx+k) v upd rd:=by
 have h:=zU2 hC hro hf hb hnum hL (nx:=nx) hrd H hdi hB;rw[hys]at h;exact h.con
end
end Go.Tx
end
section
namespace Go.Tx
open Go.Sx (zAB)
def setPs(t:List (Option PV)):List (Nat×PV)→List (Option PV)
 | []=>t
 |(p,v)::l=>setPs (t.set p (some v)) l
theorem TRelF.setPs{w:World}{Z:Nat→Prop}{E:Env}:∀(ps:List Nat) (args:List PV) (args':List Value) (t:List (Option PV)) (a:Array Value),TRelF w Z E (TF t) t.length a→VRl w Z E args args'→(∀p∈ps,p<t.length)→
  TRelF w Z E (TF (setPs t (ps.zip args))) (setPs t (ps.zip args)).length ((ps.zip args').foldl (fun tmps (p,v)=>tmps.setIfInBounds p v) a)∧(setPs t (ps.zip args)).length=t.length
 | [],args,args',t,a,h,_,_=>by simpa[Tx.setPs] using h
 |p::ps,[],args',t,a,h,hv,_=>by
  simp only[VRl]at hv;subst hv;simpa[Tx.setPs] using h
 | p::ps,x::args,args',t,a,h,hv,hp=>by
  simp only[VRl]at hv;obtain ⟨v,tl,rfl,h1,h2⟩:=hv;simp only[List.zip_cons_cons,Tx.setPs,List.foldl_cons];have hlt:=hp p (by simp);have hT:TRelF w Z E (TF (t.set p (some x))) (t.set p (some x)).length (a.setIfInBounds p v):=by
   refine ⟨by simpa using h.size,fun i u hu=>?_⟩;simp only[TF,zE,vQ]at hu;by_cases hi:p=i
   ·subst hi;rw[if_pos rfl,if_pos hlt]at hu;simp at hu;subst hu;exact ⟨v,by simp[Array.getElem?_setIfInBounds,h.size,hlt],h1⟩
   ·rw[if_neg hi]at hu;obtain ⟨v',a1,a2⟩:=h.val i u (by simpa[TF,zE] using hu);exact ⟨v',by rw[Array.getElem?_setIfInBounds_ne (by omega)];exact a1,a2⟩
  obtain ⟨g1,g2⟩:=TRelF.setPs ps args tl (t.set p (some x)) (a.setIfInBounds p v) hT h2 (fun q hq=>by simpa using hp q (by simp[hq]));exact ⟨g1,by rw[g2,List.length_set]⟩
theorem MarksOk.turn{B:List Deferred}{n0:Nat}{E:Env}{F:SF}{w w':World}{ds:List Deferred}{D:Nat}{r:Loop}(h:MarksOk B n0 (Zn E F w) w ds)(hl:w.heap[D]?=some (.loop r))(ht:Turn D w w'):MarksOk B n0 (Zn E F w') w' ds:=by
 obtain ⟨Ds,h1,h2,h3⟩:=h;refine ⟨Ds,h1,h2,fun D' h'=>?_⟩;obtain ⟨a,b,c⟩:=h3 D' h';have hne:D'≠D:=by
  rintro rfl
  rw[hl]at c;cases c
 exact ⟨a,⟨by rw[ht.size];exact b.1,b.2⟩,(ht.keep _ hne).trans c⟩
def zSc(F:SF)(L nx:Nat)(upd:List (Nm×SBlk))(k:Nat)(e:Exit)(st:St):Prop:=
 e= .normal∧∃st',Sub (L+1) F st st'∧∃news:List Nat,news.length=k∧news.Nodup∧UpdN L nx news (look F st'.H) upd∧UpdAll L (keys upd) st'.H
theorem YCon.body{C:Cx}(hC:C.Ok){y:YRec}(hro:C.ro=some y.l)(hys:C.ys=[]){args:List PV}{F:SF}{L nx k:Nat}(hL:C.L=L+1){upd:List (Nm×SBlk)}{rd:List Nm}(hrd:∀n∈rd,n.l≤L)(hlen:args.length=y.R.params.size)(hps:∀p∈y.R.params.toList,p<y.t.length)
  (H:∀F3:SF,(∀n∈rd,F3 n=F n)→(∀n:Nm,L<n.l→F3 n=none)→vcC C F3 y.R.assign ⟨setPs y.t (y.R.params.toList.zip args),[],0⟩ (zGE (fun st=>vcC C F3 y.R.body st (zSc F3 L nx upd k)) (fun _ _=>False)))(hdi:C.dies=false:=by rfl)(hB:C.B=[]:=by rfl):
  YCon C.P y args F L nx (nx+k) (.bool true) upd rd:=by
 refine ⟨by omega,fun F2 hF2 E w args' hR hfr hdp hargs hy=>?_⟩;obtain ⟨hst,hpe,hheap,htm⟩:=hy y (by simp);have hlen':args'.length=y.R.params.size:=by rw[(VRl.get hargs).1];exact hlen
 refine ⟨hlen',roundIn_of_wpIn (F:=W none) trivial ?_⟩
 let F3:SF:=zEe L F2
 have h3:SLe F3 F2:=zEo L F2;have hS0:=zUS hR h3;have hvc:=H F3 (fun n hn=>by simp only[F3,zEe];rw[if_pos (hrd n hn)];exact hF2 n hn) (fun n hn=>by simp only[F3,zEe];rw[if_neg (by omega)]);have hdom:zGD C.L E:=fun n hn=>hdp n (by omega)
 have hno:=zBR hheap;have hlt:=zBl hheap
 let B:Obj:=.loop {y.R with state:=.busy}
 let wb:=w.putObj y.l B
 have tb:Turn y.l w wb:=zEx w y.l B;have hRb:HRel E F3 wb:=hS0.rel.turn hno tb;have hbl:wb.heap[y.l]?=some B:=World.putObj_heap_same hlt;obtain ⟨ht1,ht2⟩:=TRelF.setPs y.R.params.toList args args' y.t y.R.tmps (htm.mono hS0.ext) (VRl.mono hS0.ext _ _ hargs) hps;have hfold:(y.R.params.zip args'.toArray).foldl (fun tmps (x:Tmp×Value)=>tmps.setIfInBounds x.1 x.2) y.R.tmps=(y.R.params.toList.zip args').foldl (fun tmps (x:Nat×Value)=>tmps.setIfInBounds x.1 x.2) y.R.tmps:=by
  rw[←Array.foldl_toList];simp
 have hrel:Rel C.B C.L F3 E w E ⟨setPs y.t (y.R.params.toList.zip args),[],0⟩ {tmps:=(y.R.params.zip args'.toArray).foldl (fun tmps (x:Tmp×Value)=>tmps.setIfInBounds x.1 x.2) y.R.tmps,defers:=[]} w:=by
  refine ⟨StepR.refl hS0.rel,?_,(by rw[hB];exact MarksOk.nil),fun n h1 h2=>absurd h1 h2⟩;rw[hfold];exact ht1
 have hW:(W none).inRound y.l=W C.ro:=by rw[hro];rfl
 rw[hW];have htp:=zKn (w0:=w) hdi hC hdom (by rw[hys];exact InvY.nil) hS0.rel _ _ _ hvc;refine wpIn_mono (htp _ _ E hrel) ?_
 rintro e1 a1 w1 ⟨st1,hq1,E1,hR1⟩
 cases e1 with
 | normal=>
  have hl1:w1.heap[y.l]?=some (.loop y.R):=(hR1.step.keep _ hlt (hS0.rel.unowned hno)).trans hheap;have t1:=zEx w1 y.l B;refine ⟨w1.putObj y.l B,run_beginRound hl1 hst,?_⟩;have hS2:StepR E F3 wb E1 (look F3 st1.H) (w1.putObj y.l B):=hR1.step.turn2 (zBR hl1) tb t1 ((World.putObj_heap_same (zBl hl1)).trans hbl.symm);have hR2:Rel C.B C.L F3 E wb E1 st1 a1 (w1.putObj y.l B):=by
   refine ⟨hS2,⟨hR1.tmps.size,fun i v hv=>?_⟩,by rw[tb.size];exact hR1.marks.turn hl1 t1,hR1.news⟩;obtain ⟨v',b1,b2⟩:=hR1.tmps.val i v hv;exact ⟨v',b1,b2.turn (zBR hl1) t1⟩
  have htp2:=zKn (w0:=wb) hdi hC hdom (by rw[hys];exact InvY.nil) hRb _ _ _ hq1;refine wpIn_mono (htp2 _ _ E1 hR2) ?_
  rintro e2 a2 w2 ⟨st2,⟨rfl,st',hsub,news,hk,hnd,hok,hall⟩,E2',hR3'⟩
  rw[←hL]at hsub;obtain ⟨E2,hR3⟩:=hsub C.B E wb E2' a2 w2 hdom hR3';have hl2:w2.heap[y.l]?=some B:=(hR3.step.keep _ (zBl hbl) (hRb.unowned (zBR hbl))).trans hbl;have t2:=zEx w2 y.l (.loop y.R);have t0:Turn y.l wb w:=⟨rfl,rfl,rfl,tb.size.symm,fun k hk=>(tb.keep k hk).symm⟩;have hS4:StepR E F3 w E2 (look F3 st'.H) (w2.putObj y.l (.loop y.R)):=hR3.step.turn2 (zBR hl2) t0 t2 ((World.putObj_heap_same (zBl hl2)).trans hheap.symm);have hrec:({({y.R with state:=LoopState.busy}:Loop) with state:=if (none:Option Code).isNone=true then LoopState.ready else LoopState.done,pending:=none}:Loop)=y.R:=by
   cases hy':y.R with
   |mk a b c d e f g h=>rw[hy']at hst hpe;simp only at hst hpe;subst hst;subst hpe;rfl
  refine ⟨.bool true,w2.putObj y.l (.loop y.R),?_,.bool true,rfl,?_⟩;·rw[run_endRound none hl2,hrec];rfl
  ·exact zDy (v0:=.bool true) (v1:=.bool true) hR hfr hdp hS4 (fun n h1 h2=>by have:=(hR3.news n h1 h2).1;omega) hk hnd (by simp[Wk]) (by simp[wkN]) (by simp[nmA]) hok hall (by simp[VR])
 |_=>exact hq1.elim
theorem YVC.one{P:Program}{y:YRec}{asx:List PV}{F:SF}{L nx top:Nat}{K:PV→List (Nm×SBlk)→Nat→Prop}{v:PV}{upd:List (Nm×SBlk)}{rd:List Nm}(h:YCon P y asx F L nx top v upd rd)(hk:K v upd top):YVC P [y] y.l asx F L nx K:=
 ⟨y,by simp,rfl,v,upd,rd,top,h,hk⟩
theorem zP8{F:SF}{l:List (Nm×SBlk)}{n:Nm}(h:n∉keys l):F.upd l n=F n:=by rw[zA6];exact zAc h
theorem Sub.slots{L:Nat}{F0:SF}{t t':List (Option PV)}{H:List (Nm×SBlk)}{nx nx':Nat}(h1:zAf t t')(h4:nx≤nx'):Sub L F0 ⟨t,H,nx⟩ ⟨t',H,nx'⟩:=by
 intro B E0 w0 E a w hd hR;obtain ⟨t1,t2⟩:=zC6 h1;refine ⟨E,hR.step,⟨by rw[←t1];exact hR.tmps.size,fun i v hv=>?_⟩,hR.marks,fun n a b=>?_⟩
 ·simp only[TF,zE]at hv;cases hx:t'[i]? with
  |none=>rw[hx]at hv;cases hv
  |some x=>
   rw[hx]at hv;simp at hv;subst hv;exact hR.tmps.val i v (by simp[TF,zE,t2 i v hx])
 ·have:=hR.news n a b;exact ⟨this.1,by simp only at this ⊢;omega⟩
theorem PostN.val{T:Tys}{F:SF}{rl:List ResultVar}{L nx:Nat}{e:Exit}{st:St}{v v0:PV}{upd:List (Nm×SBlk)}{p:Prop}(news:List Nat)(he:e= .normal∨e= .ret)(hnd:news.Nodup)(hres:zC5 T (look F st.H) st.t rl=some (p,v0))(hp:p)(hnm:nmA (Dn L news) v0)(hv:v=rn (sg L nx news) v0)
  (hupd:UpdN L nx news (look F st.H) upd)(hall:UpdAll L (keys upd) st.H):PostN T F rl L nx v upd news.length e st:=
 ⟨he,⟨news,p,v0,v0,rfl,hnd,hres,hp,(zCS _ _).1,(by intro n hn;rw[(zCS F v0).2]at hn;cases hn),hnm,hv,hupd⟩,hall⟩
theorem BN.same{L nx:Nat}{news:List Nat}{G:SF}{e:TypeId}{wd:Nat}{o:Bool}{rs:List (List PV)}:BN L nx news G (some (.rows e wd o true rs)) (.rows e wd o true rs):=⟨rfl,rfl,id,.inl ⟨rfl,rfl,rfl⟩⟩
theorem zU3{C:Cx}{F0:SF}{c:Code}{st:St}{Q:Exit→St→Prop}(h:vcC C F0 c st (zGE (fun s=>∃_:Unit,True∧0<0∧Sub C.L F0 s st) Q)):loopK C F0 c st Q:=
 ⟨Unit,fun _=>st,fun _=>True,fun _=>0,(),trivial,Sub.refl _ _ _,fun _ _=>h⟩
end Go.Tx
end
section
namespace Go.Tx
def zMi(ops:List Oper)(fps:List (List Nat×List Nat)):Bool:=
 fps.zipIdx.all fun x=>fps.zipIdx.all fun y=>!zET ops x.2 y.2||zOE x.1.2 (y.1.1++y.1.2)
def zA0(φ:Nm→Nat)(f:List Nm×List Nm):List Nat×List Nat:=(f.1.map φ,f.2.map φ)
theorem zAA{ops:List Oper}{fps:List (List Nm×List Nm)}(φ:Nm→Nat)(h:zMi ops (fps.map (zA0 φ))=true):zFa ops fps=true:=by
 unfold zFa;unfold zMi at h;rw[wK]at h ⊢;intro x hx;rw[wK];intro y hy;obtain ⟨f,i⟩:=x;obtain ⟨g,j⟩:=y;rw[uL]at hx hy;have h1:=h (zA0 φ f,i) (by rw[uL];simp only[wE]at *;rw[hx];rfl);rw[wK]at h1;have h2:=h1 (zA0 φ g,j) (by rw[uL];simp only[wE]at *;rw[hy];rfl);simp only[vV]at h2 ⊢;refine h2.imp id fun hd=>?_
 unfold zOE;rw[wK];intro n hn;simp only[qM,List.contains_eq_mem,decide_eq_false_iff_not];intro hm;refine zC3 hd (x:=φ n) (List.mem_map.2 ⟨n,hn,rfl⟩) ?_;simp only[zA0,vS,List.mem_map]at hm ⊢;rcases hm with hm|hm;·exact .inl ⟨n,hm,rfl⟩
 ·exact .inr ⟨n,hm,rfl⟩
theorem zI7(F:SF):∀rs:List (List PV),zHp F rs rs∧zCA rs rs=[]
 | []=>⟨trivial,rfl⟩
 |r::rs=>by
  obtain ⟨h1,h2⟩:=zDW F r;obtain ⟨h3,h4⟩:=zI7 F rs;exact ⟨⟨h1,h3⟩,by simp only[zCA,h2,h4,zK]⟩
theorem BN.ren{L nx:Nat}{news:List Nat}{G:SF}{ob:Option SBlk}{e:TypeId}{wd:Nat}{o:Bool}{rs rs':List (List PV)}(hb:ob=some (.rows e wd o false rs))(h:zB2 (Dn L news) rs)(he:rs'=rs.map (rnL (sg L nx news))):BN L nx news G ob (.rows e wd o false rs'):=by
 subst hb;obtain ⟨h1,h2⟩:=zI7 G rs;exact ⟨rfl,rfl,id,.inr ⟨rs,h1,(by intro n hn;rw[h2]at hn;cases hn),h,he,(by intro h;cases h)⟩⟩
theorem BN.pure{L nx:Nat}{news:List Nat}{G:SF}{ob:Option SBlk}{e:TypeId}{wd:Nat}{o:Bool}{rs:List (List PV)}(hb:ob=some (.rows e wd o true rs)):BN L nx news G ob (.rows e wd o true rs):=by
 subst hb;exact ⟨rfl,rfl,id,.inl ⟨rfl,rfl,rfl⟩⟩
theorem zRd{L nx:Nat}{news:List Nat}{j:Nat}(hj:j<news.length):kp L nx news ⟨L,nx+j⟩=⟨L+1,news.getD j 0⟩:=by
 unfold kp;rw[if_pos ⟨rfl,by simp,by simp;omega⟩];simp
theorem zDg{L nx:Nat}{news:List Nat}(hj:0<news.length):kp L nx news ⟨L,nx⟩=⟨L+1,news.getD 0 0⟩:=zRd (j:=0) hj
end Go.Tx
end
section
namespace Go.Tx
open Go.Sx (TK tk cellsOf zAD zAB)
def Shp(T:Tys):Nat→TypeId→List PV→Prop
 |0,_,_=>False
 |n+1,t,xs=>
  match T.get t with
  |some ⟨.bool,_,_,_,_,_⟩=>∃b,xs=[.bool b]
  |some ⟨.int k,_,_,_,_,_⟩=>∃m,xs=[.int k m]∧(Lit.int k m).wf=true
  |some ⟨.str,_,_,_,_,_⟩=>∃s:List UInt8,xs=[.str s]∧s.length≤maxLen
  |some ⟨.slice e,_,_,_,_,_⟩=>∃wd rs,xs=[.fs wd rs]∧rs.length≤maxLen∧(T.get e).map (·.size)=some wd∧∀r∈rs,Shp T n e r
  |some ⟨.struct fs,_,_,_,_,_⟩=>fs.foldr (fun f k ys=>∃a b,ys=a++b∧Shp T n f.2 a∧k b) (fun ys=>ys=[]) xs
  |some ⟨.array m e,_,_,_,_,_⟩=>(List.range m).foldr (fun _ k ys=>∃a b,ys=a++b∧Shp T n e a∧k b) (fun ys=>ys=[]) xs
  |_=>False
def plT(T:Tys):Nat→TypeId→Bool
 |0,_=>false
 |n+1,t=>
  match T.get t with
  |some ⟨.bool,_,s,_,_,_⟩=>s==1
  |some ⟨.int _,_,s,_,_,_⟩=>s==1
  |some ⟨.str,_,s,_,_,_⟩=>s==1
  |some ⟨.slice e,_,s,_,_,_⟩=>s==1&&plT T n e&&(match T.get e with|some i=>decide (0<i.size)|none=>false)
  |some ⟨.struct fs,_,s,_,_,_⟩=>fs.all (fun f=>plT T n f.2)&&tile T fs 0 s
  |some ⟨.array m e,_,s,_,_,_⟩=>plT T n e&&(match T.get e with|some i=>s==m*i.size&&decide (0<i.size)|none=>false)
  |_=>false
where
 tile (T:Tys):List (Nat×TypeId)→Nat→Nat→Bool
  | [],o,s=>o==s
  |(a,t)::l,o,s=>a==o&&(match T.get t with|some i=>tile T l (o+i.size) s|none=>false)
section
variable {H : Type} {enc : TypeId × Value → H} {P : Program} {W : World} {spare : Nat → Bool} {held : Bool} {T : Tys}
def Zw(W:World)(b:Nat):Prop:=b<W.heap.size
theorem TOk.und{t:TypeId}{i:TI}{z:Value}(h:TOk P t i z):∃d,P.underlying t=some d∧tk d=i.k:=h.sx.desc
theorem TOk.cells{t:TypeId}{i:TI}{z:Value}(h:TOk P t i z):P.cellsOf t=i.size:=by
 obtain ⟨x,h1,_,h3,_⟩:=h.sx.info;simp[Program.cellsOf,h1,h3]
theorem mapM_len{α β:Type}{f:α→Option β}:∀{l:List α} {ys:List β},l.mapM f=some ys→ys.length=l.length∧∀(i:Nat) (x:α),l[i]?=some x→f x=ys[i]?
 | [],ys,h=>by simp at h;subst h;simp
 |a::l,ys,h=>by
  rw[List.mapM_cons]at h;simp only[Option.bind_eq_bind,zM,Option.pure_def,zZ]at h;obtain ⟨y,h1,zs,h2,rfl⟩:=h;obtain ⟨g1,g2⟩:=mapM_len h2;refine ⟨by simp[g1],fun i x hx=>?_⟩;cases i with
  |zero=>simp at hx;subst hx;simp[h1]
  |succ i=>simp at hx;simpa using g2 i x hx
theorem zMj{a:Addr}{k:Nat}{cs:List Value}(h:W.cells? 0 a k=some cs):cs.length=k∧∀j,j<k→W.cell? (a.add j)=cs[j]?:=by
 unfold World.cells? at h;rw[if_pos (uM _)]at h;obtain ⟨h1,h2⟩:=mapM_len h;exact ⟨by simpa using h1,fun j hj=>h2 j j (by simp[hj])⟩
theorem zMk{n:Nat}(ih:∀(t:TypeId) (cs:List Value) (fuel:Nat) (x:DataW H×List MemPlace),plT T n t=true→DataW.trod enc P W 0 spare held fuel t cs=some x→∃xs,Shp T n t xs∧VRl W (Zw W) Env.no xs cs∧∀v∈cs,v.oneCell'=true)
  (hT:T.Ok P)(fuel:Nat)(cs:List Value):∀(fs:List (Nat×TypeId)) (o:Nat),(∀f∈fs,plT T n f.2=true)→plT.tile T fs o cs.length=true→(∀f∈fs,∃x:DataW H×List MemPlace,DataW.trod enc P W 0 spare held fuel f.2 ((cs.drop f.1).take (P.cellsOf f.2))=some x)→
  ∃xs,fs.foldr (fun f k ys=>∃a b,ys=a++b∧Shp T n f.2 a∧k b) (fun ys=>ys=[]) xs∧VRl W (Zw W) Env.no xs (cs.drop o)∧∀v∈cs.drop o,v.oneCell'=true
 | [],o,_,ht,_=>by
  simp only[plT.tile,beq_iff_eq]at ht;subst ht;exact ⟨[],rfl,by simp[VRl],by simp⟩
 | (a,t)::fs,o,hp,ht,hr=>by
  simp only[plT.tile,zC,beq_iff_eq]at ht;obtain ⟨rfl,ht⟩:=ht;cases hi:T.get t with
  |none=>rw[hi]at ht;cases ht
  | some i=>
   rw[hi]at ht;simp only at ht;obtain ⟨z,hz⟩:=hT t i hi;obtain ⟨x,hx⟩:=hr (a,t) (by simp);rw[hz.cells]at hx;obtain ⟨xs,s1,s2,s3⟩:=ih t _ fuel x (hp (a,t) (by simp)) hx;obtain ⟨ys,r1,r2,r3⟩:=zMk ih hT fuel cs fs (a+i.size) (fun f hf=>hp f (by simp[hf])) ht (fun f hf=>hr f (by simp[hf]));have e:cs.drop a=(cs.drop a).take i.size++cs.drop (a+i.size):=by
    rw[←List.drop_drop];exact (List.take_append_drop _ _).symm
   refine ⟨xs++ys,⟨xs,ys,rfl,s1,r1⟩,?_,?_⟩;·rw[e];exact VRl.append s2 r2
   ·rw[e];intro v hv;rcases List.mem_append.1 hv with hv|hv;·exact s3 v hv
    ·exact r3 v hv
theorem zPS{n:Nat}{t:TypeId}{k:Nat}{cs:List Value}(g:∀i,∃xs,(i*k+k≤cs.length→Shp T n t xs∧VRl W (Zw W) Env.no xs ((cs.drop (i*k)).take k))∧∀v∈(cs.drop (i*k)).take k,i*k+k≤cs.length→v.oneCell'=true):
  ∀(m j:Nat),cs.length=(j+m)*k→∃xs,(List.range m).foldr (fun _ q ys=>∃a b,ys=a++b∧Shp T n t a∧q b) (fun ys=>ys=[]) xs∧VRl W (Zw W) Env.no xs (cs.drop (j*k))∧∀v∈cs.drop (j*k),v.oneCell'=true
 |0,j,h=>by
  have:cs.drop (j*k)=[]:=by rw[List.drop_eq_nil_iff];simp at h;omega
  rw[this];exact ⟨[],rfl,by simp[VRl],by simp⟩
 | m +1,j,h=>by
  obtain ⟨ys,r1,r2,r3⟩:=zPS g m (j+1) (by rw[h];congr 1;omega);obtain ⟨xs,s1,s3⟩:=g j;have hle:j*k+k≤cs.length:=by
   rw[h,show j+(m+1)=(j+1)+m by omega,wF,wV];omega
  obtain ⟨s1,s2⟩:=s1 hle;have e:cs.drop (j*k)=(cs.drop (j*k)).take k++cs.drop ((j+1)*k):=by
   rw[wV,←List.drop_drop];exact (List.take_append_drop _ _).symm
  have hf:(List.range (m+1)).foldr (fun(_:Nat) (q:List PV→Prop) ys=>∃a b,ys=a++b∧Shp T n t a∧q b) (fun ys=>ys=[]) (xs++ys):=by
   have key:∀(l l':List Nat),l.length=l'.length→∀zs,l.foldr (fun(_:Nat) (q:List PV→Prop) ys=>∃a b,ys=a++b∧Shp T n t a∧q b) (fun ys=>ys=[]) zs=l'.foldr (fun(_:Nat) (q:List PV→Prop) ys=>∃a b,ys=a++b∧Shp T n t a∧q b) (fun ys=>ys=[]) zs:=by
    intro l;induction l with
    |nil=>intro l' h zs;cases l' with
     |nil=>rfl
     |cons _ _=>simp at h
    | cons x l ihl=>intro l' h zs;cases l' with
     |nil=>simp at h
     |cons x' l'=>
      simp only[List.foldr_cons];have:=ihl l' (by simpa using h);simp only[this]
   rw[key (List.range (m+1)) (0::List.range m) (by simp)];exact ⟨xs,ys,rfl,s1,r1⟩
  refine ⟨xs++ys,hf,?_,?_⟩;·rw[e];exact VRl.append s2 r2
  ·rw[e];intro v hv;rcases List.mem_append.1 hv with hv|hv;·exact s3 v hv hle
   ·exact r3 v hv
end
end Go.Tx
end
section
namespace Go.Tx
open Go.Sx (TK tk cellsOf zAD zAB)
section
variable {H : Type} {enc : TypeId × Value → H} {P : Program} {W : World} {spare : Nat → Bool} {held : Bool} {T : Tys}
theorem addr_add_add(a:Addr)(i j:Nat):(a.add i).add j=a.add (i+j):=by
 unfold Addr.add;by_cases hi:i=0<;>by_cases hj:j=0<;>simp[hi,hj,zA]
theorem zP9{b o:Nat}{c:Array Value}{e:TypeId}{fz:Nat×Nat}(h:W.heap[b]?=some (.cells c e fz))(q:Nat):W.cell? ((⟨b,o,none⟩:Addr).add q)=c[o+q]?:=by
 unfold Addr.add World.cell?;by_cases hq:q=0;·subst hq;simp[h]
 ·simp[hq,h]
theorem zMl{k:Nat}{p:Nat→List PV→Prop}(h:∀i,i<k→∃x,p i x):∃rs:List (List PV),rs.length=k∧∀i r,rs[i]?=some r→p i r:=by
 induction k with
 |zero=>exact ⟨[],rfl,by simp⟩
 | succ k ih=>
  obtain ⟨rs,h1,h2⟩:=ih fun i hi=>h i (by omega)
  obtain ⟨x,hx⟩:=h k (by omega);refine ⟨rs++[x],by simp[h1],fun i r hr=>?_⟩;by_cases hi:i<k;·rw[wO (by omega)]at hr;exact h2 i r hr
  ·rw[wZ (by omega)]at hr;have:i-rs.length=0:=by
    have:=zAB hr;simp at this;omega
   rw[this]at hr;simp at hr;subst hr;have:i=k:=by omega
   subst this;exact hx
theorem zQA(hT:T.Ok P):∀(n:Nat) (t:TypeId) (cs:List Value) (fuel:Nat) (x:DataW H×List MemPlace),plT T n t=true→DataW.trod enc P W 0 spare held fuel t cs=some x→∃xs,Shp T n t xs∧VRl W (Zw W) Env.no xs cs∧∀v∈cs,v.oneCell'=true:=by
 intro n;induction n with
 |zero=>intro t cs fuel x h;cases h
 | succ n ih=>
  intro t cs fuel x hp hd;unfold plT at hp;split at hp
  ·rename_i zr s b q ls hg;obtain ⟨z,hz⟩:=hT t _ hg;obtain ⟨d,hu,hk⟩:=hz.und;have:d= .bool:=by cases d<;>simp[tk]at hk ⊢
   subst this;obtain ⟨b,rfl,_⟩:=DataW.trod_bool hu hd;exact ⟨[.bool b],by unfold Shp;rw[hg];exact ⟨b,rfl⟩,by simp[VRl,VR],by simp[Value.oneCell']⟩
  ·rename_i k zr s b q ls hg;obtain ⟨z,hz⟩:=hT t _ hg;obtain ⟨d,hu,hk⟩:=hz.und;have:d= .int k:=by cases d<;>simp[tk]at hk ⊢;exact hk
   subst this;obtain ⟨m,rfl,_,hw⟩:=DataW.trod_int hu hd;exact ⟨[.int k m],by unfold Shp;rw[hg];exact ⟨m,rfl,hw⟩,by simp[VRl,VR],by simp[Value.oneCell']⟩
  ·rename_i zr s b q ls hg;obtain ⟨z,hz⟩:=hT t _ hg;obtain ⟨d,hu,hk⟩:=hz.und;have:d= .string:=by cases d<;>simp[tk]at hk ⊢
   subst this;obtain ⟨s,rfl,_,hw⟩:=DataW.trod_string hu hd;exact ⟨[.str s.data.toList],by unfold Shp;rw[hg];exact ⟨s.data.toList,rfl,by simpa using hw⟩,by simp[VRl,VR,zF8],by simp[Value.oneCell']⟩
  ·rename_i e zr s b q ls hg;obtain ⟨z,hz⟩:=hT t _ hg;obtain ⟨d,hu,hk⟩:=hz.und;have:d= .slice e:=by cases d<;>simp[tk]at hk ⊢;exact hk
   subst this;simp only[zC]at hp;obtain ⟨⟨_,hpe⟩,hse⟩:=hp;cases hie:T.get e with
   |none=>rw[hie]at hse;cases hse
   |some ie=>
   rw[hie]at hse;simp only[decide_eq_true_eq]at hse;obtain ⟨ze,hze⟩:=hT e _ hie;have hce:=hze.cells;rcases DataW.trod_slice hu hd with ⟨rfl,_⟩|⟨a,len,cap,elems,rest,m,_,rfl,_,_,hlc,hcm,hel,hE,_⟩
   ·refine ⟨[.fs ie.size []],by unfold Shp;rw[hg];exact ⟨ie.size,[],rfl,by simp,by rw[hie];rfl,by simp⟩,?_,by simp[Value.oneCell']⟩;simp only[VRl,VR];exact ⟨_,[],rfl,⟨none,0,rfl,by simp,by simp,hse,by simp,.inl trivial⟩,rfl⟩
   ·have hrow:∀i,i<len→∃row,Shp T n e row∧∃csi,csi.length=ie.size∧(∀j,j<ie.size→W.cell? (a.add (i*ie.size+j))=csi[j]?)∧VRl W (Zw W) Env.no row csi∧∀v∈csi,v.oneCell'=true:=by
     intro i hi;have h1:=hE i hi;rw[hce]at h1;have hlt:i<elems.length:=by omega
     rw[zS hlt]at h1;simp only[zM]at h1;obtain ⟨csi,c1,c2⟩:=h1;obtain ⟨g1,g2⟩:=zMj c1;obtain ⟨row,s1,s2,s3⟩:=ih e csi m _ hpe c2;exact ⟨row,s1,csi,g1,fun j hj=>by rw[←addr_add_add];exact g2 j hj,s2,s3⟩
    obtain ⟨rs,hl,hrs⟩:=zMl hrow;refine ⟨[.fs ie.size rs],?_,?_,by simp[Value.oneCell']⟩
    ·unfold Shp;rw[hg];refine ⟨ie.size,rs,rfl,by omega,by rw[hie];rfl,fun r hr=>?_⟩;obtain ⟨i,hi⟩:=List.mem_iff_getElem?.1 hr;exact (hrs i r hi).1
    ·have hlen:∀row∈rs,row.length=ie.size:=by
      intro r hr;obtain ⟨i,hi⟩:=List.mem_iff_getElem?.1 hr;obtain ⟨_,csi,g1,_,g3,_⟩:=hrs i r hi;rw[←(VRl.get g3).1,g1]
     simp only[VRl,VR];refine ⟨_,[],rfl,⟨some a,cap,by rw[hl],by omega,hcm,hse,hlen,?_⟩,rfl⟩;rcases Nat.eq_zero_or_pos len with h0|h0;·left;exact vI (by omega)
     right;have h00:∃v,W.cell? a=some v:=by
      obtain ⟨row,_,csi,g1,g2,_⟩:=hrow 0 h0;have:=g2 0 hse;rw[zS (by omega)]at this;exact ⟨csi[0]'(by omega),by simpa[Addr.add] using this⟩
     obtain ⟨v0,hv0⟩:=h00;obtain ⟨b,o,sp⟩:=a;have:∃c el fz,W.heap[b]?=some (.cells c el fz)∧sp=none:=by
      unfold World.cell? at hv0;simp only at hv0;split at hv0
      ·rename_i c el fz hb;refine ⟨c,el,fz,hb,?_⟩;cases sp with
       |none=>rfl
       |some y=>simp at hv0
      ·cases hv0
     obtain ⟨c,el,fz,hb,rfl⟩:=this;refine ⟨b,o,c,el,fz,rfl,?_,hb,?_⟩
     ·show b<W.heap.size;rcases wT b W.heap.size with h|h;·exact h
      ·rw[qJ h]at hb;cases hb
     ·rw[zAM hlen];intro r row cc y hr hc;obtain ⟨_,csi,g1,g2,g3,g4⟩:=hrs r row hr;obtain ⟨v,q1,q2⟩:=(VRl.get g3).2 cc y hc;have hlt:cc<ie.size:=by have:=zAB q1;omega
      have:=g2 cc hlt;rw[zP9 hb,q1]at this;exact ⟨v,this,g4 v (zO q1),q2⟩
  ·rename_i fs zr s b q ls hg;obtain ⟨z,hz⟩:=hT t _ hg;obtain ⟨d,hu,hk⟩:=hz.und;obtain ⟨ar,rfl⟩:∃ar,d= .struct ar:=by cases d<;>simp[tk]at hk ⊢
   simp only[tk,TK.struct.injEq]at hk;obtain ⟨ys,m,_,_,hl,hyl,hf⟩:=DataW.trod_struct hu hd;rw[hz.cells]at hl;simp only[zC,wK]at hp;obtain ⟨hp1,hp2⟩:=hp;simp only at hl;obtain ⟨xs,s1,s2,s3⟩:=zMk ih hT m cs fs 0 hp1 (by rw[hl];exact hp2) (by
    intro f hfm;rw[←hk]at hfm;simp only[List.mem_map]at hfm;obtain ⟨fd,hfd,rfl⟩:=hfm;obtain ⟨i,hi⟩:=List.mem_iff_getElem?.1 hfd;have h1:=hf i fd (by simpa using hi);have hlt:i<ys.length:=by rw[hyl];simpa using zAB hi
    rw[zS hlt]at h1;exact ⟨_,h1⟩)
   exact ⟨xs,by unfold Shp;rw[hg];exact s1,by simpa using s2,by simpa using s3⟩
  ·rename_i k e zr s b q ls hg;obtain ⟨z,hz⟩:=hT t _ hg;obtain ⟨d,hu,hk⟩:=hz.und;have:d= .array k e:=by cases d<;>simp[tk]at hk ⊢;exact hk
   subst this;simp only[zC]at hp;obtain ⟨hpe,hse⟩:=hp;cases hie:T.get e with
   |none=>rw[hie]at hse;cases hse
   |some ie=>
   rw[hie]at hse;simp only[zC,beq_iff_eq,decide_eq_true_eq]at hse;obtain ⟨hse,hpos⟩:=hse;obtain ⟨ze,hze⟩:=hT e _ hie;have hce:=hze.cells;have hct:=hz.cells;simp only at hct;obtain ⟨ys,m,_,_,hl,y1,y2⟩:=DataW.trod_array hu hd;rw[hct]at hl;rw[hce]at y2;have hlk:cs.length=(0+k)*ie.size:=by rw[hl,hse];simp
   have g:∀i,∃xs,(i*ie.size+ie.size≤cs.length→Shp T n e xs∧VRl W (Zw W) Env.no xs ((cs.drop (i*ie.size)).take ie.size))∧∀v∈(cs.drop (i*ie.size)).take ie.size,i*ie.size+ie.size≤cs.length→v.oneCell'=true:=by
    intro i;by_cases hi:i<k
    ·have h1:=y2 i hi;rw[zS (by rw[y1];exact hi)]at h1;obtain ⟨xs,s1,s2,s3⟩:=ih e _ m _ hpe h1;exact ⟨xs,fun _=>⟨s1,s2⟩,fun v hv _=>s3 v hv⟩
    ·refine ⟨[],fun h=>absurd h ?_,fun v hv h=>absurd h ?_⟩<;>
     ·rw[hlk,zP];have h1:(k+1)*ie.size≤(i+1)*ie.size:=wN _ (by omega);rw[wV,wV]at h1;omega
   obtain ⟨xs,s1,s2,s3⟩:=zPS g k 0 hlk;exact ⟨xs,by unfold Shp;rw[hg];exact s1,by simpa using s2,by simpa using s3⟩
  ·cases hp
theorem zIQ{f:FuncId}{fn:Func}{args:Array Value}{K:Value→World→Prop}(h1:P.funcs[f]?=some fn)(h2:fn.body.isNone=false)(h3:(fn.name== "runtime.NumGoroutine")=false)(h:zES P K ((callFunc f args).run P W)):Calls P f args W fun e w''=>∃v,e= .returned v∧K v w'':=by
 rw[zAk h1 h2 h3]at h;exact h
theorem zQB:HRel Env.no (fun _=>none) W:=⟨fun n b h=>(by cases h),fun n m b c i j h=>(by cases h)⟩
theorem zSd:Zn Env.no (fun _=>none) W=Zw W:=by
 funext b;apply propext;exact ⟨fun h=>h.1,fun h=>⟨h,fun n c i hn=>by cases hn⟩⟩
theorem zLh{f:FuncId}{fn:Func}{xs:List PV}(hc:Con P f xs (fun _=>none) 0 0 0 (.bool true) [] []){args:List Value}(hv:VRl W (Zw W) Env.no xs args)(h1:P.funcs[f]?=some fn)(h2:fn.body.isNone=false)(h3:(fn.name== "runtime.NumGoroutine")=false):
  Calls P f args.toArray W fun e w'=>e= .returned (.bool true)∧Go.RowKit.Below W.heap.size W w':=by
 have h:=hc.2 (fun _=>none) (fun _ _=>rfl) Env.no W args zQB (fun _ _ _=>rfl) (fun _ _=>rfl) (by rw[zSd];exact hv);have h:=zIQ h1 h2 h3 h;refine Calls.mono h ?_
 rintro e w' ⟨v,rfl,E',q1,q2,_⟩
 simp only[VR]at q1;subst q1;exact ⟨rfl,⟨q2.os,q2.tape,q2.output,q2.size,fun k hk=>q2.keep k hk fun n b i hn=>by cases hn⟩⟩
section
variable {n : Nat} {t : TypeId} {xs zr : List PV} {s b : Nat} {q : Bool} {ls : List (Nat × TypeId)}
theorem Shp.bool(hg:T.get t=some ⟨.bool,zr,s,b,q,ls⟩)(h:Shp T (n+1) t xs):∃b,xs=[.bool b]:=by unfold Shp at h;rw[hg]at h;exact h
theorem Shp.int{k:IntKind}(hg:T.get t=some ⟨.int k,zr,s,b,q,ls⟩)(h:Shp T (n+1) t xs):∃m,xs=[.int k m]∧(Lit.int k m).wf=true:=by unfold Shp at h;rw[hg]at h;exact h
theorem Shp.str(hg:T.get t=some ⟨.str,zr,s,b,q,ls⟩)(h:Shp T (n+1) t xs):∃s:List UInt8,xs=[.str s]∧s.length≤maxLen:=by unfold Shp at h;rw[hg]at h;exact h
theorem Shp.slice{e:TypeId}(hg:T.get t=some ⟨.slice e,zr,s,b,q,ls⟩)(h:Shp T (n+1) t xs):∃wd rs,xs=[.fs wd rs]∧rs.length≤maxLen∧(T.get e).map (·.size)=some wd∧∀r∈rs,Shp T n e r:=by unfold Shp at h;rw[hg]at h;exact h
theorem Shp.struct{fs:List (Nat×TypeId)}(hg:T.get t=some ⟨.struct fs,zr,s,b,q,ls⟩)(h:Shp T (n+1) t xs):fs.foldr (fun f k ys=>∃a b,ys=a++b∧Shp T n f.2 a∧k b) (fun ys=>ys=[]) xs:=by unfold Shp at h;rw[hg]at h;exact h
theorem Shp.array{m:Nat}{e:TypeId}(hg:T.get t=some ⟨.array m e,zr,s,b,q,ls⟩)(h:Shp T (n+1) t xs):(List.range m).foldr (fun _ k ys=>∃a b,ys=a++b∧Shp T n e a∧k b) (fun ys=>ys=[]) xs:=by unfold Shp at h;rw[hg]at h;exact h
end
theorem zCF(hT:T.Ok P){n:Nat}{t:TypeId}{v:Value}{d:DataW H}{ps:List MemPlace}(hp:plT T n t=true)(h:DataW.Trod enc P W 0 spare held t v d ps):
  ∃xs,Shp T n t xs∧VRl W (Zw W) Env.no xs v.cells.toList∧∀u∈v.cells.toList,u.oneCell'=true:=by
 obtain ⟨fuel,hf⟩:=h;exact zQA hT n t _ fuel _ hp hf
theorem zKp{xs:List PV}{cs:Array Value}(h:VRl W (Zw W) Env.no xs cs.toList)(h1:∀u∈cs.toList,u.oneCell'=true):VR W (Zw W) Env.no (.agg xs) (.agg cs):=by
 simp only[VR];exact ⟨cs.toList,by simp,h1,h⟩
end
end Go.Tx
end
section
namespace Go.Tx
open Go.ChangeShapes Go.WideShapes Go.ChangeAt Go.RowKit
section
variable {H : Type} {enc : TypeId × Value → H} {P : Program} {W W' : World}
theorem zFA(hl:laidOutB P=true)(hb:Below W.heap.size W W'):∀(ts:List TypeId) (vs:List Value) (ds:List (DataW H)) (ps:List MemPlace),(∀t∈ts,P.readableRec t=true∧t<P.types.size)→(∀x∈ps,x.block<W.heap.size)→DataW.TrodAll enc P W 0 (fun _=>true) true ts vs ds ps→
  DataW.TrodAll enc P W' 0 (fun b=>decide (b<W.heap.size)) true ts vs ds ps
 | [],[],[],ps,_,_,h=>h
 |t::ts,v::vs,d::ds,ps,ht,hp,h=>by
  obtain ⟨p,q,h1,h2,rfl⟩:=h;refine ⟨p,q,Below.trod hl (ht t (by simp)).1 (ht t (by simp)).2 h1 hb (fun x hx=>hp x (by simp[hx])),zFA hl hb ts vs ds q (fun u hu=>ht u (by simp[hu])) (fun x hx=>hp x (by simp[hx])) h2,rfl⟩
 | [],_::_,_,_,_,_,h=>h.elim
 | [],[],_::_,_,_,_,h=>h.elim
 |_::_,[],_,_,_,_,h=>h.elim
 |_::_,_::_,[],_,_,_,h=>h.elim
theorem zLi{f:Func}{s:ChangeSpec}{apart fresh handsOn:Bool}{args:Array Value}{ds:List (DataW H)}{before:List MemPlace}{tb:TypeId}
  (hW:DataW.Whole enc P f.params.toList s.vars apart W args.toList ds [] before)(hv:s.vars=[])(hres:f.resultTypes= #[tb])(hb4:P.underlying tb=some .bool)
  (h1:(s.fn H (ds++[])).results=[.lit (.bool true)])(h2:(s.fn H (ds++[])).args=ds)(h3:(s.fn H (ds++[])).vars=[])
  (hl:laidOutB P=true)(hpar:∀t∈f.params.toList,P.readableRec t=true∧t<P.types.size)(hb:Below W.heap.size W W'):
  s.post enc P f apart fresh handsOn false W args (.bool true) W':=by
 have hlt:∀p∈before,p.block<W.heap.size:=fun p hp=>by simpa using hW.lt p hp
 have hW2:=hW;obtain ⟨p,q,hA,hV,hpq,_,_⟩:=hW2;rw[hv]at hV;obtain ⟨_,rfl⟩:=trodVars_none hV;rw[zK]at hpq;subst hpq;refine ⟨ds,[],before,[],before,[],hW,?_,?_,?_,hb.frame _,fun h=>by cases h⟩
 ·rw[h1,hres];exact trodAll_mk1 (shut_bool hb4 _)
 ·rw[h2];exact zFA hl hb _ _ _ _ hpar hlt hA
 ·rw[h3,hv];exact rfl
end
end Go.Tx
end
section
namespace Go.Tx
attribute [go_sem ↓] zOP zOQ zON zOO zMe zLd zLe zHq zG5 zRT zSa zRU zSb zRV zP3 zRW zOT zMd zP6 zP4 zP5 zIN zGE zHn zSY zRO zSZ zRP zRQ zP0 zRR zRX zRY zRZ zRa zP1 zOS zMc zMV zMX zMZ zOR zOM zPz
attribute [go_sem] zMb zMa zHq zG5 zRA zRJ zRK zSP zRL zHl zDO zEm zQ8 zBn zJz zCy zAu zBG zDr zBq zCC zCB zCT zKW zDH zAy zDI zH5 zCa zDq zCD zB3 zFV zEj zDJ zJh zCo zE5 zCZ zKb zGp zDK zDl zF9 zBE zBT zEY zFu zBh zB9 zCx zB8 zB7 zBs zB5 zCL zAz zDN vals zEd zEc zAn zAH zCR zI3 Option.all_some Option.all_none zAl setH Tx.look SF.upd SF.set putAt zGb zBp Go.Sx.zBe zGc zHg zQ7 zJi zRG zFs ofV zKV keys zAN zMF nf nfl zCU List.map List.length List.replicate List.getD_cons_zero List.getD_cons_succ List.set_cons_zero List.set_cons_succ List.cons_append List.nil_append List.append_nil List.drop_zero List.drop_succ_cons List.drop_nil List.take_succ_cons List.take_zero List.take_nil List.contains List.elem Bool.and_true Bool.true_and Bool.or_false Bool.false_or Bool.and_false Bool.false_and Bool.or_true Bool.true_or Bool.not_true Bool.not_false Bool.false_eq_true if_true if_false true_and and_true false_and Option.map_some Option.map_none Option.bind_some Option.bind_none Option.getD_some Option.isSome_some Option.isSome_none List.getElem?_cons_zero List.getElem?_cons_succ beq_self_eq_true bne_self_eq_false decide_true decide_false Value.oneCell' List.all_cons List.all_nil List.foldl_cons List.foldl_nil Go.Sx.zGJ Int.toNat_natCast forall_const false_implies Nat.zero_mul Nat.add_zero Nat.zero_add zBV zB6 List.contains_cons Option.getD_some Nat.add_zero if_true if_false Bool.false_eq_true Int.toNat_natCast zC5 zFf zG2 one
attribute [go_sem_proc] Nat.reduceSub Nat.reduceAdd Nat.reduceMul Nat.reduceEqDiff Nat.reduceLT Nat.reduceLeDiff Nat.reduceBEq Nat.reduceBNe reduceIte reduceCtorEq Int.reduceToNat String.reduceEq
end Go.Tx
end
section
namespace Go.Tx
open Go.Sx (zAB)
theorem zHt(F:SF):∀(l:List Nm) (n:Nm),n∈keys (unown F l)→n∈l
 | [],_,h=>by simp[unown,keys]at h
 | m::l,n,h=>by
  simp only[unown,keys,wQ,vS]at h;rcases h with h|h
  ·have:n=m:=by
    split at h<;>simp at h<;>exact h
   simp[this]
  ·exact List.mem_cons_of_mem _ (zHt F l n h)
theorem StepR.freeze{E:Env}{F:SF}{w:World}(h:HRel E F w){n:Nm}{e:TypeId}{wd:Nat}{o:Bool}{rs rs1:List (List PV)}(hn:F n=some (.rows e wd o false rs))(hw:zHp F rs rs1)(hne:n∉zCA rs rs1):
  StepR E F w E ((F.upd (unown F (zCA rs rs1))).set n (.rows e wd o false rs1)) w:=by
 generalize hns:zCA rs rs1=ns at hne ⊢;have hle:SLe (F.upd (unown F ns)) F:=zED F ns;have hS:=zUS h hle;have hFn:F.upd (unown F ns) n=some (.rows e wd o false rs):=by
  rw[zA6,zAc (fun hk=>hne (zHt F ns n hk))];exact hn
 let F4:SF:=(F.upd (unown F ns)).set n (.rows e wd o false rs1)
 have hown:∀m b,F4 m=some b→b.own=true→∃c,F m=some c∧c.own=true:=by
  intro m b hb ho;simp only[F4,SF.set]at hb;split at hb
  ·rename_i he;subst he;injection hb with hb;subst hb;exact ⟨_,hn,ho⟩
  ·exact ⟨b,hle.own hb ho,ho⟩
 have hown3:∀m b,F4 m=some b→b.own=true→∃c,(F.upd (unown F ns)) m=some c∧c.own=true:=by
  intro m b hb ho;simp only[F4,SF.set]at hb;split at hb
  ·rename_i he;subst he;injection hb with hb;subst hb;exact ⟨_,hFn,ho⟩
  ·exact ⟨b,hb,ho⟩
 have hlive:∀m b,F4 m=some b→b.live=true→∃c,F m=some c∧c.live=true:=by
  intro m b hb ho;simp only[F4,SF.set]at hb;split at hb
  ·rename_i he;subst he;exact ⟨_,hn,rfl⟩
  ·rcases hle m b hb with rfl|h1|⟨_,_,_,_,h1,_⟩|⟨_,_,_,h1,_⟩;·cases ho
   ·exact ⟨b,h1,ho⟩
   ·exact ⟨_,h1,rfl⟩
   ·exact ⟨_,h1,rfl⟩
 have hzone:∀q,Zn E (F.upd (unown F ns)) w q→Zn E F4 w q:=by
  rintro q ⟨k1,k2⟩
  refine ⟨k1,fun m b i hm ho hi hz=>?_⟩;obtain ⟨c,c1,c2⟩:=hown3 m b hm ho;exact k2 m c i c1 c2 hi hz
 have hX:Ext E w (Zn E (F.upd (unown F ns)) w) E w (Zn E F4 w):=⟨Env.le.refl _,hzone,fun _ _=>rfl⟩;have hrel:HRel E F4 w:=by
  refine ⟨fun m b hm=>?_,fun m1 m2 b c i j h1 h2 h12 ho hl hi hj hz1 hz2=>?_⟩
  ·by_cases hmn:m=n
   ·subst hmn;have hb:b= .rows e wd o false rs1:=by
     simp only[F4,SF.set,if_true]at hm;injection hm with hm;exact hm.symm
    subst hb;obtain ⟨i,hi,hor⟩:=h.blk m _ hn;refine ⟨i,hi,?_⟩;rcases hor with ⟨z1,rfl,z3,z4⟩|⟨hz,hRr⟩
    ·refine .inl ⟨z1,?_,z3,z4⟩;cases rs1 with
     |nil=>rfl
     |cons a l=>simp[zHp]at hw
    ·refine .inr ⟨hz,?_⟩;obtain ⟨cs,fz,b1,b2,b3,b4⟩:=hRr.cells;obtain ⟨l1,l2⟩:=zE9 hw;have hlen1:∀row∈rs1,row.length=wd:=by
      intro row hrow;obtain ⟨r,hr⟩:=vW hrow;have hlt:=zAB hr;have hr0:=zS (l:=rs) (i:=r) (by omega);obtain ⟨k1,_⟩:=l2 r _ row hr0 hr;rw[←(zDV k1).1];exact hRr.len _ (zO hr0)
     refine ⟨hRr.wd_eq,hRr.o0,hRr.wd_pos,hlen1,by rw[←l1];exact hRr.le,hRr.cap,cs,fz,b1,b2,b3,?_⟩;refine (zAM hlen1).2 fun r row1 c y hr1 hc1=>?_
     have hlt:=zAB hr1;have hr0:=zS (l:=rs) (i:=r) (by omega);obtain ⟨k1,k2⟩:=l2 r _ row1 hr0 hr1;obtain ⟨k3,k4⟩:=zDV k1;have hct:=zAB hc1;have hc0:=zS (l:=rs[r]) (i:=c) (by omega);obtain ⟨k5,k6⟩:=k4 c _ y hc0 hc1;obtain ⟨u,a1,a2,a3⟩:=(zAM hRr.len).1 b4 r _ c _ hr0 hc0;refine ⟨u,a1,a2,?_⟩;have hno:∀m∈wkN (rs[r])[c] y,∀c,(F.upd (unown F ns)) m=some c→c.own=false:=fun m hm c hc=>zDv (by rw[←hns];exact k2 m (k6 m hm)) hc
     exact VR.mono hX _ _ (zJw h hle _ y u k5 hno a3)
   ·have hm':(F.upd (unown F ns)) m=some b:=by simp only[F4,SF.set,if_neg hmn]at hm;exact hm
    exact (hS.rel.blk m b hm').mono hX fun _ _ _=>rfl
  ·obtain ⟨c1,d1,d2⟩:=hown m1 b h1 ho;obtain ⟨c2,e1,e2⟩:=hlive m2 c h2 hl;exact h.sep m1 m2 c1 c2 i j d1 e1 h12 d2 e2 hi hj hz1 hz2
 refine ⟨Env.le.refl _,hrel,rfl,rfl,rfl,zH _,fun _ _ _=>rfl,fun m b i hm ho hi hz=>?_⟩;obtain ⟨c,c1,c2⟩:=hown m b hm ho;exact .inr ⟨m,c,i,c1,c2,hi,hz,rfl⟩
theorem zFg(l l':List (Nm×SBlk))(F:SF):F.upd (l++l')=(F.upd l).upd l':=by
 induction l generalizing F with
 |nil=>rfl
 |cons a l ih=>obtain ⟨n,b⟩:=a;exact ih _
theorem Con.frz{P:Program}{f:FuncId}{args:List PV}{F:SF}{L nx top:Nat}{v:PV}{upd:List (Nm×SBlk)}{rd:List Nm}{n:Nm}{e:TypeId}{wd:Nat}{o:Bool}{rs rs1:List (List PV)}(hn:F n=some (.rows e wd o false rs))(hw:zHp F rs rs1)(hne:n∉zCA rs rs1)
  (hc:Con P f args (F.upd (unown F (zCA rs rs1)++[(n,.rows e wd o false rs1)])) L nx top v upd rd):Con P f args F L nx top v (unown F (zCA rs rs1)++[(n,.rows e wd o false rs1)]++upd) (n::(zCA rs rs1++rd)):=by
 refine ⟨hc.1,fun F2 hF2 E w args' hR hfr hdp hv=>?_⟩;have hu:unown F2 (zCA rs rs1)=unown F (zCA rs rs1):=by
  have:∀l:List Nm,(∀m∈l,F2 m=F m)→unown F2 l=unown F l:=by
   intro l;induction l with
   |nil=>intro _;rfl
   |cons m l ih=>intro h;simp only[unown,h m (by simp),ih (fun q hq=>h q (by simp[hq]))]
  exact this _ (fun m hm=>hF2 m (by simp[hm]))
 have hw2:zHp F2 rs rs1:=by
  have:∀a b:List (List PV),(∀m∈zCA a b,F2 m=F m)→zHp F a b→zHp F2 a b:=by
   intro a;induction a with
   |nil=>intro b _ h;cases b<;>simp[zHp]at h ⊢
   | cons r a ih=>
    intro b hm h;cases b with
    |nil=>simp[zHp]at h
    |cons r' b=>
     simp only[zHp]at h ⊢;exact ⟨zE7 h.1 (fun m hq=>hm m (by simp[zCA,hq])),ih b (fun m hq=>hm m (by simp[zCA,hq])) h.2⟩
  exact this _ _ (fun m hm=>hF2 m (by simp[hm])) hw
 have hS:=StepR.freeze hR ((hF2 n (by simp)).trans hn) hw2 hne;rw[hu]at hS;have hF4:∀G:SF,G.upd (unown F (zCA rs rs1)++[(n,.rows e wd o false rs1)])=(G.upd (unown F (zCA rs rs1))).set n (.rows e wd o false rs1):=fun G=>by rw[zFg];rfl
 rw[←hF4]at hS;have hL:=hc.2 (F2.upd (unown F (zCA rs rs1)++[(n,.rows e wd o false rs1)])) (fun m hm=>by rw[zA6,zA6];exact zGq (hF2 m (by simp[hm]))) E w args' hS.rel hfr hdp (VRl.mono hS.ext _ _ hv);have conv:∀v' w',zBH E (F2.upd (unown F (zCA rs rs1)++[(n,.rows e wd o false rs1)])) w L nx top v upd v' w'→zBH E F2 w L nx top v (unown F (zCA rs rs1)++[(n,.rows e wd o false rs1)]++upd) v' w':=by
  rintro v' w' ⟨E',q1,q2,q3⟩
  unfold zBH;rw[zFg _ upd];exact ⟨E',q1,hS.trans q2,q3⟩
 unfold zES Sx.zES at hL ⊢;split at hL;·exact conv _ _ hL
 ·exact conv _ _ hL
 ·intro cs;obtain ⟨e,w',fr,⟨v',he,hK⟩,hrest⟩:=hL cs;exact ⟨e,w',fr,⟨v',he,conv _ _ hK⟩,hrest⟩
 ·exact hL
theorem Sub.mem{L:Nat}{F0:SF}{t:List (Option PV)}{H H':List (Nm×SBlk)}{nx:Nat}(h:∀(E:Env) (w:World),HRel E (look F0 H) w→StepR E (look F0 H) w E (look F0 H') w):Sub L F0 ⟨t,H,nx⟩ ⟨t,H',nx⟩:=by
 intro B E0 w0 E a w hd0 hR;have hS:=h E w hR.step.rel;refine ⟨E,hR.step.trans hS,⟨by simpa using hR.tmps.size,fun i v hv=>?_⟩,hR.marks.mono hS.ext,hR.news⟩;obtain ⟨v',a1,a2⟩:=hR.tmps.val i v hv;exact ⟨v',a1,VR.mono hS.ext _ _ a2⟩
theorem Sub.freeze{L:Nat}{F0:SF}{t:List (Option PV)}{H:List (Nm×SBlk)}{nx:Nat}{n:Nm}{e:TypeId}{wd:Nat}{o:Bool}{rs:List (List PV)}(rs1:List (List PV))(hn:look F0 H n=some (.rows e wd o false rs))(hw:zHp (look F0 H) rs rs1)(hne:n∉zCA rs rs1):
  Sub L F0 ⟨t,H,nx⟩ ⟨t,zAl H (unown (look F0 H) (zCA rs rs1)++[(n,.rows e wd o false rs1)]),nx⟩:=
 Sub.mem fun E w hR=>by
  rw[zAP,zFg];exact StepR.freeze hR hn hw hne
end Go.Tx
end
section
namespace Go.Tx
theorem zUu{L:Nat}{F0:SF}{t:List (Option PV)}{H:List (Nm×SBlk)}{nx:Nat}(d:Nat){v:PV}(v':PV)(hd:t[d]?=some (some v))(hw:Wk (look F0 H) v v'):
  Sub L F0 ⟨t,H,nx⟩ ⟨t.set d (some v'),zAl H (unown (look F0 H) (wkN v v')),nx⟩:=by
 intro B E0 w0 E a w hd0 hR;have hle:=zED (look F0 H) (wkN v v');have hS:=zUS hR.step.rel hle;refine ⟨E,by rw[zAP];exact hR.step.trans hS,⟨by simpa using hR.tmps.size,fun i x hx=>?_⟩,by rw[zAP];exact hR.marks.mono hS.ext,hR.news⟩;simp only[TF,zE,vQ]at hx;rw[zAP];by_cases hi:d=i
 ·subst hi;rw[if_pos rfl]at hx;have hlt:=Sx.zAB hd;rw[if_pos hlt]at hx;simp at hx;subst hx;obtain ⟨y,a1,a2⟩:=hR.tmps.val d v (by simp[TF,zE,hd]);exact ⟨y,a1,zJw hR.step.rel hle _ _ _ hw (fun n hn c hc=>zDv hn hc) a2⟩
 ·rw[if_neg hi]at hx;obtain ⟨y,a1,a2⟩:=hR.tmps.val i x (by simpa[TF,zE] using hx);exact ⟨y,a1,VR.mono hS.ext _ _ a2⟩
end Go.Tx
end
section
namespace Go.Tx
open Go.Sx (zAB)
def Cx.dying(C:Cx)(ch:List PanicEntry)(dq:St→Prop):Cx:=⟨C.P,C.T,C.ms,C.wr,C.L,C.ro,C.ys,C.B,true,ch,dq⟩
section
variable (C : Cx) (ch : List PanicEntry) (dq : St → Prop)
theorem zQC:(C.dying ch dq).P=C.P:=rfl
theorem zOX:(C.dying ch dq).ch=ch:=rfl
theorem zQD:(C.dying ch dq).T=C.T:=rfl
theorem zOY:(C.dying ch dq).ms=C.ms:=rfl
theorem zOZ:(C.dying ch dq).wr=C.wr:=rfl
theorem zQE:(C.dying ch dq).L=C.L:=rfl
theorem zOa:(C.dying ch dq).ro=C.ro:=rfl
theorem zOb:(C.dying ch dq).ys=C.ys:=rfl
theorem zOc(h:C.Ok):(C.dying ch dq).Ok:=⟨h.T,h.A,h.mixed,h.ms⟩
end
theorem zOd(C:Cx)(ch:List PanicEntry)(dq:St→Prop)(x p:Prop):RegVX (C.dying ch dq) x p=p:=rfl
attribute [go_sem ↓] zOd
attribute [go_sem] zOX
attribute [go_sem] zQC zQD zOY zOZ zQE zOa zOb
def PostD(F:SF)(L:Nat)(upd:List (Nm×SBlk))(st:St):Prop:=UpdN L 0 [] (look F st.H) upd∧UpdAll L (keys upd) st.H
theorem zKq{C:Cx}{E:Env}{F3:SF}{w:World}{args:List PV}{args':List Value}(hR:HRel E F3 w)(hargs:VRl w (Zn E F3 w) E args args')(n:Nat):
  Rel [] C.L F3 E w E ⟨zBn args n,[],0⟩ {tmps:=args'.toArray++Array.replicate (n-args'.toArray.size) undef,defers:=[]} w:=by
 obtain ⟨hlen,hget⟩:=VRl.get hargs;refine ⟨StepR.refl hR,⟨by simp[zBn,hlen],fun i x hx=>?_⟩,MarksOk.nil,fun n h1 h2=>absurd h1 h2⟩;simp only[TF,zBn]at hx;rw[zE]at hx;by_cases hi:i<args.length
 ·rw[wO (by simpa using hi)]at hx;simp only[wE]at hx;cases hy:args[i]? with
  |none=>rw[hy]at hx;cases hx
  |some y=>
   rw[hy]at hx;simp at hx;subst hx;obtain ⟨v',a1,a2⟩:=hget i y hy;refine ⟨v',?_,a2⟩;rw[uR (by simp;omega)];simpa using a1
 ·rw[wZ (by simp;omega)]at hx;simp only[zG,uT]at hx;split at hx;rotate_left;·cases hx
  rename_i hlt;simp at hx;subst hx;refine ⟨undef,?_,zBr⟩;rw[qO (by simp;omega)];simp only[uO,qX];rw[if_pos (by omega)]
theorem zG6{E E':Env}{F2:SF}{w w':World}{L:Nat}{st:St}{upd:List (Nm×SBlk)}(hR:HRel E F2 w)(hdp:∀n:Nm,L<n.l→E n=none)
  (hstep0:StepR E (zEe L F2) w E' (look (zEe L F2) st.H) w')(hnews:∀n,E n=none→E' n≠none→n.l=L+1)(h:PostD (zEe L F2) L upd st):DGives E F2 w upd w':=by
 have:=zDy (k:=0) (nx:=0) (news:=[]) (v0:=.tup []) (v1:=.tup []) (v':=.tuple #[]) hR (fun j _ h=>by omega) hdp hstep0 hnews rfl (by simp) (by simp[Wk,WkL]) (by simp[wkN,zAt]) (by simp[nmA,zDf]) h.1 h.2 (by simp only[VR,VRl];exact ⟨[],rfl,rfl⟩);obtain ⟨E2,_,h2,h3⟩:=this;refine ⟨E2,h2,fun n hn=>?_⟩;cases he:E2 n with
 |none=>rfl
 |some x=>have:=h3 n hn (by rw[he];simp);omega
theorem IDCon.body{C:Cx}(hC:C.Ok)(hro:C.ro=none){ch:List PanicEntry}{f:FuncId}{fn:Func}{c:Code}(hf:C.P.funcs[f]?=some fn)(hb:fn.body=some c)(hnum:(fn.name== "runtime.NumGoroutine")=false){args:List PV}{F:SF}{L:Nat}(hL:C.L=L+1){upd:List (Nm×SBlk)}{rd:List Nm}(hrd:∀n∈rd,n.l≤L)
  (H:∀F3:SF,(∀n∈rd,F3 n=F n)→(∀n:Nm,L<n.l→F3 n=none)→vcC (C.dying ch (PostD F3 L upd)) F3 c ⟨zBn args fn.ntmps,[],0⟩ (fun _ _=>False))(hB:C.B=[]:=by rfl):IDCon C.P C.ys ch f args F L upd rd:=by
 refine fun F2 hF2 E w args' hR hdp hargs hy=>?_
 let F3:SF:=zEe L F2
 have h3:SLe F3 F2:=zEo L F2;have hS0:=zUS hR h3;have hvc:=H F3 (fun n hn=>by simp only[F3,zEe];rw[if_pos (hrd n hn)];exact hF2 n hn) (fun n hn=>by simp only[F3,zEe];rw[if_neg (by omega)]);have hdom:zGD C.L E:=fun n hn=>hdp n (by omega)
 have htp:=zG1 (w0:=w) (zOc C ch _ hC) (show zGD (C.dying ch (PostD F3 L upd)).L E from hdom) (show InvY (C.dying ch (PostD F3 L upd)).ys E F3 w from hy.step hR hS0) hS0.rel c _ _ hvc;have hrel:=zKq (C:=C) hS0.rel (VRl.mono hS0.ext _ _ hargs) fn.ntmps;have hcall:Calls C.P f args'.toArray w fun e w'=>e= .panicked ch∧DGives E F2 w upd w':=by
  rw[←callsIn_wide (n:=0)];refine callsIn_of_wp_marks hf hb trivial ?_;have hW:W C.ro=Fence.wide:=by rw[hro];rfl
  rw[←hW];refine wpIn_mono (htp _ _ E (by show Rel C.B C.L _ _ _ _ _ _ _;rw[hB];exact hrel)) ?_
  rintro e a w' ⟨st,hq,E',hRl⟩
  rcases hq with hq|⟨_,rfl,hq⟩;·exact hq.elim
  obtain ⟨Ds,d1,d2,d3⟩:=hRl.marks;show LeavesInM (W C.ro) 0 C.P fn a.tmps _ a.defers (.panicking ch) w';rw[d2];refine zCc (by simp) Ds w' d1 (fun D hD=>⟨(d3 D hD).1,(d3 D hD).2.2⟩) hRl.step hRl.tmps fun w'' s1 s2=>?_
  show LeavesInM (W C.ro) 0 C.P fn a.tmps _ C.B (.panicking ch) w'';rw[hB];exact ⟨rfl,zG6 hR hdp s1 (fun n h1 h2=>by have:=(hRl.news n h1 h2).1;exact this.trans hL) hq⟩
 have hrun:(callFunc f args'.toArray).run C.P w= .ok (.enter f args'.toArray) w:=zAk hf (by rw[hb];rfl) hnum;rw[hrun];exact hcall
theorem DCon.body{C:Cx}(hC:C.Ok)(hro:C.ro=none)(hys:C.ys=[]){ch:List PanicEntry}{f:FuncId}{fn:Func}{c:Code}(hf:C.P.funcs[f]?=some fn)(hb:fn.body=some c)(hnum:(fn.name== "runtime.NumGoroutine")=false){args:List PV}{F:SF}{L:Nat}(hL:C.L=L+1){upd:List (Nm×SBlk)}{rd:List Nm}(hrd:∀n∈rd,n.l≤L)
  (H:∀F3:SF,(∀n∈rd,F3 n=F n)→(∀n:Nm,L<n.l→F3 n=none)→vcC (C.dying ch (PostD F3 L upd)) F3 c ⟨zBn args fn.ntmps,[],0⟩ (fun _ _=>False))(hB:C.B=[]:=by rfl):DCon C.P ch f args F L upd rd:=by
 have h:=IDCon.body hC hro (ch:=ch) hf hb hnum hL hrd H hB;rw[hys]at h;exact h.con
theorem DCon.agree{P:Program}{ch:List PanicEntry}{f:FuncId}{args:List PV}{F F':SF}{L:Nat}{upd:List (Nm×SBlk)}{rd:List Nm}(h:DCon P ch f args F L upd rd)(ha:∀n∈rd,F' n=F n):DCon P ch f args F' L upd rd:=
 fun F2 h2=>h F2 fun n hn=>(h2 n hn).trans (ha n hn)
theorem CallVD.same{C:Cx}{p:Prop}{F0:SF}{t:List (Option PV)}{H:List (Nm×SBlk)}{nx:Nat}{f:FuncId}{asx:List PV}(hd:C.dies=true){upd:List (Nm×SBlk)}{rd:List Nm}(hc:DCon C.P C.ch f asx (look F0 H) C.L upd rd)(hk:C.dq ⟨t,zAl H upd,nx⟩):CallVD C p F0 t H nx f asx:=by
 obtain ⟨h1,h2⟩:=zDW (look F0 H) asx;refine .die hd ⟨asx,upd,rd,h1,?_,?_⟩;·rw[h2];exact hc
 ·rw[h2];exact hk
theorem PostD.of{F:SF}{L:Nat}{upd:List (Nm×SBlk)}{st:St}(h1:UpdN L 0 [] (look F st.H) upd)(h2:UpdAll L (keys upd) st.H):PostD F L upd st:=⟨h1,h2⟩
end Go.Tx
end
namespace Go.Tx
theorem zTG{a:List Oper}{b:Nat}(h:zA7 a b=true):zA7 a b=true:=h
theorem sd1{A B:Prop}(h:B)(a:A:=by first|omega|exact ⟨by omega,by omega⟩|exact ⟨by omega,by omega,by omega⟩|exact ⟨⟨by omega,by omega⟩,by omega,by omega⟩|exact zAA (fun x=>x.i) (by kernel_rfl)|kernel_rfl|exact zAA (fun _=>0) (by kernel_rfl)):A∧B:=⟨a,h⟩
theorem nqL(L:Nat){i p:Nat}(h:p<10000*(i+1)):(∀kk,(10000*(i+1)+kk=p)=False)∧(∀kk,(p=10000*(i+1)+kk)=False)∧(10000*(i+1)=p)=False∧(p=10000*(i+1))=False∧∀kk,((⟨L+1,p⟩:Nm)==⟨L+1,10000*(i+1)+kk⟩)=false:=⟨fun kk=>by apply eq_false;omega,fun kk=>by apply eq_false;omega,by apply eq_false;omega,by apply eq_false;omega,fun kk=>by simp;omega⟩
theorem sd2{A B:Prop}(h:B)(a:A:=by first|omega|exact ⟨by omega,by omega⟩|exact ⟨by omega,by omega,by omega⟩|exact ⟨⟨by omega,by omega⟩,by omega,by omega⟩|exact zTG (by kernel_rfl)):A∧B:=⟨a,h⟩
theorem hfz{F:SF}{L:Nat}(h:∀n:Nm,L<n.l→F n=none)(n:Nm)(hn:n.l=L+1):F n=none:=h n (by omega)
theorem PostF.rs{T:Tys}{F:SF}{rl:List ResultVar}{L:Nat}{v:PV}{e:Exit}{st:St}{v0:PV}(he:e= .normal∨e= .ret)(hw:Wk (look F st.H) v0 v:=by simp[Wk,WkL,Tx.look,zQ])(h:zC5 T (look F st.H) st.t rl=some (True,v0):=by simp only[go_sem])(hn:∀n∈wkN v0 v,n.l=L+1:=by simp[wkN,zAt])(hf:Tx.nf v=true:=by simp[Tx.nf,nfl])(ha:UpdAll L (keys ([]:List (Nm×SBlk))) st.H:=by simp[UpdAll,keys]):PostF T F rl L v [] e st:=PostF.of (p:=True) he h trivial hw hn hf trivial ha
theorem Sub.o{L:Nat}{F0:SF}{st st':St}(hF:∀n:Nm,L<n.l→F0 n=none)(h2:zAi F0 st.H st'.H)(h1:zAf st.t st'.t:=by simp only[go_sem,zAf,and_self,zY,zW])(h3:zAs (L+1) (keys st'.H) st.H:=by simp[zAs,keys])(h4:st.nx≤st'.nx:=by simp only[];omega):Sub (L+1) F0 st st':=Sub.of (hfz hF) h1 h2 h3 h4
theorem po0{T:Tys}{F:SF}{rl:List ResultVar}{L:Nat}{v:PV}{upd:List (Nm×SBlk)}{e:Exit}{st:St}(v0:PV)(hu:UpdIn L (look F st.H) upd)(ha:UpdAll L (keys upd) st.H:=by simp[UpdAll,keys])(he:e= .normal∨e= .ret:=by first|exact .inl rfl|exact .inr rfl)(h:zC5 T (look F st.H) st.t rl=some (True,v0):=by simp only[go_sem])(hw:Wk (look F st.H) v0 v:=by simp[Wk,WkL])(hn:∀n∈wkN v0 v,n.l=L+1:=by simp[wkN,zAt])(hf:Tx.nf v=true:=by simp[Tx.nf,nfl]):PostF T F rl L v upd e st:=PostF.of (p:=True) he h trivial hw hn hf hu ha
theorem so0{L:Nat}{F0:SF}{st st':St}(hF:∀n:Nm,L<n.l→F0 n=none)(h4:st.nx≤st'.nx:=by simp)(h1:zAf st.t st'.t:=by(simp only[go_sem,zAf,and_self];try trivial))(h2:zAi F0 st.H st'.H:=by simp[zAi,Tx.look])(h3:zAs (L+1) (keys st'.H) st.H:=by simp[zAs,keys]):Sub (L+1) F0 st st':=Sub.of (hfz hF) h1 h2 h3 h4
theorem zEG{ops:List Oper}{fps:List (List Nm×List Nm)}{m:Nm}{L:Nat}(m2:∀k,((⟨L+1,k⟩:Nm)=m)=False)(h:zMi ops (fps.map (zA0 (fun x=>if x=m then 1 else x.i+2)))=true:=by simp only[zA0,List.map,m2,if_true,if_false];kernel_rfl):zFa ops fps=true:=zAA _ h
end Go.Tx
