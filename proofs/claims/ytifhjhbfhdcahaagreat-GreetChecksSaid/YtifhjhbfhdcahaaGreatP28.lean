/- Lemmas for the walk: GD52, GK156, GK157, U49, GK120, GK121, GK122, GK129, GK124. -/
import Derived.Test.YtifhjhbfhdcahaaGreatP27
import Derived.Test.YtifhjhbfhdcahaaGreatP19
import Derived.Test.YtifhjhbfhdcahaaGreatP20
set_option linter.all false
section
namespace Go.Proofs.YtifhjhbfhdcahaaGreat
open Go.Tx
set_option maxRecDepth 100000
set_option maxHeartbeats 16000000
def zPK(k:Tk)(m:Mv):Tk:=zGX k (m.which%2==1) (1+m.what%8) (m.which/2) (zPJ k (m.which%2==1) (1+m.what%8) m.later)
structure SmK (i:Nat) (k:Tk):Prop where
 now:0≤k.now∧k.now≤2^41+300*(i:Int)
 due:∀s,(k.g s).due≤2^41
 len:∀s,(k.w s).length≤i
 ok:∀s,∀p∈k.w s,p.ok=true
theorem zSL{g:Gx}(h:g.ok=true):g.due≤2^41:=by
 rcases (zKP h).1 with h1|h1<;>omega
theorem zNw{i:Nat}{k:Tk}{s:Bool}{kd:Int}{p:Pkx}(h:SmK i k)(hl:(k.w !s).length≤i):SmK (i+1) (zKQ k s kd p):=by
 have h0:SmK (i+1) k:=⟨by have:=h.now;omega,h.due,fun s=>by have:=h.len s;omega,h.ok⟩;unfold zKQ;split
 ·rename_i he;have hg:=zAo (g:=k.g s) (now:=k.now) (kind:=kd) (p:=p) (h:=(zAU (k.g s) k.now kd p).1) (o:=(zAU (k.g s) k.now kd p).2.1) (by rw[←he]);obtain ⟨h1,h2,h3,h4⟩:=hg;obtain ⟨nw,du,le,ok⟩:=h;have hd:=zSL h1;generalize (zAU (k.g s) k.now kd p).1=H at *;generalize (zAU (k.g s) k.now kd p).2.1=O at *;have l0:=le false;have l1:=le true;have d0:=du false;have d1:=du true;cases s
  ·refine ⟨by show 0≤k.now∧k.now≤_;omega,fun s=>?_,fun s=>?_,fun s q hq=>?_⟩
   ·cases s;·exact hd
    ·exact d1
   ·cases s;·show k.w0.length≤_;exact qD l0
    ·show (k.w1++O).length≤_;rw[zU];exact Nat.add_le_add l1 h3
   ·cases s;·exact ok false q hq
    ·rcases List.mem_append.1 (show q∈k.w1++O from hq) with h|h;·exact ok true q h
     ·exact (h4 q h).1
  ·refine ⟨by show 0≤k.now∧k.now≤_;omega,fun s=>?_,fun s=>?_,fun s q hq=>?_⟩
   ·cases s;·exact d0
    ·exact hd
   ·cases s;·show (k.w0++O).length≤_;rw[zU];exact Nat.add_le_add l0 h3
    ·show k.w1.length≤_;exact qD l1
   ·cases s
    ·rcases List.mem_append.1 (show q∈k.w0++O from hq) with h|h;·exact ok false q h
     ·exact (h4 q h).1
    ·exact ok true q hq
 ·exact h0
theorem zQ5{i:Nat}{k:Tk}{s:Bool}{kd at0:Nat}{now:Int}(h:SmK i k)(hn:0≤now∧now≤2^41+300*((i+1:Nat):Int)):SmK (i+2) (zGX k s kd at0 now):=by
 have hk:∀v:List Pkx,v.length≤i→(∀p∈v,p.ok=true)→SmK (i+1) (if s then {k with w1:=v,now:=now} else {k with w0:=v,now:=now}):=by
  intro v hv hvo;cases s
  ·refine ⟨hn,fun s=>h.due s,fun s=>?_,fun s=>?_⟩
   ·cases s;·exact qD hv
    ·exact qD (h.len true)
   ·cases s;·exact hvo
    ·exact h.ok true
  ·refine ⟨hn,fun s=>h.due s,fun s=>?_,fun s=>?_⟩
   ·cases s;·exact qD (h.len false)
    ·exact qD hv
   ·cases s;·exact h.ok false
    ·exact hvo
 have h0:SmK (i+1) {k with now:=now}:=⟨hn,fun s=>h.due s,fun s=>qD (h.len s),fun s=>h.ok s⟩;have up:∀{x},SmK (i+1) x→SmK (i+2) x:=fun h=>⟨by have:=h.now;omega,h.due,fun s=>qD (h.len s),h.ok⟩
 unfold zGX;split;·exact zNw h0 (h0.len _)
 split;·exact up h0
 rename_i hne;have hl:0<(k.w s).length:=List.length_pos_iff.2 hne;have hil:at0%(k.w s).length<(k.w s).length:=vE _ hl;have hp:(k.w s).getD (at0%(k.w s).length) pk0∈k.w s:=by simp[zE,hil]
 have hr:=hk ((k.w s).eraseIdx (at0%(k.w s).length)++(if kd=7 then [(k.w s).getD (at0%(k.w s).length) pk0] else [])) (by
  have:=h.len s;rw[zU,qV hil];split<;>simp<;>omega) (fun q hq=>by
  rcases List.mem_append.1 hq with h1|h1;·exact h.ok s q (List.mem_of_mem_eraseIdx h1)
  ·split at h1;·rw[List.mem_singleton.1 h1];exact h.ok s _ hp
   ·cases h1)
 simp only;by_cases h6:kd=6;·rw[if_pos h6];exact up hr
 ·rw[if_neg h6];refine zNw hr (hr.len _)
theorem zNx{i:Nat}{k:Tk}{m:Mv}(h:SmK i k)(hm:m.later<256):SmK (i+2) (zPK k m):=by
 unfold zPK;refine zQ5 h ?_;have h1:=h.now;have h2:=h.due (m.which%2==1);unfold zPJ;split<;>omega
def zIm(n:Nat)(op:Bool)(l:List Mv)(i:Nat):Tk:=(l.take i).foldl zPK (if op then zPK (zO7 n) ⟨0,0,0⟩ else zO7 n)
theorem side0_sm{n:Nat}:SmK 0 (zO7 n):=⟨⟨vF 0,by show (0:Int)≤_;omega⟩,fun s=>by cases s<;>(show (-1:Int)≤_;omega),fun s=>by cases s<;>exact zH 0,fun s p hp=>by cases s<;>cases hp⟩
theorem zH2(n:Nat)(op:Bool)(l:List Mv){i:Nat}(h:i<l.length):zIm n op l (i+1)=zPK (zIm n op l i) (l[i]):=by
 unfold zIm;rw[uX h,List.foldl_append];rfl
theorem SmK.mono{i j:Nat}{k:Tk}(h:SmK i k)(hij:i≤j):SmK j k:=⟨⟨h.now.1,by have:=h.now;omega⟩,h.due,fun s=>vP (h.len s) hij,h.ok⟩
theorem zLM(n:Nat)(op:Bool)(l:List Mv)(hm:∀m∈l,m.later<256):∀i,i≤l.length→SmK (2+2*i) (zIm n op l i)
 |0,_=>by
  unfold zIm;cases op;·rw[uG,List.foldl_nil,if_neg (by simp)];exact side0_sm.mono (by omega)
  ·rw[uG,List.foldl_nil,if_pos rfl];exact (zNx (m:=⟨0,0,0⟩) (side0_sm (n:=n)) (Nat.zero_lt_succ _)).mono (by omega)
 |i+1,h=>by
  rw[zH2 n op l h];exact (zNx (m:=l[i]) (zLM n op l hm i (by omega)) (hm _ (uH h))).mono (by omega)
theorem zLN {F : SF} {L nx : Nat} {i:Nat}{k:Tk}(m:Mv)(h:SmK i k)(hi:i≤1000)(hm:m.what<256∧m.which<256∧m.later<256):Con Tryz.prog 17 [.agg k.frow,.agg (zBB hT kT),.agg m.row] F L nx nx (.agg (zPK k m).frow) [] []:=
 zNv k m (m.which%2==1) (1+m.what%8) (m.which/2) (by rcases (show m.which%2=0∨m.which%2=1 by omega) with h|h<;>rw[h]<;>rfl) rfl rfl hm ⟨h.now.1,by have:=h.now;omega⟩ (by have:=h.due (m.which%2==1);omega) (vP (h.len _) hi) (vP (h.len _) hi) (h.ok _)
theorem zNy{F:SF}{L nx:Nat}(n:Nat)(hn:n<65536)(op:Bool)(l:List Mv)(hm:∀m∈l,m.what<256∧m.which<256∧m.later<256):Con Tryz.prog 16 [.agg (zBB hT kT),.int .u16 n,.bool op,.fs 3 (l.map Mv.row)] F L nx nx (.agg (zIm n op l (min l.length 12)).frow) [] []:=by
 have tl:(zBB hT kT).length=2:=rfl;have tn:=zCg hT kT;have s0:=fun F L nx=>zK8 (F:=F) (L:=L) (nx:=nx) false n hn
 have s1:=fun F L nx=>zK8 (F:=F) (L:=L) (nx:=nx) true (n/2) (by omega)
 have q2:(n:Int).tdiv 2=((n/2:Nat):Int):=by rw[uJ (by omega)];rfl
 have u2:IntKind.u16.wrap ((n/2:Nat):Int)=((n/2:Nat):Int):=by simp[IntKind.wrap,IntKind.signed,IntKind.bits];omega
 obtain ⟨a,ha⟩:∃a,a=zO7 n:=⟨_,rfl⟩;have ea:zKN false n=a.g0:=by rw[ha];rfl
 have eb:zKN true (n/2)=a.g1:=by rw[ha];rfl
 have ew0:a.w0=[]:=by rw[ha];rfl
 have ew1:a.w1=[]:=by rw[ha];rfl
 have enow:a.now=0:=by rw[ha];rfl
 rw[ea]at s0;rw[eb]at s1;simp only[Gx.row]at s0 s1;have hsm:=fun i hi=>zLM n op l (fun m h=>(hm m h).2.2) i hi
 have hA0:=fun F L nx=>zLN (F:=F) (L:=L) (nx:=nx) ⟨0,0,0⟩ (side0_sm (n:=n)) (by omega) (by simp)
 rw[←ha]at hA0;have h00:zIm n op l 0=if op then zPK a ⟨0,0,0⟩ else a:=by rw[ha];rfl
 refine zUU (zAg (L+1)) rfl rfl (fn:=Tryz.f16) (c:=Tryz.f16.body.getD .skip) (by kernel_rfl) (by rfl) (by kernel_rfl) rfl (by simp) ?_;intro F3 hF1 hF2;refine vcu ⟨[none,some (.int .u16 n),some (.bool op),some (.fs 3 (l.map Mv.row)),some (.ptr ⟨L+1,0⟩ 0 0),none,none,none,some (.ptr ⟨L+1,32⟩ 0 0)]++oz 32,[(⟨L+1,0⟩,.rows 53 2 true true [zBB hT kT]),(⟨L+1,32⟩,.rows 56 43 true true [(zz20 (zz20 [.nilS,.nilS,.int .i64 0]))])],10000⟩ ?_ ?_
 ·simp only[Tryz.f16,tl,tn,go_sem];repeat refine sd2 ?_
  exact ⟨(),(so0 hF2)⟩
 refine vcu ⟨[none,none,some (.bool op),some (.fs 3 (l.map Mv.row)),some (.ptr ⟨L+1,0⟩ 0 0),none,none,none,some (.ptr ⟨L+1,32⟩ 0 0),some (.ptr ⟨L+1,10160⟩ 0 0)]++oz 31,[(⟨L+1,0⟩,.rows 53 2 true true [zBB hT kT]),(⟨L+1,32⟩,.rows 56 43 true true [(zz20 (zz20 [.nilS,.nilS,.int .i64 0]))]),(⟨L+1,10160⟩,.rows 56 43 true true [(gR a.g0 (gR a.g1 [.fs 4 (a.w0.map Pkx.row),.fs 4 (a.w1.map Pkx.row),.int .i64 a.now]))])],20000⟩ ?_ ?_
 ·simp only[Tryz.f16,go_sem];repeat refine sd2 ?_
  refine CallVC.same (s0 _ _ _) ?_;simp only[q2,u2,go_sem];repeat refine sd2 ?_
  refine CallVC.same (s1 _ _ _) ?_;simp only[go_sem];repeat refine sd2 ?_
  refine ⟨(),(zUb ⟨L+1,10160⟩ (e:=56) (wd:=43) (o:=true) (p:=true) (row:=(gR a.g0 (gR a.g1 [.nilS,.nilS,.int .i64 0]))) (gR a.g0 (gR a.g1 [.fs 4 (a.w0.map Pkx.row),.fs 4 (a.w1.map Pkx.row),.int .i64 a.now])) (by simp[Tx.look]) rfl (by simp[Wk,WkL,ew0,ew1,enow]) (by simp[zAt,wkN]) (by simp[nfl,Tx.nf])).trans ((so0 hF2 (h2:=by simp[zAi,Tx.look,zAl,setH,unown,zAt,wkN]) (h3:=by simp[zAs,keys,zAl,setH,unown,zAt,wkN,Tx.look])))⟩
 obtain ⟨f,hf⟩:∃f:Nat→Tk,f=zIm n op l:=⟨_,rfl⟩;rw[←hf]at h00 hsm ⊢;have hfs:∀i (h:i<l.length),f (i+1)=zPK (f i) (l[i]):=fun i h=>by rw[hf];exact zH2 n op l h
 clear hf;simp only[Tk.frow,Tk.row]at hA0
 refine vcu ⟨[none,none,none,some (.fs 3 (l.map Mv.row)),some (.ptr ⟨L+1,0⟩ 0 0),none,none,none,some (.ptr ⟨L+1,32⟩ 0 0),some (.ptr ⟨L+1,10160⟩ 0 0)]++oz 31,[(⟨L+1,0⟩,.rows 53 2 true true [zBB hT kT]),(⟨L+1,32⟩,.rows 56 43 true true [(zz20 (zz20 [.nilS,.nilS,.int .i64 0]))]),(⟨L+1,10160⟩,.rows 56 43 true true [[.int .i64 (f 0).g0.st,.int .i64 (f 0).g0.fr,.int .i64 (f 0).g0.tt,.str (f 0).g0.sec,.int .i64 (f 0).g0.own.tag,.int .i64 (f 0).g0.own.win,.int .i64 (f 0).g0.own.out,.int .i64 (f 0).g0.own.inn,.int .i64 (f 0).g0.own.tsn,.str (f 0).g0.own.ck,.int .i64 (f 0).g0.peer.tag,.int .i64 (f 0).g0.peer.win,.int .i64 (f 0).g0.peer.out,.int .i64 (f 0).g0.peer.inn,.int .i64 (f 0).g0.peer.tsn,.str (f 0).g0.peer.ck,.str (f 0).g0.ck,.int .i64 (f 0).g0.ta,.int .i64 (f 0).g0.due,.int .i64 (f 0).g0.tr,.int .i64 (f 0).g1.st,.int .i64 (f 0).g1.fr,.int .i64 (f 0).g1.tt,.str (f 0).g1.sec,.int .i64 (f 0).g1.own.tag,.int .i64 (f 0).g1.own.win,.int .i64 (f 0).g1.own.out,.int .i64 (f 0).g1.own.inn,.int .i64 (f 0).g1.own.tsn,.str (f 0).g1.own.ck,.int .i64 (f 0).g1.peer.tag,.int .i64 (f 0).g1.peer.win,.int .i64 (f 0).g1.peer.out,.int .i64 (f 0).g1.peer.inn,.int .i64 (f 0).g1.peer.tsn,.str (f 0).g1.peer.ck,.str (f 0).g1.ck,.int .i64 (f 0).g1.ta,.int .i64 (f 0).g1.due,.int .i64 (f 0).g1.tr,.fs 4 ((f 0).w0.map Pkx.row),.fs 4 ((f 0).w1.map Pkx.row),.int .i64 (f 0).now]])],30000⟩ ?_ ?_
 ·cases op
  ·have h01:a=f 0:=by rw[h00];rfl
   subst h01;simp only[Tryz.f16,go_sem];repeat refine sd2 ?_
   exact ⟨(),(so0 hF2)⟩
  ·have h01:f 0=zPK a ⟨0,0,0⟩:=by rw[h00];rfl
   rw[←h01]at hA0;simp only[Tryz.f16,go_sem];repeat refine sd2 ?_
   refine CallVC.same (hA0 _ _ _) ?_;simp only[go_sem];repeat refine sd2 ?_
   exact ⟨(),(so0 hF2)⟩
 refine VT.of (zAg (L+1)) ?_;simp only[Tryz.f16,go_sem];repeat refine sd2 ?_
 refine loopK.intro _ _ (I:=fun i:Nat=>⟨[none,none,none,some (.fs 3 (l.map Mv.row)),some (.ptr ⟨L+1,0⟩ 0 0),none,none,none,some (.ptr ⟨L+1,32⟩ 0 0),some (.ptr ⟨L+1,10160⟩ 0 0),some (.int .i64 (i:Int))]++oz 30,[(⟨L+1,0⟩,.rows 53 2 true true [zBB hT kT]),(⟨L+1,32⟩,.rows 56 43 true true [(zz20 (zz20 [.nilS,.nilS,.int .i64 0]))]),(⟨L+1,10160⟩,.rows 56 43 true true [[.int .i64 (f i).g0.st,.int .i64 (f i).g0.fr,.int .i64 (f i).g0.tt,.str (f i).g0.sec,.int .i64 (f i).g0.own.tag,.int .i64 (f i).g0.own.win,.int .i64 (f i).g0.own.out,.int .i64 (f i).g0.own.inn,.int .i64 (f i).g0.own.tsn,.str (f i).g0.own.ck,.int .i64 (f i).g0.peer.tag,.int .i64 (f i).g0.peer.win,.int .i64 (f i).g0.peer.out,.int .i64 (f i).g0.peer.inn,.int .i64 (f i).g0.peer.tsn,.str (f i).g0.peer.ck,.str (f i).g0.ck,.int .i64 (f i).g0.ta,.int .i64 (f i).g0.due,.int .i64 (f i).g0.tr,.int .i64 (f i).g1.st,.int .i64 (f i).g1.fr,.int .i64 (f i).g1.tt,.str (f i).g1.sec,.int .i64 (f i).g1.own.tag,.int .i64 (f i).g1.own.win,.int .i64 (f i).g1.own.out,.int .i64 (f i).g1.own.inn,.int .i64 (f i).g1.own.tsn,.str (f i).g1.own.ck,.int .i64 (f i).g1.peer.tag,.int .i64 (f i).g1.peer.win,.int .i64 (f i).g1.peer.out,.int .i64 (f i).g1.peer.inn,.int .i64 (f i).g1.peer.tsn,.str (f i).g1.peer.ck,.str (f i).g1.ck,.int .i64 (f i).g1.ta,.int .i64 (f i).g1.due,.int .i64 (f i).g1.tr,.fs 4 ((f i).w0.map Pkx.row),.fs 4 ((f i).w1.map Pkx.row),.int .i64 (f i).now]])],10000*(i+4)⟩) (pre:=fun i=>i≤min l.length 12) (μ:=fun i=>12-i) 0 (by omega) ?_ ?_
 ·exact (so0 hF2 (h1:=by(simp only[go_sem,zAf,and_self,zW];try trivial)))
 intro i hi;have mR:(l.map Mv.row).length=l.length:=zG ..;by_cases hlt:i<min l.length 12
 ·have hil:i<l.length:=by omega
  have g1:decide ((i:Int)<(l.length:Int))=true:=dT (by omega);have g2:decide ((i:Int)<12)=true:=dT (by omega);obtain ⟨m,hme⟩:∃m,m=l[i]:=⟨_,rfl⟩;have gm:(l.map Mv.row).getD i []=[.int .u8 m.what,.int .u8 m.which,.int .u8 m.later]:=by rw[hme];simp[zE,hil,Mv.row]
  have hA:=fun F L nx=>zLN (F:=F) (L:=L) (nx:=nx) m (hsm i (by omega)) (by omega) (hm m (by rw[hme];exact uH hil))
  rw[hme,←hfs i hil,←hme]at hA;simp only[Tk.frow,Tk.row,Mv.row]at hA;simp only[g1,g2,mR,gm,zA,go_sem];repeat refine sd2 ?_
  refine CallVC.same (hA _ _ _) ?_;simp only[zA,go_sem];repeat refine sd2 ?_
  refine ⟨zAA (fun x=>x.i) (by simp only[zA0,List.map];kernel_rfl),?_⟩;repeat refine sd2 ?_
  refine ⟨i+1,by omega,by omega,?_⟩;exact (so0 hF2 (h1:=by(simp only[go_sem,zAf,and_self,zY];try trivial)) (h4:=by simp only[];omega))
 ·have hie:i=min l.length 12:=by omega
  rw[←hie];simp only[Tk.frow,Tk.row];by_cases hil:i<l.length
  ·have g1:decide ((i:Int)<(l.length:Int))=true:=dT (by omega);have g2:decide ((i:Int)<12)=false:=dF (by omega);simp only[g1,g2,mR,zA,go_sem];repeat refine sd2 ?_
   exact ps0
  ·have g1:decide ((i:Int)<(l.length:Int))=false:=dF (by omega);simp only[g1,mR,zA,go_sem];repeat refine sd2 ?_
   exact ps0
theorem zQ6{F:SF}{L nx:Nat}(fr tt:Int)(sec:List UInt8)(own:Ini):Con Tryz.prog 31 [.int .i64 fr,.int .i64 tt,.str sec,.agg own.row] F L nx nx (.tup [.agg (zIr fr tt sec own).row,.bool (zIr fr tt sec own).ok]) [] []:=by
 have hC:=fun F L nx=>zEu (F:=F) (L:=L) (nx:=nx) (zIr fr tt sec own)
 obtain ⟨b,hb⟩:∃b,b=(zIr fr tt sec own).ok:=⟨_,rfl⟩;rw[←hb]at hC ⊢;simp only[zIr,Gx.row,Ini.row,zIni]at hC ⊢;refine bdy Tryz.f31 ?_;intro F3 hF1 hF2;simp only[Tryz.f31,go_sem];repeat refine sd2 ?_
 refine CallVC.same (hC _ _ _) ?_;simp only[go_sem];repeat refine sd2 ?_
 refine ⟨zAA (fun x=>x.i) (by simp only[zA0,List.map];kernel_rfl),?_⟩;exact ps0
end Go.Proofs.YtifhjhbfhdcahaaGreat
end
section
namespace Go.Tx
theorem zVL{P:Program}{f:FuncId}{args:List PV}{F:SF}{L nx top:Nat}{v:PV}{upd:List (Nm×SBlk)}{rd:List Nm}{n:Nm}{e e2:TypeId}{wd wd2:Nat}{o p:Bool}{row row1:List PV}(hwd:0<wd2)(hn:F n=some (.rows e wd o p [row]))(hnr:n∈rd)(hne:n≠⟨L,nx⟩)(hl:row1.length=row.length)
  (hc:∀c:Nat,row1[c]?=row[c]?∨(row[c]?=some PV.nilS∧row1[c]?=some (PV.sl ⟨L,nx⟩ 0 0)))
  (h:Con P f args ((F.set ⟨L,nx⟩ (.rows e2 wd2 true true [])).set n (.rows e wd o false [row1])) L (nx+1) top v upd (⟨L,nx⟩::rd)):
  Con P f args F L nx top v ((⟨L,nx⟩,.rows e2 wd2 true true [])::(n,.rows e wd o false [row1])::upd) rd:=by
 refine ⟨by have:=h.1;omega,fun F2 hF E w args' hR hf1 hf2 hv=>?_⟩;have htop:=h.1;have hf:=hf1 nx (zH _) (by omega);have hS:=zUe hR hf e2 hwd true none;have hn2:F2 n=some (.rows e wd o p [row]):=(hF n hnr).trans hn;have hn1:(F2.set ⟨L,nx⟩ (.rows e2 wd2 true true [])) n=some (.rows e wd o p [row]):=by simp only[SF.set,if_neg hne];exact hn2
 have hEE:Ext (EE (E.set ⟨L,nx⟩ ⟨0,0,wd2,0,true,none⟩) p) w (Zn (E.set ⟨L,nx⟩ ⟨0,0,wd2,0,true,none⟩) (F2.set ⟨L,nx⟩ (.rows e2 wd2 true true [])) w) (E.set ⟨L,nx⟩ ⟨0,0,wd2,0,true,none⟩) w (Zn (E.set ⟨L,nx⟩ ⟨0,0,wd2,0,true,none⟩) (F2.set ⟨L,nx⟩ (.rows e2 wd2 true true [])) w):=by
  refine ⟨?_,fun _ h=>h,fun _ _=>rfl⟩;cases p;·exact Env.le.refl _
  ·intro k i hk;cases hk
 have hS2:=zUq hS.rel hn1 (rs1:=[row1]) rfl (by
   intro r row' row1' h1 h2;cases r with
   |zero=>simp at h1 h2;subst h1;subst h2;exact hl
   |succ r=>simp at h1) (by
   intro r row' row1' c x y u h1 h2 h3 h4 h5;cases r with
   |succ r=>simp at h1
   |zero=>
    simp at h1 h2;subst h1;subst h2;rcases hc c with h|⟨ha,hb⟩
    ·rw[h4,h3]at h;injection h with h;subst h;exact VR.mono hEE _ _ h5
    ·rw[h3]at ha;injection ha with ha;subst ha;rw[h4]at hb;injection hb with hb;subst hb;simp only[VR]at h5 ⊢;subst h5;exact ⟨_,zUO _ _ _,.inl ⟨rfl,trivial,rfl⟩⟩)
 have hT:=hS.trans hS2;have hv2:=VRl.mono hT.ext _ _ hv;have key:=h.2 ((F2.set ⟨L,nx⟩ (.rows e2 wd2 true true [])).set n (.rows e wd o false [row1])) (by
   intro m hm;simp only[SF.set];by_cases h1:m=n;·rw[if_pos h1,if_pos h1]
   rw[if_neg h1,if_neg h1];by_cases h2:m=⟨L,nx⟩;·rw[if_pos h2,if_pos h2]
   rw[if_neg h2,if_neg h2];rcases List.mem_cons.1 hm with h3|h3;·exact absurd h3 h2
   ·exact hF m h3) _ w args' hT.rel (by
   intro k h1 h2;rw[zUP E _ (by intro h;injection h with _ h;omega)];exact hf1 k (by omega) h2) (by
   intro m hm;rw[zUP E _ (by intro h;rw[h]at hm;exact absurd hm (Nat.lt_irrefl _))];exact hf2 m hm) hv2
 have conv:∀v' w',zBH (E.set ⟨L,nx⟩ ⟨0,0,wd2,0,true,none⟩) ((F2.set ⟨L,nx⟩ (.rows e2 wd2 true true [])).set n (.rows e wd o false [row1])) w L (nx+1) top v upd v' w'→zBH E F2 w L nx top v ((⟨L,nx⟩,.rows e2 wd2 true true [])::(n,.rows e wd o false [row1])::upd) v' w':=by
  rintro v' w' ⟨E2,a1,a2,a3⟩
  refine ⟨E2,a1,hT.trans a2,fun m h1 h2=>?_⟩;by_cases h3:m=⟨L,nx⟩
  ·subst h3;exact ⟨rfl,zH _,by show nx<top;omega⟩
  ·have:=a3 m (by rw[zUP E _ h3];exact h1) h2;exact ⟨this.1,by omega,this.2.2⟩
 unfold zES Sx.zES at key ⊢;split at key;·exact conv _ _ key
 ·exact conv _ _ key
 ·intro cs;obtain ⟨e,w',fr,⟨v',he,hK⟩,hrest⟩:=key cs;exact ⟨e,w',fr,⟨v',he,conv _ _ hK⟩,hrest⟩
 ·exact key
end Go.Tx
end
section
namespace Go.Proofs.YtifhjhbfhdcahaaGreat
open Go.Tx
set_option maxRecDepth 100000
set_option maxHeartbeats 16000000
def sI(s:Bool):Int:=match s with|false=>0|true=>1
def Tk.rw(k:Tk)(s:Bool)(own oth:PV):List PV:=match s with|false=>k.row own oth|true=>k.row oth own
theorem zNz(k:Tk)(x y b:PV)(c:Nat):(k.row y b)[c]?=(k.row x b)[c]?∨((k.row x b)[c]?=some x∧(k.row y b)[c]?=some y):=by
 by_cases hc:c=40;·subst hc;exact .inr ⟨rfl,rfl⟩
 ·refine .inl ?_;have e:∀z,k.row z b=((k.row .nilS .nilS).set 40 z).set 41 b:=fun z=>rfl
  rw[e x,e y,vQ,vQ,vQ,vQ];simp[Ne.symm hc]
theorem zN0(k:Tk)(a x y:PV)(c:Nat):(k.row a y)[c]?=(k.row a x)[c]?∨((k.row a x)[c]?=some x∧(k.row a y)[c]?=some y):=by
 by_cases hc:c=41;·subst hc;exact .inr ⟨rfl,rfl⟩
 ·refine .inl ?_;have e:∀z,k.row a z=((k.row .nilS .nilS).set 40 a).set 41 z:=fun z=>rfl
  rw[e x,e y,vQ,vQ,vQ,vQ];simp[Ne.symm hc]
theorem zN1(k:Tk)(s:Bool)(va x y:PV)(c:Nat):(k.rw s va y)[c]?=(k.rw s va x)[c]?∨((k.rw s va x)[c]?=some x∧(k.rw s va y)[c]?=some y):=by
 cases s;·exact zN0 k va x y c
 ·exact zNz k x y va c
theorem zN2(k:Tk)(s:Bool)(va x:PV):(k.rw s va x).length=43:=by cases s<;>rfl
theorem zS6(k:Tk)(s:Bool)(v o:List Pkx)(a b:PV):(k.ev s (k.g s) v o).rw s a b=k.rw s a b:=by cases s<;>rfl
theorem zIn{F:SF}{L nx:Nat}(m:Nm)(hm0:m.l<L∨(m.l=L∧m.i<nx))(s:Bool)(k:Tk)(kind:Int)(p:Pkx)(hlen:p.cs.length≤1000000)(hb:∀c∈p.cs,c.bd.length≤1000000)(va:PV)(hva:zQo L va)(b:Nm)(hbL:b.l≤L)(h:Gx)(o:List Pkx)(hst:zAU (k.g s) k.now kind p=(h,o,0))(hbm:b≠m)(hwl:(k.w !s).length≤1000000)(hFb:F b=some (.rows 38 4 true true ((k.w !s).map Pkx.row)))(hF:F m=some (.rows 33 43 true false [k.rw s va (.sl b 0 (k.w !s).length)])):
  Con Tryz.prog 12 [.ptr m 0 0,.int .i64 (sI s),.agg (.int .i64 kind::p.row)] F L nx (nx+1) (.bool true) [(m,.rows 33 43 true false [(k.ev s h (k.w s) o).rw s va (.sl ⟨L,nx⟩ 0 ((k.w !s).length+o.length))]),(b,.dead),(⟨L,nx⟩,.rows 38 4 true true ((k.w (!s)++o).map Pkx.row))] [m,b]:=by
 have hm:m.l≤L:=by omega
 have m1:∀k,(m=(⟨L+1,k⟩:Nm))=False:=zAI hm;have m2:∀k,((⟨L+1,k⟩:Nm)=m)=False:=zAF hm;have b1:∀k,(b=(⟨L+1,k⟩:Nm))=False:=zAI (by omega);have b2:∀k,((⟨L+1,k⟩:Nm)=b)=False:=zAF (by omega);have c1:(b=m)=False:=eq_false hbm;have c2:(m=b)=False:=eq_false (Ne.symm hbm);obtain ⟨G0,hG0⟩:∃g,g=k.g s:=⟨_,rfl⟩;rw[←hG0]at hst;have hS:=fun F L nx=>zEP (F:=F) (L:=L) (nx:=nx) hst hlen hb
 have hG:=zAo hst;have hC:=fun F L nx=>zCO (F:=F) (L:=L) (nx:=nx) h
 rw[hG.ok,if_pos rfl]at hC;have hta:=hG.ta;have t1:(h.ta !=k.now)=false:=by simp;omega
 have e0:((0:Int)==8)=false:=rfl;have n0:((0:Int) !=0)=false:=rfl;have z1:((1:Int)-0)=1:=rfl;have z2:((1:Int)-1)=0:=rfl;have g1:decide ((0:Int)>1)=false:=rfl;have g2:decide ((1:Int)>1)=false:=rfl;have g1':decide ((1:Int)<0)=false:=rfl;have g2':decide ((1:Int)<1)=false:=rfl;have g3':decide ((1:Int)<((1:Nat):Int))=false:=rfl;have hlo:=hG.len;have hpk:=hG.pk;clear hG hst;obtain ⟨si,hsi⟩:∃x,x=sI s:=⟨_,rfl⟩;obtain ⟨w,hw⟩:∃w,w=k.w !s:=⟨_,rfl⟩;obtain ⟨R,hR⟩:∃R:Gx→PV→List PV,R=fun g v=>(k.ev s g (k.w s) o).rw s va v:=⟨_,rfl⟩
 have hR0:k.rw s va (.sl b 0 w.length)=R (k.g s) (.sl b 0 w.length):=by rw[hR];exact (zS6 k s _ _ _ _).symm
 have hRc:∀g x y (c:Nat),(R g y)[c]?=(R g x)[c]?∨((R g x)[c]?=some x∧(R g y)[c]?=some y):=by rw[hR];exact fun g x y c=>zN1 _ s va x y c
 have hRl:∀g x,(R g x).length=43:=by rw[hR];exact fun g x=>zN2 _ s va x
 have hRp:∀v,(k.ev s h (k.w s) o).rw s va v=R h v:=by rw[hR];exact fun v=>rfl
 rw[←hw,hR0]at hF;rw[←hw]at hwl hFb;rw[hRp,←hw,←hsi];rw[←hG0]at hF;have ml:(w.map Pkx.row).length=w.length:=zG ..;simp only[Pkx.row,Gx.row]at hS hC ⊢;have ho:o=[]∨∃x,o=[x]:=by
  cases o with
  |nil=>exact .inl rfl
  |cons x l=>cases l with
   |nil=>exact .inr ⟨x,rfl⟩
   |cons y l=>simp at hlo
 rcases ho with rfl|⟨x,rfl⟩
 ·cases s;all_goals
   simp only[sI,Tk.rw,Tk.ev,Tk.row]at hsi hR;have kz:zAV []= .nilS:=rfl;simp only[kz]at hS ⊢;refine zUf (zAg (L+1)) rfl rfl (fn:=Tryz.f12) (c:=Tryz.f12.body.getD .skip) (by kernel_rfl) (by rfl) (by kernel_rfl) rfl (by simp;omega) ?_;intro F3 hF1 hF2;have kq:=(hF1 m (by simp)).trans hF;have kb:=(hF1 b (by simp)).trans hFb;refine vcu ⟨[some (.ptr m 0 0),some (.int .i64 si),none,none,none,some (.ptr ⟨L+1,0⟩ 0 0)]++oz 103,[(⟨L+1,0⟩,.rows 40 5 true true [[.int .i64 kind,.int .i64 p.fr,.int .i64 p.tt,.int .i64 p.tg,.fs 3 (p.cs.map Ckx.row)]])],10000⟩ ?_ ?_
   ·simp only[Tryz.f12,hR,hsi,go_sem];repeat refine sd2 ?_
    exact ⟨(),(so0 hF2)⟩
   refine vcu ⟨[some (.ptr m 0 0),some (.int .i64 si),none,none,none,none,none,some (.ptr ⟨L+1,10480⟩ 0 0),some (.nilS),some (.int .i64 0)]++oz 99,[(⟨L+1,10480⟩,.rows 28 20 true true [(gR h [])])],20000⟩ ?_ ?_
   ·simp only[Tryz.f12,kq,m1,hR,hsi,go_sem];repeat refine sd2 ?_
    refine CallVC.same (hS _ _ _) ?_;simp only[go_sem];repeat refine sd2 ?_
    exact ⟨zAA (fun x=>if x=m then 1 else if x=b then 1 else x.i+2) (by simp only[zA0,List.map,m2,b2,if_true,if_false];kernel_rfl),(),(so0 hF2)⟩
   clear hS;refine vcu ⟨[some (.ptr m 0 0),some (.int .i64 si),none,none,none,none,none,some (.ptr ⟨L+1,10480⟩ 0 0),some (.nilS),some (.int .i64 0)]++oz 99,[(⟨L+1,10480⟩,.rows 28 20 true true [(gR h [])])],30000⟩ ?_ ?_
   ·simp only[Tryz.f12,e0,hR,hsi,go_sem];repeat refine sd2 ?_
    exact ⟨(),(so0 hF2)⟩
   refine vcu ⟨[some (.ptr m 0 0),some (.int .i64 si),none,none,none,none,none,some (.ptr ⟨L+1,10480⟩ 0 0),some (.nilS)]++oz 100,[(⟨L+1,10480⟩,.rows 28 20 true true [(gR h [])])],40000⟩ ?_ ?_
   ·simp only[Tryz.f12,n0,hR,hsi,go_sem];repeat refine sd2 ?_
    refine CallVC.same (hC _ _ _) ?_;simp only[kq,m1,n0,t1,g1,hR,go_sem];repeat refine sd2 ?_
    exact ⟨zAA (fun x=>if x=m then 1 else if x=b then 1 else x.i+2) (by simp only[zA0,List.map,m2,b2,if_true,if_false];kernel_rfl),(),(so0 hF2)⟩
   clear hC;refine vcu ⟨[some (.ptr m 0 0),some (.int .i64 si),none,none,none,none,none,some (.ptr ⟨L+1,10480⟩ 0 0),some (.nilS)]++oz 100,[(⟨L+1,10480⟩,.rows 28 20 true true [(gR h [])])],70000⟩ ?_ ?_
   ·simp only[Tryz.f12,hR,hsi,go_sem];repeat refine sd2 ?_
    refine zU3 ?_;have q2:decide ((0:Int)<0)=false:=rfl;simp only[q2,go_sem];repeat refine sd2 ?_
    exact ⟨(),(so0 hF2)⟩
   refine vcu ⟨[some (.ptr m 0 0),some (.int .i64 si),none,none,none,none,none,none,some (.nilS)]++oz 100,[(m,.rows 33 43 true false [R h (.sl b 0 w.length)])],80000⟩ ?_ ?_
   ·simp only[Tryz.f12,kq,m1,hR,hsi,go_sem];repeat refine sd2 ?_
    exact ⟨zAA (fun x=>if x=m then 1 else if x=b then 1 else x.i+2) (by simp only[zA0,List.map,m2,b2,if_true,if_false];kernel_rfl),(),(so0 hF2 (h2:=by simp[zAi,Tx.look,m1]) (h3:=by simp[zAs,keys,m2]))⟩
   refine VT.sub (zVS (L:=L+1) b m (row1:=R h (.sl ⟨L+1,80000⟩ 0 w.length)) (by simpa[Tx.look,c1,c2,b1] using kb) (by simp only[Tx.look,if_true];rfl) (by simp[c2]) (by simp[m1]) ((hRl _ _).trans (hRl _ _).symm) (fun c=>(hRc h (.sl b 0 w.length) (.sl ⟨L+1,80000⟩ 0 w.length) c).imp id fun ⟨u,v⟩=>⟨0,_,u,v⟩)) ?_;simp only[zAl,setH,m1,m2,b2,c1,c2,go_sem];refine VT.of (zAg (L+1)) ?_;simp only[Tryz.f12,kq,m1,m2,b2,c2,hR,hsi,z1,z2,ml,go_sem];repeat refine sd2 ?_
   refine ⟨zAA (fun x=>if x=m then 1 else if x=b then 1 else x.i+2) (by simp only[zA0,List.map,m2,b2,if_true,if_false];kernel_rfl),.now (PostN.val [80000] (.inr rfl) (by simp) (p:=True) (v0:=.bool true) ?_ trivial ?_ ?_ ⟨by omega,?_,by omega,?_,zH _,?_,trivial⟩ ?_)⟩;·simp only[go_sem]
   ·simp[nmA]
   ·simp[Tx.rn]
   ·rw[zCd (hm0.imp id fun h=>.inl h.2)];exact .ren (by simp[Tx.look];rfl) (by simp[zB2,nmA,zDf,Dn,(hva nx [80000]).1]) (by simp[Tx.rn,Tx.rnL,(hva nx [80000]).2];try simp[sg])
   ·exact zFi
   ·rw[zDg (by simp)];exact .pure (by simp[Tx.look,m2,b2])
   ·simp[UpdAll,keys]
 ·cases s;all_goals
   simp only[sI,Tk.rw,Tk.ev,Tk.row]at hsi hR;have hx:=hpk x (by simp);have hX:=fun F L nx=>zEI (F:=F) (L:=L) (nx:=nx) x (zLx hx.1).1 (zLx hx.1).2
   rw[hx.1,if_pos rfl]at hX;have x1:(x.fr !=h.fr)=false:=by have:=hx.2.1;simp;omega
   have x2:(x.tt !=h.tt)=false:=by have:=hx.2.2;simp;omega
   have kz:zAV [x]= .fs 4 [(pR x)]:=rfl;clear hx;simp only[kz,Pkx.row]at hS hX ⊢;refine zUf (zAg (L+1)) rfl rfl (fn:=Tryz.f12) (c:=Tryz.f12.body.getD .skip) (by kernel_rfl) (by rfl) (by kernel_rfl) rfl (by simp;omega) ?_;intro F3 hF1 hF2;have kq:=(hF1 m (by simp)).trans hF;have kb:=(hF1 b (by simp)).trans hFb;refine vcu ⟨[some (.ptr m 0 0),some (.int .i64 si),none,none,none,some (.ptr ⟨L+1,0⟩ 0 0)]++oz 103,[(⟨L+1,0⟩,.rows 40 5 true true [[.int .i64 kind,.int .i64 p.fr,.int .i64 p.tt,.int .i64 p.tg,.fs 3 (p.cs.map Ckx.row)]])],10000⟩ ?_ ?_
   ·simp only[Tryz.f12,hR,hsi,go_sem];repeat refine sd2 ?_
    exact ⟨(),(so0 hF2)⟩
   refine vcu ⟨[some (.ptr m 0 0),some (.int .i64 si),none,none,none,none,none,some (.ptr ⟨L+1,10480⟩ 0 0),some (.fs 4 [(pR x)]),some (.int .i64 0)]++oz 99,[(⟨L+1,10480⟩,.rows 28 20 true true [(gR h [])])],20000⟩ ?_ ?_
   ·simp only[Tryz.f12,kq,m1,hR,hsi,go_sem];repeat refine sd2 ?_
    refine CallVC.same (hS _ _ _) ?_;simp only[go_sem];repeat refine sd2 ?_
    exact ⟨zAA (fun x=>if x=m then 1 else if x=b then 1 else x.i+2) (by simp only[zA0,List.map,m2,b2,if_true,if_false];kernel_rfl),(),(so0 hF2)⟩
   clear hS;refine vcu ⟨[some (.ptr m 0 0),some (.int .i64 si),none,none,none,none,none,some (.ptr ⟨L+1,10480⟩ 0 0),some (.fs 4 [(pR x)]),some (.int .i64 0)]++oz 99,[(⟨L+1,10480⟩,.rows 28 20 true true [(gR h [])])],30000⟩ ?_ ?_
   ·simp only[Tryz.f12,e0,hR,hsi,go_sem];repeat refine sd2 ?_
    exact ⟨(),(so0 hF2)⟩
   refine vcu ⟨[some (.ptr m 0 0),some (.int .i64 si),none,none,none,none,none,some (.ptr ⟨L+1,10480⟩ 0 0),some (.fs 4 [(pR x)])]++oz 100,[(⟨L+1,10480⟩,.rows 28 20 true true [(gR h [])])],40000⟩ ?_ ?_
   ·simp only[Tryz.f12,n0,hR,hsi,go_sem];repeat refine sd2 ?_
    refine CallVC.same (hC _ _ _) ?_;simp only[kq,m1,n0,t1,g3',hR,go_sem];repeat refine sd2 ?_
    exact ⟨zAA (fun x=>if x=m then 1 else if x=b then 1 else x.i+2) (by simp only[zA0,List.map,m2,b2,if_true,if_false];kernel_rfl),(),(so0 hF2)⟩
   clear hC;refine vcu ⟨[some (.ptr m 0 0),some (.int .i64 si),none,none,none,none,none,some (.ptr ⟨L+1,10480⟩ 0 0),some (.fs 4 [(pR x)])]++oz 100,[(⟨L+1,10480⟩,.rows 28 20 true true [(gR h [])])],70000⟩ ?_ ?_
   ·simp only[Tryz.f12,hR,hsi,go_sem];repeat refine sd2 ?_
    refine loopK.intro _ _ (I:=fun j:Nat=>⟨[some (.ptr m 0 0),some (.int .i64 si)]++oz 5++[some (.ptr ⟨L+1,10480⟩ 0 0),some (.fs 4 [(pR x)])]++oz 55++[some (.fs 4 [(pR x)]),some (.int .i64 1),some (.int .i64 j)]++oz 42,[(⟨L+1,10480⟩,.rows 28 20 true true [(gR h [])])],10000*(j+5)⟩) (pre:=fun j=>j≤1) (μ:=fun j=>1-j) 0 (by omega) ?_ ?_
    ·refine Sub.of (hfz hF2) (by simp only[hsi,go_sem,zAf,and_self,zW,vK];try trivial) ?_ (by simp[zAs,keys]) (by simp);simp[zAi,Tx.look]
    intro j hj;by_cases hlt:j<1
    ·obtain rfl:j=0:=by omega
     have q1:decide (((0:Nat):Int)<1)=true:=rfl;have q2:decide ((0:Int)<1)=true:=rfl;simp only[q2,zW,hsi,go_sem];repeat refine sd2 ?_
     refine CallVC.same (hX _ _ _) ?_;simp only[n0,x1,x2,go_sem];repeat refine sd2 ?_
     refine ⟨1,by omega,by omega,?_⟩;refine Sub.of (hfz hF2) (by simp only[go_sem,zAf,vK];try trivial) ?_ (by simp[zAs,keys]) (by simp);simp[zAi,Tx.look]
    ·obtain rfl:j=1:=by omega
     have q1:decide (((1:Nat):Int)<1)=false:=rfl;have q2:decide ((1:Int)<1)=false:=rfl;simp only[q2,vK,hsi,go_sem];repeat refine sd2 ?_
     exact ⟨(),(so0 hF2)⟩
   clear hX;refine vcu ⟨[some (.ptr m 0 0),some (.int .i64 si),none,none,none,none,none,none,some (.fs 4 [(pR x)])]++oz 100,[(m,.rows 33 43 true false [R h (.sl b 0 w.length)])],80000⟩ ?_ ?_
   ·simp only[Tryz.f12,kq,m1,hR,hsi,go_sem];repeat refine sd2 ?_
    exact ⟨zAA (fun x=>if x=m then 1 else if x=b then 1 else x.i+2) (by simp only[zA0,List.map,m2,b2,if_true,if_false];kernel_rfl),(),(so0 hF2 (h2:=by simp[zAi,Tx.look,m1]) (h3:=by simp[zAs,keys,m2]))⟩
   refine VT.of (zAg (L+1)) ?_;simp only[Tryz.f12,kq,m1,m2,b2,c1,c2,kb,hR,hsi,z1,z2,ml,go_sem];repeat refine sd2 ?_
   refine ⟨zAA (fun x=>if x=m then 1 else if x=b then 1 else x.i+2) (by simp only[zA0,List.map,m2,b2,c1,if_true,if_false];kernel_rfl),.now (PostN.val [80352] (.inr rfl) (by simp) (p:=True) (v0:=.bool true) ?_ trivial ?_ ?_ ⟨by omega,?_,by omega,?_,zH _,?_,trivial⟩ ?_)⟩;·simp only[go_sem]
   ·simp[nmA]
   ·simp[Tx.rn]
   ·rw[zCd (hm0.imp id fun h=>.inl h.2)];exact .ren (by simp[Tx.look];rfl) (by simp[zB2,nmA,zDf,Dn,(hva nx [80352]).1]) (by simp[Tx.rn,Tx.rnL,(hva nx [80352]).2];try simp[sg])
   ·exact zFi
   ·rw[zDg (by simp)];exact .pure (by simp[Tx.look,m2,b2,Pkx.row])
   ·simp[UpdAll,keys]
theorem zDa{F:SF}{L nx:Nat}(m:Nm)(hm0:m.l<L∨(m.l=L∧m.i<nx))(s:Bool)(k:Tk)(a:Nm)(haL:a.l≤L)(ham:a≠m)(z:List Pkx)(hFa:F a=some (.rows 38 4 true true (((k.w s)++z).map Pkx.row)))(which:Int)(at1:Nat)(hat:which.tmod (k.w s).length=at1)(hlt:at1<(k.w s).length)(hal:(k.w s).length≤1000000)(p:Pkx)(hp:(k.w s)[at1]?=some p)(hsm:p.sm)(h:Gx)(o:List Pkx)(hst:zAU (k.g s) k.now 5 p=(h,o,0))(b:Nm)(hbL:b.l≤L)(hbm:b≠m)(hwl:(k.w !s).length≤1000000)(hFb:F b=some (.rows 38 4 true true ((k.w !s).map Pkx.row)))(hF:F m=some (.rows 33 43 true false [k.rw s (.sl a 0 (k.w s).length) (.sl b 0 (k.w !s).length)])):
  Con Tryz.prog 21 [.ptr m 0 0,.int .i64 (sI s),.int .i64 which,.bool false,.bool false] F L nx (nx+2) (.bool true) [(m,.rows 33 43 true false [(k.ev s h (k.w s) o).rw s (.sl ⟨L,nx⟩ 0 ((k.w s).length-1)) (.sl ⟨L,nx+1⟩ 0 ((k.w !s).length+o.length))]),(b,.dead),(⟨L,nx⟩,.rows 38 4 true true (((k.w s).eraseIdx at1).map Pkx.row)),(⟨L,nx+1⟩,.rows 38 4 true true ((k.w (!s)++o).map Pkx.row))] [m,a,b]:=by
 have hm:m.l≤L:=by omega
 have m1:∀k,(m=(⟨L+1,k⟩:Nm))=False:=zAI hm;have m2:∀k,((⟨L+1,k⟩:Nm)=m)=False:=zAF hm;have a1:∀k,(a=(⟨L+1,k⟩:Nm))=False:=zAI haL;have a2:∀k,((⟨L+1,k⟩:Nm)=a)=False:=zAF haL;have a3:∀k,((⟨L+1,k⟩:Nm)==a)=false:=fun k=>by rw[beq_eq_false_iff_ne,ne_eq,a2 k];exact not_false
 have d1:(a=m)=False:=eq_false ham;have d2:(m=a)=False:=eq_false (Ne.symm ham);have b1:∀k,(b=(⟨L+1,k⟩:Nm))=False:=zAI (by omega);have b2:∀k,((⟨L+1,k⟩:Nm)=b)=False:=zAF (by omega);have c1:(b=m)=False:=eq_false hbm;have c2:(m=b)=False:=eq_false (Ne.symm hbm);obtain ⟨w,hw⟩:∃w,w=k.w s:=⟨_,rfl⟩;obtain ⟨RW,hRW⟩:∃R,R=(w++z).map Pkx.row:=⟨_,rfl⟩;rw[←hw]at hFa hat hlt hal hp hF ⊢;have er:=zNn w z hlt;have ln:RW.length=w.length+z.length:=by rw[hRW];simp
 have gr:RW.getD at1 []=(pR p):=by
  rw[hRW,zE,wE,wO hlt,hp];rfl
 rw[←hRW]at er hFa;clear hRW;have l1:(List.take at1 RW).length=at1:=by simp;omega
 have l2:(List.take (w.length-(at1+1)) (List.drop (at1+1) RW)).length=w.length-(at1+1):=by simp;omega
 have l3:at1+(w.length-(at1+1))=w.length-1:=by omega
 have tn:((at1:Int)+1).toNat=at1+1:=by omega
 have w1:IntKind.i64.wrap ((at1:Int)+1)=(at1:Int)+1:=by simp[IntKind.wrap,IntKind.signed,IntKind.bits];omega
 have e0:((w.length:Int)==0)=false:=by
  simp only[beq_eq_false_iff_ne,ne_eq];omega
 obtain ⟨si,hsi⟩:∃x,x=sI s:=⟨_,rfl⟩;obtain ⟨w2,hw2⟩:∃w,w=k.w !s:=⟨_,rfl⟩;rw[←hw2]at hwl hFb hF ⊢;obtain ⟨R,hR⟩:∃R:PV→List PV,R=fun v=>k.rw s v (.sl b 0 w2.length):=⟨_,rfl⟩
 have hR0:∀v,k.rw s v (.sl b 0 w2.length)=R v:=fun v=>by rw[hR]
 have hD:=fun(F:SF) (nx:Nat) (h1:F b=some (.rows 38 4 true true (w2.map Pkx.row))) (h2:F m=some (.rows 33 43 true false [R (.sl ⟨L+1,20736⟩ 0 (w.length-1))]))=>zIn (F:=F) (L:=L+1) (nx:=nx) m (.inl (by omega)) s k 5 p hsm.1 hsm.2 (.sl ⟨L+1,20736⟩ 0 (w.length-1)) (zQp (zH _)) b (by omega) h o hst hbm (by rw[←hw2];exact hwl) (by rw[←hw2];exact h1) (by rw[←hw2,hR0];exact h2)
 simp only[←hw2,←hsi,←hw]at hD;obtain ⟨RE,hRE⟩:∃RE:PV→PV→List PV,RE=fun x y=>(k.ev s h w o).rw s x y:=⟨_,rfl⟩
 have hRE0:∀x y,(k.ev s h w o).rw s x y=RE x y:=fun x y=>by rw[hRE]
 simp only[hRE0]at hD ⊢;rw[hR0]at hF;rw[←hsi];cases s;all_goals
  simp only[sI,Tk.rw,Tk.ev,Tk.row]at hsi hR hRE;simp only[hsi]at hD;refine zUf (zAg (L+1)) rfl rfl (fn:=Tryz.f21) (c:=Tryz.f21.body.getD .skip) (by kernel_rfl) (by rfl) (by kernel_rfl) rfl (by simp;omega) ?_;intro F3 hF1 hF2;have kq:=(hF1 m (by simp)).trans hF;have ka:=(hF1 a (by simp)).trans hFa;have kb:=(hF1 b (by simp)).trans hFb;refine vcu ⟨[some (.ptr m 0 0),some (.int .i64 si),some (.int .i64 which),some (.bool false),some (.bool false)]++oz 69,[],1000⟩ ?_ ?_
  ·simp only[Tryz.f21,hsi,go_sem];repeat refine sd2 ?_
   exact ⟨(),(so0 hF2)⟩
  refine vcu ⟨[some (.ptr m 0 0),some (.int .i64 si),some (.int .i64 which),some (.bool false),some (.bool false)]++oz 69,[],2000⟩ ?_ ?_
  ·simp only[Tryz.f21,kq,e0,hR,hsi,go_sem];repeat refine sd2 ?_
   exact ⟨(),(so0 hF2)⟩
  refine vcu ⟨[some (.ptr m 0 0),some (.int .i64 si),some (.int .i64 which),some (.bool false),some (.bool false),none,none,none,none,none,none,some (.int .i64 at1)]++oz 62,[],10000⟩ ?_ ?_
  ·simp only[Tryz.f21,kq,hR,hsi,hat,go_sem];repeat refine sd2 ?_
   exact ⟨(),(so0 hF2)⟩
  refine vcu ⟨[some (.ptr m 0 0),some (.int .i64 si),some (.int .i64 which),some (.bool false),some (.bool false),none,none,none,none,none,none,some (.int .i64 at1),some (.ptr ⟨L+1,10288⟩ 0 0)]++oz 61,[(⟨L+1,10288⟩,.rows 38 4 true true [(pR p)])],20000⟩ ?_ ?_
  ·simp only[Tryz.f21,kq,ka,hR,hsi,ln,gr,go_sem];repeat refine sd2 ?_
   exact ⟨(),(so0 hF2)⟩
  refine vcu ⟨[some (.ptr m 0 0),some (.int .i64 si),some (.int .i64 which),some (.bool false),some (.bool false),none,none,none,none,none,none,some (.int .i64 at1),some (.ptr ⟨L+1,10288⟩ 0 0)]++oz 61,[(m,.rows 33 43 true false [R (.sl ⟨L+1,20736⟩ 0 (w.length-1))]),(⟨L+1,20736⟩,.rows 38 4 true true ((w.eraseIdx at1).map Pkx.row)),(⟨L+1,10288⟩,.rows 38 4 true true [(pR p)])],30000⟩ ?_ ?_
  ·simp only[Tryz.f21,kq,m1,ka,hR,hsi,a1,a3,ln,l1,l2,l3,tn,w1,er,vH,zA,go_sem];repeat refine sd2 ?_
   exact ⟨⟨by omega,by omega,by omega,.inl trivial⟩,⟨by omega,by omega,by omega⟩,⟨by omega,by omega⟩,zAA (fun x=>if x=m then 1 else if x=a then 0 else x.i+2) (by simp only[zA0,List.map,m2,a2,d1,if_true,if_false];kernel_rfl),(),(so0 hF2 (h2:=by simp[zAi,Tx.look,m1]) (h3:=by simp[zAs,keys,m1,m2]))⟩
  refine VT.of (zAg (L+1)) ?_;simp only[Tryz.f21,m2,hR,hsi,go_sem];repeat refine sd2 ?_
  refine CallVC.same (hD _ _ (by simp[kb,c1,b1]) (by simp[hR])) ?_;simp only[hRE,m1,m2,b1,b2,c1,go_sem];repeat refine sd2 ?_
  refine .now (PostN.val [20736,30192] (.inr rfl) (by simp) (p:=True) (v0:=.bool true) ?_ trivial ?_ ?_ ⟨by omega,?_,by omega,?_,zH _,?_,zH _,?_,trivial⟩ ?_);·simp only[go_sem]
  ·simp[nmA]
  ·simp[Tx.rn]
  ·rw[zCd (hm0.imp id fun h=>.inl h.2)];exact .ren (by simp[Tx.look];rfl) (by simp[zB2,nmA,zDf,Dn]) (by simp[Tx.rn,Tx.rnL];try simp[sg];try rfl)
  ·exact zFi
  ·rw[zDg (by simp)];exact .pure (by simp[Tx.look,m2])
  ·rw[zRd (j:=1) (by simp)];exact .pure (by simp[Tx.look,m2,b2])
  ·simp[UpdAll,keys]
theorem Con.rds{P:Program}{f:FuncId}{args:List PV}{F:SF}{L nx top:Nat}{v:PV}{upd:List (Nm×SBlk)}{rd rd2:List Nm}(h:Con P f args F L nx top v upd rd)(hs:∀n∈rd,n∈rd2):Con P f args F L nx top v upd rd2:=
 ⟨h.1,fun F2 hF=>h.2 F2 (fun n hn=>hF n (hs n hn))⟩
theorem zSM{F:SF}{L nx top:Nat}{f:FuncId}{args:List PV}{v:PV}{upd:List (Nm×SBlk)}{rd rd2:List Nm}{pu:Bool}(m:Nm)(hm0:m.l<L∨(m.l=L∧m.i<nx))(s:Bool)(k:Tk)(x:PV)(hF:F m=some (.rows 33 43 true pu [k.rw s x .nilS]))(hmr:m∈rd2)
  (h:Con Tryz.prog f args ((F.set ⟨L,nx⟩ (.rows 38 4 true true (([]:List Pkx).map Pkx.row))).set m (.rows 33 43 true false [k.rw s x (.sl ⟨L,nx⟩ 0 0)])) L (nx+1) top v upd rd)(hr:∀n∈rd,n=⟨L,nx⟩∨n∈rd2):
  Con Tryz.prog f args F L nx top v ((⟨L,nx⟩,.rows 38 4 true true (([]:List Pkx).map Pkx.row))::(m,.rows 33 43 true false [k.rw s x (.sl ⟨L,nx⟩ 0 0)])::upd) rd2:=by
 refine zVL (by omega) hF hmr (by intro h;rw[h]at hm0;simp at hm0) ((zN2 k s x _).trans (zN2 k s x _).symm) (fun c=>zN1 k s x .nilS (.sl ⟨L,nx⟩ 0 0) c) (Con.rds h (fun n hn=>?_));rcases hr n hn with h|h;·rw[h];exact List.mem_cons_self ..
 ·exact List.mem_cons_of_mem _ h
theorem zPL{pu:Bool}{F:SF}{L nx:Nat}(m:Nm)(hm0:m.l<L∨(m.l=L∧m.i<nx))(s:Bool)(k:Tk)(kind:Int)(p:Pkx)(hlen:p.cs.length≤1000000)(hb:∀c∈p.cs,c.bd.length≤1000000)(va:PV)(hva:zQo L va)(h:Gx)(o:List Pkx)(hst:zAU (k.g s) k.now kind p=(h,o,0))(hnil:k.w (!s)=[])(hF:F m=some (.rows 33 43 true pu [k.rw s va .nilS])):
  Con Tryz.prog 12 [.ptr m 0 0,.int .i64 (sI s),.agg (.int .i64 kind::p.row)] F L nx (nx+1+1) (.bool true) ((⟨L,nx⟩,.rows 38 4 true true (([]:List Pkx).map Pkx.row))::(m,.rows 33 43 true false [k.rw s va (.sl ⟨L,nx⟩ 0 0)])::[(m,.rows 33 43 true false [(k.ev s h (k.w s) o).rw s va (.sl ⟨L,nx+1⟩ 0 ((k.w !s).length+o.length))]),(⟨L,nx⟩,.dead),(⟨L,nx+1⟩,.rows 38 4 true true ((k.w (!s)++o).map Pkx.row))]) [m]:=by
 have hmx':(⟨L,nx⟩:Nm)≠m:=by intro h;rw[←h]at hm0;simp at hm0
 refine zSM m hm0 s k va hF (by simp) (zIn (nx:=nx+1) m (by omega) s k kind p hlen hb va hva ⟨L,nx⟩ (zH _) h o hst hmx' (by rw[hnil];simp) (by simp only[SF.set,if_neg hmx',if_true,hnil]) (by simp only[SF.set,if_true,hnil,wW])) (fun n hn=>by simp at hn ⊢;exact hn.symm)
theorem zJY{F:SF}{L nx:Nat}(m:Nm)(hm0:m.l<L∨(m.l=L∧m.i<nx))(s:Bool)(k:Tk)(a:Nm)(haL:a.l≤L)(ham:a≠m)(hax:a≠⟨L,nx⟩)(z:List Pkx)(hFa:F a=some (.rows 38 4 true true (((k.w s)++z).map Pkx.row)))(which:Int)(at1:Nat)(hat:which.tmod (k.w s).length=at1)(hlt:at1<(k.w s).length)(hal:(k.w s).length≤1000000)(p:Pkx)(hp:(k.w s)[at1]?=some p)(hsm:p.sm)(h:Gx)(o:List Pkx)(hst:zAU (k.g s) k.now 5 p=(h,o,0))(hnil:k.w (!s)=[]){pu:Bool}(hF:F m=some (.rows 33 43 true pu [k.rw s (.sl a 0 (k.w s).length) .nilS])):
  Con Tryz.prog 21 [.ptr m 0 0,.int .i64 (sI s),.int .i64 which,.bool false,.bool false] F L nx (nx+1+2) (.bool true) ((⟨L,nx⟩,.rows 38 4 true true (([]:List Pkx).map Pkx.row))::(m,.rows 33 43 true false [k.rw s (.sl a 0 (k.w s).length) (.sl ⟨L,nx⟩ 0 0)])::[(m,.rows 33 43 true false [(k.ev s h (k.w s) o).rw s (.sl ⟨L,nx+1⟩ 0 ((k.w s).length-1)) (.sl ⟨L,nx+1+1⟩ 0 ((k.w !s).length+o.length))]),(⟨L,nx⟩,.dead),(⟨L,nx+1⟩,.rows 38 4 true true (((k.w s).eraseIdx at1).map Pkx.row)),(⟨L,nx+1+1⟩,.rows 38 4 true true ((k.w (!s)++o).map Pkx.row))]) [m,a]:=by
 have hmx':(⟨L,nx⟩:Nm)≠m:=by intro h;rw[←h]at hm0;simp at hm0
 refine zSM m hm0 s k (.sl a 0 (k.w s).length) hF (by simp) (zDa (nx:=nx+1) m (by omega) s k a haL ham z (by simp only[SF.set,if_neg ham,if_neg hax];exact hFa) which at1 hat hlt hal p hp hsm h o hst ⟨L,nx⟩ (zH _) hmx' (by rw[hnil];simp) (by simp only[SF.set,if_neg hmx',if_true,hnil]) (by simp only[SF.set,if_true,hnil,wW])) (fun n hn=>by simp at hn ⊢;rcases hn with h|h|h<;>simp[h])
end Go.Proofs.YtifhjhbfhdcahaaGreat
end
