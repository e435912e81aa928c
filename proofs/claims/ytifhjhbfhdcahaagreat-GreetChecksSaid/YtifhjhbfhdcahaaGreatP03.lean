/- Lemmas for the walk: Sx12, Sx13, Sx14, T5. -/
import Derived.Test.YtifhjhbfhdcahaaGreatP02
import Derived.Laws.Append
import Derived.Laws.AppendOwn
import Derived.LaidEqlPtr
import Derived.ChangeKeysEq
set_option linter.all false
section
namespace Go.Sx
noncomputable def zBs(T:Tys)(F:SF)(size:Nat)(xt:TypeId)(x:Value):Option (Prop×List (List Value)×List Nat):=
 match T.get xt,x with
 |some {k:=.slice _,..},.slice (some ⟨m,r,some c⟩) l _=>
  match F m with
  |some (.rows _ wd _ _ rs)=>if c==0&&wd==size then some (r+l≤rs.length,(rs.drop r).take l,[m]) else none
  |_=>none
 |some {k:=.slice _,..},.slice none 0 0=>some (True,[],[])
 |_,_=>none
noncomputable def zBh(T:Tys)(F:SF)(nx:Nat)(t xt:TypeId)(s x:Value):Option Res:=
  match T.get t with
  | some {k:=.slice e,..}=>
    match T.get e with
    | some ei =>
      if ei.size==0||t !=xt then none else
      match zBs T F ei.size xt x with
      |none=>none
      | some (p, xs, rd)=>
        match s with
        | .slice none 0 0=>
          some {vc:=p∧xs.length*ei.bytes≤140737488355328∧xs.length≤9223372036854775807,v:=.slice (some ⟨nx,0,some 0⟩) xs.length FULL,upd:=[(nx,.rows e ei.size true false xs)],rd:=rd}
        | .slice (some ⟨n,0,some c⟩) l cap=>
          match F n with
          | some (.rows e' wd true _ rs)=>
            if c==0&&e'==e&&wd==ei.size&&cap==FULL&& !(rd.contains n) then
              some { vc:=p∧l=rs.length∧(rs.length+xs.length)*ei.bytes≤140737488355328∧rs.length+xs.length≤9223372036854775807,
                     v:=.slice (some ⟨nx,0,some 0⟩) (l+xs.length) FULL,upd:=[(n,.dead),(nx,.rows e ei.size true false (rs++xs))],rd:=n::rd}
            else none
          |_=>none
        |_=>none
    |none=>none
  |_=>none
section
variable {P : Program} {T : Tys} {E : Env} {F : SF} {nx : Nat} {w : World}
theorem RowsRel.part{i:BI}{e:TypeId}{wd:Nat}{own ex:Bool}{rs:List (List Value)}(hR:RowsRel E w i e wd own ex rs){r l:Nat}(h:r+l≤rs.length):
  ∃news:List Value,RowsA E wd ((rs.drop r).take l) news.toArray∧(∀(j:Nat) (u:Value),news[j]?=some u→w.cell? ((⟨i.b,i.o+(r*wd+0),none⟩:Addr).add j)=some u)∧(∀u∈news,u.oneCell'=true):=by
 have hlen:((rs.drop r).take l).length=l:=by simp;omega
 have hcell:∀k,k<l*wd→∃v',v'.oneCell'=true∧w.cell? ⟨i.b,i.o+(r*wd+0)+k,none⟩=some v':=by
  intro k hk;have hq:k/wd<l:=by rw[Nat.div_lt_iff_lt_mul hR.wd_pos];exact hk
  have hrow:=zS (l:=rs) (i:=r+k/wd) (by omega);have hl2:=hR.len _ (zO hrow);have hmod:=vE k hR.wd_pos;have hc:=zS (l:=rs[r+k/wd]) (i:=k%wd) (by omega);obtain ⟨v',_,a2,a3⟩:=hR.cell hrow hc;refine ⟨v',a2,?_⟩;rw[←a3];congr 2;have:=Nat.div_add_mod k wd;rw[wF,vL (k/wd) wd];omega
 refine ⟨(List.range (l*wd)).map fun k=>(w.cell? ⟨i.b,i.o+(r*wd+0)+k,none⟩).getD undef,⟨?_,?_,?_⟩,?_,?_⟩;·intro x hx;exact hR.len x (uE (vR hx))
 ·simp[hlen]
 ·intro q row c v hq hc;have hql:=zAB hq;rw[hlen]at hql;rw[uB,if_pos hql,vX]at hq;have hcl:=zAB hc;have hrl:=hR.len _ (zO hq);obtain ⟨v',a1,a2,a3⟩:=hR.cell hq hc;refine ⟨v',a1,a2,?_⟩;have hm:(q+1)*wd≤l*wd:=wN _ hql;have he:(q+1)*wd=q*wd+wd:=wV q wd;rw[wR,wE,qF (by omega)];simp only[wJ];rw[wF]at a3;rw[show i.o+(r*wd+0)+(q*wd+c)=i.o+(r*wd+q*wd+c) by omega,a3];rfl
 ·intro j u hj;rw[wE]at hj;by_cases hjl:j<l*wd
  ·rw[qF hjl]at hj;simp only[wJ,zZ]at hj;obtain ⟨v',_,hv'⟩:=hcell j hjl;rw[hv']at hj;simp only[vT]at hj;subst hj;rw[addr_add];exact hv'
  ·rw[uA (by simp;omega)]at hj;cases hj
 ·intro u hu;simp only[List.mem_map,List.mem_range]at hu;obtain ⟨k,hk,rfl⟩:=hu;obtain ⟨v',a1,a2⟩:=hcell k hk;rw[a2];exact a1
theorem RowsA.append{wd:Nat}{rs xs:List (List Value)}{cs ds:Array Value}(h:RowsA E wd rs cs)(k:RowsA E wd xs ds):RowsA E wd (rs++xs) (cs++ds):=by
 refine ⟨?_,?_,?_⟩
 ·intro r hr;rcases List.mem_append.1 hr with hr|hr;·exact h.len r hr
  ·exact k.len r hr
 ·rw[Array.size_append,h.size,k.size,zU,wF]
 ·intro r row c v hr hc;have hsz:=h.size;by_cases hrl:r<rs.length
  ·rw[wO hrl]at hr;obtain ⟨v',a1,a2,a3⟩:=h.cell r row c v hr hc;have hcl:=zAB hc;have hwd:=h.len _ (zO hr);have hm:(r+1)*wd≤rs.length*wd:=wN _ hrl;have he:(r+1)*wd=r*wd+wd:=wV r wd;exact ⟨v',a1,a2,by rw[uR (by omega)];exact a3⟩
  ·rw[wZ (by omega)]at hr;obtain ⟨v',a1,a2,a3⟩:=k.cell _ row c v hr hc;refine ⟨v',a1,a2,?_⟩;have hsub:(r-rs.length)*wd+rs.length*wd=r*wd:=by rw[←wF];congr 1;omega
   rw[qO (by omega),show r*wd+c-cs.size=(r-rs.length)*wd+c by omega];exact a3
theorem zEZ{t:TypeId}{wd cap:Nat}{rs:List (List Value)}{cs rest:Array Value}(hE:E nx=none)(hwd:0<wd)(h:RowsA E wd rs cs)(hle:rs.length≤cap)(hcap:cap≤maxLen)
  (hrest:rest.size=(cap-rs.length)*wd):BRel (E.set nx ⟨w.heap.size,0,wd,cap,false⟩) (w.alloc (.cells (cs++rest) t)) nx (.rows t wd true false rs):=by
 have hle':=zUV (i:=⟨w.heap.size,0,wd,cap,false⟩) hE;have hs:=h.size;refine ⟨_,zUO _ _ _,.inr ⟨rfl,rfl,hwd,h.len,hle,(fun hh=>by cases hh),hcap,cs++rest,(0,0),?_,?_,?_,?_⟩⟩
 ·show (w.heap.push _)[w.heap.size]?=_;simp
 ·simp only[Array.size_append,hs,hrest,←wF];rw[show rs.length+(cap-rs.length)=cap by omega];omega
 ·intro _ j _ _;simp
 ·intro r row c v hr hc;obtain ⟨v',a1,a2,a3⟩:=h.cell r row c v hr hc;refine ⟨v',zCV hle' _ _ a1,a2,?_⟩;have hlt:r*wd+c<cs.size:=by
   rcases wT (r*wd+c) cs.size with q|q;·exact q
   ·rw[qJ q]at a3;cases a3
  simp only[zP];rw[uR hlt];exact a3
theorem zU4(h:HRel E F w)(hE:E nx=none)(t:TypeId)(wd:Nat):StepR E F w (E.set nx ⟨0,0,0,0,true⟩) (F.set nx (.rows t wd true false [])) w:=by
 have hle:=zUV (i:=⟨0,0,0,0,true⟩) hE;refine ⟨hle,⟨?_,?_⟩,rfl,rfl,rfl,zH _,fun _ _ _=>rfl,?_⟩
 ·intro n b hf;unfold SF.set at hf;split at hf
  ·rename_i hn;subst hn;injection hf with hf;subst hf;exact ⟨_,zUO _ _ _,.inl ⟨rfl,rfl,rfl⟩⟩
  ·exact (h.blk n b hf).mono hle fun _ _ _=>rfl
 ·intro n m b c i j hf hg hnm ho hl hi hj hin hjn;unfold SF.set at hf hg;by_cases hn:n=nx;·subst hn;rw[zUO]at hi;injection hi with hi;subst hi;cases hin
  ·by_cases hm:m=nx;·subst hm;rw[zUO]at hj;injection hj with hj;subst hj;cases hjn
   ·rw[if_neg hn]at hf;rw[if_neg hm]at hg;rw[zUP E _ hn]at hi;rw[zUP E _ hm]at hj;exact h.sep n m b c i j hf hg hnm ho hl hi hj hin hjn
 ·intro n b i hf ho hi hin;unfold SF.set at hf;by_cases hn:n=nx;·subst hn;rw[zUO]at hi;injection hi with hi;subst hi;cases hin
  ·rw[if_neg hn]at hf;rw[zUP E _ hn]at hi;exact .inr ⟨n,b,i,hf,ho,hi,hin,rfl⟩
theorem zUc(h:HRel E F w)(n:Nat):StepR E F w E (F.set n .dead) w:=by
 refine ⟨Env.le.refl _,⟨?_,?_⟩,rfl,rfl,rfl,zH _,fun _ _ _=>rfl,?_⟩
 ·intro m b hf;unfold SF.set at hf;split at hf;·injection hf with hf;subst hf;trivial
  ·exact h.blk m b hf
 ·intro m k b c i j hf hg hnm ho hl hi hj hin hjn;unfold SF.set at hf hg;split at hf;·injection hf with hf;subst hf;cases ho
  ·split at hg;·injection hg with hg;subst hg;cases hl
   ·exact h.sep m k b c i j hf hg hnm ho hl hi hj hin hjn
 ·intro m b i hf ho hi hin;unfold SF.set at hf;split at hf;·injection hf with hf;subst hf;cases ho
  ·exact .inr ⟨m,b,i,hf,ho,hi,hin,rfl⟩
theorem zUj(h:HRel E F w)(hE:E nx=none){n:Nat}{e:TypeId}{wd:Nat}{ex:Bool}{rs xs:List (List Value)}{i:BI}(hF:F n=some (.rows e wd true ex rs))(hi:E n=some i)(hn:i.nil=false)
  {news:List Value}(hA:RowsA E wd xs news.toArray)(hone:∀u∈news,u.oneCell'=true)(hroom:rs.length+xs.length≤i.n):
  (storeCells ⟨i.b,i.o+(rs.length*wd),none⟩ news).run P w= .ok () (w.setCells i.b (i.o+rs.length*wd) news)∧
  StepR E F w (E.set nx i) ((F.set n .dead).set nx (.rows e wd true false (rs++xs))) (w.setCells i.b (i.o+rs.length*wd) news):=by
 have hR:=zAJ h hF hi hn;obtain ⟨cs,fz,b1,b2,b3,b4⟩:=hR.cells;have hsz:=hA.size;simp only[uO]at hsz;have hm:(rs.length+xs.length)*wd≤i.n*wd:=wN _ hroom;rw[wF]at hm;have hle:=zUV (i:=i) hE;have hlt:i.b<w.heap.size:=(h.blk n _ hF).lt rfl hi hn;have hrun:=run_storeCells_cells (P:=P) i.b (i.o+rs.length*wd) news 0 w
  (fun j hj=>by
   simp only[World.cell?,b1,vM,wC,if_false];rw[qH (by omega)];rfl)
  (fun j hj=>by
   have:=b3 rfl (i.o+rs.length*wd+0+j) (by omega) (by omega);simp only[World.frozen?,b1];simpa using this) hone
 have hheap:=zAm i.b e fz news (i.o+rs.length*wd) cs w b1;have hother:=fun k (hk:k≠i.b)=>zAW i.b k hk news (i.o+rs.length*wd) w
 have hsize:=size_setCells i.b news (i.o+rs.length*wd) w;obtain ⟨hos,htape,hout⟩:=os_setCells i.b news (i.o+rs.length*wd) w;refine ⟨hrun,?_⟩;generalize w.setCells i.b (i.o+rs.length*wd) news=w' at *;refine ⟨hle,⟨?_,?_⟩,hos,htape,hout,by omega,?_,?_⟩
 ·intro m b hm';unfold SF.set at hm';split at hm'
  ·rename_i hmn;subst hmn;injection hm' with hm';subst hm';refine ⟨i,zUO _ _ _,.inr ⟨hn,hR.wd_eq,hR.wd_pos,?_,by simpa using hroom,(fun hh=>by cases hh),hR.cap,zF7 cs (i.o+rs.length*wd) news,fz,hheap,by rw[zAw];exact b2,b3,?_⟩⟩
   ·intro x hx;rcases List.mem_append.1 hx with hx|hx;·exact hR.len x hx
    ·exact hA.len x hx
   ·intro r row c v hr hc;rw[zA5 _ _ _ _ (by omega)];by_cases hrl:r<rs.length
    ·rw[wO hrl]at hr;obtain ⟨v',a1,a2,a3⟩:=b4 r row c v hr hc;have hcl:=zAB hc;have hwd:=hR.len _ (zO hr);have hm2:(r+1)*wd≤rs.length*wd:=wN _ hrl;have he2:(r+1)*wd=r*wd+wd:=wV r wd;rw[if_neg (by omega)];exact ⟨v',zCV hle _ _ a1,a2,a3⟩
    ·rw[wZ (by omega)]at hr;obtain ⟨v',a1,a2,a3⟩:=hA.cell _ row c v hr hc;rw[wR]at a3;have hj:=zAB a3;have hsub:(r-rs.length)*wd+rs.length*wd=r*wd:=by rw[←wF];congr 1;omega
     rw[if_pos (by omega),show i.o+(r*wd+c)-(i.o+rs.length*wd)=(r-rs.length)*wd+c by omega];exact ⟨v',zCV hle _ _ a1,a2,a3⟩
  ·rename_i hmx;split at hm';·injection hm' with hm';subst hm';trivial
   ·rename_i hmn;by_cases hl:b.live=true;rotate_left
    ·cases b<;>first|trivial|simp[SBlk.live]at hl
    refine (h.blk m b hm').mono hle fun j hj hjn=>hother _ ?_
    exact fun e=>h.sep n m _ b i j hF hm' (fun e=>hmn e.symm) rfl hl hi hj hn hjn e.symm
 ·intro m k b d a q hm' hk hmk hb hd ha hq han hqn;unfold SF.set at hm' hk;by_cases hmx:m=nx
  ·subst hmx;rw[zUO]at ha;injection ha with ha;subst ha;rw[if_neg (fun e=>hmk e.symm)]at hk;rw[zUP E _ (fun e=>hmk e.symm)]at hq;split at hk;·injection hk with hk;subst hk;cases hd
   ·rename_i hkn;exact h.sep n k _ d i q hF hk (fun e=>hkn e.symm) rfl hd hi hq hn hqn
  ·rw[if_neg hmx]at hm';rw[zUP E _ hmx]at ha;split at hm';·injection hm' with hm';subst hm';cases hb
   rename_i hmn;by_cases hkx:k=nx
   ·subst hkx;rw[zUO]at hq;injection hq with hq;subst hq;exact h.sep m n b _ a i hm' hF hmn hb rfl ha hi han hn
   ·rw[if_neg hkx]at hk;rw[zUP E _ hkx]at hq;split at hk;·injection hk with hk;subst hk;cases hd
    ·exact h.sep m k b d a q hm' hk hmk hb hd ha hq han hqn
 ·intro k hk hno;exact hother k (fun e=>hno n _ i hF rfl hi hn e.symm)
 ·intro m b q hm' hb hq hqn;unfold SF.set at hm';by_cases hmx:m=nx
  ·subst hmx;rw[zUO]at hq;injection hq with hq;subst hq;exact .inr ⟨n,_,i,hF,rfl,hi,hn,rfl⟩
  ·rw[if_neg hmx]at hm';rw[zUP E _ hmx]at hq;split at hm';·injection hm' with hm';subst hm';cases hb
   ·exact .inr ⟨m,b,q,hm',hb,hq,hqn,rfl⟩
end
end Go.Sx
end
section
namespace Go.Sx
section
variable {P : Program} {T : Tys} {E : Env} {F : SF} {nx : Nat} {w : World}
def Src(E:Env)(w:World)(size:Nat)(x':Value)(xs:List (List Value)):Prop:=
 (x'= .slice none 0 0∧xs=[])∨
 ∃a c news,x'= .slice (some a) xs.length c∧RowsA E size xs (news:List Value).toArray∧(∀(j:Nat) (u:Value),news[j]?=some u→w.cell? (a.add j)=some u)∧(∀u∈news,u.oneCell'=true)
theorem zE1(h:HRel E F w){size:Nat}{xt:TypeId}{x x':Value}{p:Prop}{xs:List (List Value)}{rd:List Nat}(hs:zBs T F size xt x=some (p,xs,rd))(hp:p)(hx:dv E x=some x'):Src E w size x' xs:=by
 unfold zBs at hs;split at hs
 ·rename_i m r c l _ _;split at hs;rotate_left;·cases hs
  rename_i e wd own ex rs hF;split at hs;rotate_left;·cases hs
  rename_i hcw;simp only[zC,beq_iff_eq]at hcw;obtain ⟨rfl,rfl⟩:=hcw;injection hs with hs;simp only[wL]at hs;obtain ⟨rfl,rfl,_⟩:=hs;obtain ⟨i,hi,hor⟩:=zEz hx;rcases hor with ⟨_,rfl,rfl⟩|⟨hn,rfl⟩;·exact .inl ⟨rfl,by simp⟩
  ·have hR:=zAJ h hF hi hn;obtain ⟨news,a1,a2,a3⟩:=hR.part hp;have hlen:((rs.drop r).take l).length=l:=by simp;omega
   exact .inr ⟨_,_,news,by rw[hlen,hR.wd_eq],a1,a2,a3⟩
 ·injection hs with hs;simp only[wL]at hs;obtain ⟨_,rfl,_⟩:=hs;simp[dv]at hx;exact .inl ⟨hx.symm,rfl⟩
 ·cases hs
theorem Src.len{size:Nat}{x':Value}{xs:List (List Value)}(h:Src E w size x' xs):(Builtin.lenOf x').run P w= .ok xs.length w:=by
 rcases h with ⟨rfl,rfl⟩|⟨a,c,news,rfl,_,_,_⟩<;>rfl
theorem Src.cells{size:Nat}{x':Value}{xs:List (List Value)}(h:Src E w size x' xs):∃news:List Value,(Builtin.firstCells size xs.length x').run P w= .ok news.toArray w∧RowsA E size xs news.toArray∧(∀u∈news,u.oneCell'=true):=by
 rcases h with ⟨rfl,rfl⟩|⟨a,c,news,rfl,h1,h2,h3⟩;·exact ⟨[],rfl,⟨by simp,by simp,by simp⟩,by simp⟩
 ·exact ⟨news,run_firstCells_some w size xs.length a xs.length c news (by simpa using h1.size) h2,h1,h3⟩
theorem append_nil(hT:T.Ok P)(h:HRel E F w)(hE:E nx=none){t ty e:TypeId}{ei:TI}(hu:P.underlying t=some (.slice e))(hei:T.get e=some ei)(hsz:0<ei.size){x':Value}{xs:List (List Value)}
  (hsrc:Src E w ei.size x' xs)(hb:xs.length*ei.bytes≤140737488355328)(hm:xs.length≤9223372036854775807):
  ∃v' w' E',(Builtin.append_ #[t,t] ty #[.slice none 0 0,x']).run P w= .ok v' w'∧dv E' (.slice (some ⟨nx,0,some 0⟩) xs.length FULL)=some v'∧
   StepR E F w E' (F.set nx (.rows e ei.size true false xs)) w'∧FreshIn E E' nx:=by
 obtain ⟨x,hx,hx0,hx1,hx2⟩:=(hT _ _ hei).info;have fresh:∀i:BI,FreshIn E (E.set nx i) nx:=fun i=>FreshIn.set (zH _) (by omega)
 have hnil:xs=[]→(Builtin.append_ #[t,t] ty #[.slice none 0 0,x']).run P w= .ok (.slice none 0 0) w→∃v' w' E',(Builtin.append_ #[t,t] ty #[.slice none 0 0,x']).run P w= .ok v' w'∧dv E' (.slice (some ⟨nx,0,some 0⟩) xs.length FULL)=some v'∧
   StepR E F w E' (F.set nx (.rows e ei.size true false xs)) w'∧FreshIn E E' nx:=by
  intro hxs hr;subst hxs;exact ⟨_,_,E.set nx ⟨0,0,0,0,true⟩,hr,by simp[dv,dS,zUO],zU4 h hE e ei.size,fresh _⟩
 rcases hsrc with ⟨rfl,rfl⟩|⟨a,c,news,rfl,h1,h2,h3⟩
 ·refine hnil rfl ?_;simp[Builtin.append_,run_underlying hu,sizeOf,typeInfo,hx,Builtin.lenOf,Builtin.firstCells]
 ·by_cases h0:xs.length=0
  ·have hxs:xs=[]:=vI h0;refine hnil hxs ?_;subst hxs;simp[Builtin.append_,run_underlying hu,sizeOf,typeInfo,hx,Builtin.lenOf,Builtin.firstCells,loadCells,loadCellsFrom]
  ·have hsz':=h1.size;simp only[uO]at hsz';have hr:=run_append_nil (P:=P) w t ty e x ei.zero hu hx hx0 a xs.length c news (by rw[hx1];exact hsz') h2 (by omega) (by omega) (by rw[hx2];omega);have hge:=grownCap_ge w xs.length 0 e;have hcm:=grownCap_le_maxLen w xs.length 0 e (by unfold maxLen;omega);refine ⟨_,_,E.set nx ⟨w.heap.size,0,ei.size,grownCap w xs.length 0 e,false⟩,hr,?_,?_,fresh _⟩;·rw[zBm (zUO _ _ _) rfl];simp
   ·have hrest:(Builtin.zeroCells ei.zero.cells (grownCap w xs.length 0 e-xs.length)).size=(grownCap w xs.length 0 e-xs.length)*ei.size:=by
     rw[size_zeroCells,←vA,zAD,(hT _ _ hei).sz]
    have hb:=zEZ (w:=w) (t:=e) hE hsz h1 hge hcm hrest;have:=zUY h hE (.cells (news.toArray++Builtin.zeroCells ei.zero.cells (grownCap w xs.length 0 e-xs.length)) e) ⟨w.heap.size,0,ei.size,grownCap w xs.length 0 e,false⟩ _ rfl hb;exact this.drew
theorem zFw(hT:T.Ok P)(h:HRel E F w)(hE:E nx=none){t xt ty:TypeId}{s s' x x':Value}{r:Res}(hs:zBh T F nx t xt s x=some r)(hvc:r.vc)(hds:dv E s=some s')(hdx:dv E x=some x'):
  ∃v' w',(Builtin.append_ #[t,xt] ty #[s',x']).run P w= .ok v' w'∧Gives E F nx w r v' w':=by
 unfold zBh at hs;split at hs;rotate_left;·cases hs
 rename_i e _ _ _ _ hti;split at hs;rotate_left;·cases hs
 rename_i ei hei;split at hs;·cases hs
 rename_i hcond;simp only[vV,beq_iff_eq,bne_iff_ne,ne_eq,not_or,Decidable.not_not]at hcond;obtain ⟨hsz,rfl⟩:=hcond;obtain ⟨d,hd,hk⟩:=(hT _ _ hti).desc;obtain rfl:=zAS hk;obtain ⟨ix,hx,hx0,hx1,hx2⟩:=(hT _ _ hei).info;split at hs;·cases hs
 rename_i p xs rd hsrc;split at hs
 ·injection hs with hs;subst hs;obtain ⟨hp,hb,hm⟩:=hvc;simp[dv]at hds;subst hds;obtain ⟨v',w',E',r1,r2,r3,r4⟩:=append_nil hT h hE (ty:=ty) hd hei (by omega) (zE1 h hsrc hp hdx) hb hm;exact ⟨v',w',r1,E',r2,r3,r4⟩
 ·rename_i n c l cap;split at hs;rotate_left;·cases hs
  rename_i e' wd ex rs hF;split at hs;rotate_left;·cases hs
  rename_i hc2;simp only[zC,beq_iff_eq]at hc2;obtain ⟨⟨⟨⟨rfl,rfl⟩,rfl⟩,rfl⟩,_⟩:=hc2;injection hs with hs;subst hs;obtain ⟨hp,rfl,hb,hm⟩:=hvc;have hsrc':=zE1 h hsrc hp hdx;obtain ⟨i,hi,hor⟩:=zEz hds;rcases hor with ⟨hn,hl0,rfl⟩|⟨hn,rfl⟩
  ·have hrs:rs=[]:=vI hl0;subst hrs;have hf:=zUc h n;simp only[wW,zP,zF]at hb hm ⊢;obtain ⟨v',w',E',r1,r2,r3,r4⟩:=append_nil hT hf.rel hE (ty:=ty) hd hei (by omega) hsrc' hb hm;exact ⟨v',w',r1,E',r2,hf.trans r3,r4⟩
  ·have hR:=zAJ h hF hi hn;have hw:=hR.wd_eq;obtain ⟨news,c1,c2,c3⟩:=hsrc'.cells (P:=P);have hlen:=hsrc'.len (P:=P);simp only[Nat.zero_mul,wH,if_true,vH];by_cases hroom:rs.length+xs.length≤i.n
   ·obtain ⟨e1,e2⟩:=zUj (P:=P) h hE hF hi hn c2 c3 hroom;refine ⟨.slice (some ⟨i.b,i.o,none⟩) (rs.length+xs.length) i.n,w.setCells i.b (i.o+rs.length*ei.size) news,?_,E.set nx i,?_,e2,FreshIn.set (zH _) (by omega)⟩;·simp[Builtin.append_,run_underlying hd,sizeOf,typeInfo,hx,hx1,hlen,hroom,c1,addr_add,e1]
    ·rw[zBm (zUO _ _ _) hn];simp
   ·-- growth
    rcases hsrc' with ⟨rfl,rfl⟩|⟨a,cx,news',rfl,h1,h2,h3⟩;·have:=hR.le;simp at hroom;omega
    ·obtain ⟨olds,o1,o2,o3⟩:=hR.part (r:=0) (l:=rs.length) (by omega);simp only[uU,qI,Nat.zero_mul,wH]at o1 o2;have hso:=o1.size;have hsn:=h1.size;simp only[uO]at hso hsn;have hr:=run_append_grow (P:=P) w t ty e' ix ei.zero hd hx hx0 ⟨i.b,i.o,none⟩ rs.length i.n olds (by rw[hx1];exact hso) o2 a xs.length cx news' (by rw[hx1];exact hsn) h2 (by omega) (by omega)
      (growslice_fits (by omega) (by rw[hx2];exact hb))
     have hge:=grownCap_ge w (rs.length+xs.length) i.n e';have hcm:=grownCap_le_maxLen w (rs.length+xs.length) i.n e' (by unfold maxLen;omega);refine ⟨_,_,hr,E.set nx ⟨w.heap.size,0,ei.size,grownCap w (rs.length+xs.length) i.n e',false⟩,?_,?_,FreshIn.set (zH _) (by omega)⟩;·rw[zBm (zUO _ _ _) rfl];simp
     ·have hf:=zUc h n;have hrest:(Builtin.zeroCells ei.zero.cells (grownCap w (rs.length+xs.length) i.n e'-(rs.length+xs.length))).size=(grownCap w (rs.length+xs.length) i.n e'-(rs++xs).length)*ei.size:=by
       rw[size_zeroCells,←vA,zAD,(hT _ _ hei).sz,zU]
      have hb:=zEZ (w:=w) (t:=e') hE (by omega) (o1.append h1) (by simpa using hge) hcm hrest;exact (hf.trans (zUY hf.rel hE _ ⟨w.heap.size,0,ei.size,grownCap w (rs.length+xs.length) i.n e',false⟩ _ rfl hb)).drew
 ·cases hs
end
end Go.Sx
end
section
namespace Go.Sx
section
variable {P : Program} {T : Tys} {E : Env} {F : SF} {nx : Nat} {w : World}
theorem zIv(hT:T.Ok P)(h:HRel E F w){t ty:TypeId}{x x':Value}{r:Res}(hs:zEY T F t x=some r)(hx:dv E x=some x'):
  ∃v',(Builtin.len_ #[t] ty #[x']).run P w= .ok v' w∧Gives E F nx w r v' w:=by
 unfold zEY at hs;split at hs
 ·rename_i hti;simp[dv]at hx;subst hx;injection hs with hs;subst hs;obtain ⟨d,hd,hk⟩:=(hT _ _ hti).run_underlying w;obtain rfl:=zBg hk;rename_i s;exact ⟨.int .i64 s.size,by simp[Builtin.len_,hd,goInt],Gives.still h rfl (by simp[zAH,dv])⟩
 ·rename_i a n c hti;injection hs with hs;subst hs;obtain ⟨d,hd,hk⟩:=(hT _ _ hti).run_underlying w;obtain rfl:=zAS hk;have hx':∃a' c',x'= .slice a' n c':=by
   cases a with
   |none=>simp[dv]at hx;exact ⟨_,_,hx.symm⟩
   | some a=>
    simp only[dv,dS]at hx;split at hx;rotate_left;·cases hx
    split at hx
    ·split at hx;·rename_i hn;subst hn;injection hx with hx;exact ⟨_,_,hx.symm⟩
     ·cases hx
    ·injection hx with hx;exact ⟨_,_,hx.symm⟩
  obtain ⟨a',c',rfl⟩:=hx';exact ⟨.int .i64 n,by simp[Builtin.len_,hd,goInt],Gives.still h rfl (by simp[zAH,dv])⟩
 ·rename_i hti;split at hs;rotate_left;·cases hs
  rename_i r _ own es hF;injection hs with hs;subst hs;obtain ⟨d,hd,hk⟩:=(hT _ _ hti).run_underlying w;obtain rfl:=zDm hk;obtain ⟨i,hi,hn,ents,clk,h1,h2⟩:=h.blk _ _ hF;simp only[dv,dM,hi,hn]at hx;simp at hx;subst hx;have hl:∀{l:List MapEntry} {l':List (Value×Value)},MRel E l l'→l.length=l'.length:=by
   intro l;induction l with
   |nil=>intro l' h;cases l'<;>simp_all[MRel]
   |cons a l ih=>intro l' h;cases l' with
    |nil=>simp[MRel]at h
    |cons b l'=>simp[ih h.2.2]
  refine ⟨.int .i64 es.length,?_,Gives.still h rfl (by simp[dv])⟩;have:=hl h2;simp only[vA]at this;simp[Builtin.len_,hd,getObj,Sem.run,h1,goInt,this]
 ·rename_i hti;injection hs with hs;subst hs;obtain ⟨d,hd,hk⟩:=(hT _ _ hti).run_underlying w;obtain rfl:=zBM hk;refine ⟨_,?_,Gives.still h rfl (by simp[zAH,dv];rfl)⟩;simp only[Builtin.len_];simp[hd,goInt]
 ·cases hs
theorem zGk(h:HRel E F w){ty:TypeId}{ts:Array TypeId}{isMax:Bool}{a b a' b':Value}{r:Res}(hs:zFu isMax a b=some r)(ha:dv E a=some a')(hb:dv E b=some b'):
  ∃v',(if isMax then Builtin.max_ ts ty #[a',b'] else Builtin.min_ ts ty #[a',b']).run P w= .ok v' w∧Gives E F nx w r v' w:=by
 unfold zFu at hs;split at hs;rotate_left;·cases hs
 rename_i k x k' y;split at hs;rotate_left;·cases hs
 rename_i hk;subst hk;simp[dv]at ha hb;subst ha;subst hb;injection hs with hs;subst hs;cases isMax
 ·refine ⟨.int k (min x y),?_,Gives.still h rfl (by simp[zAH,dv])⟩;have:(if y<x then y else x)=min x y:=by simp only[Int.min_def];split<;>split<;>omega
  simp[Builtin.min_,Builtin.min2,this]
 ·refine ⟨.int k (max x y),?_,Gives.still h rfl (by simp[zAH,dv])⟩;have:(if x<y then y else x)=max x y:=by simp only[Int.max_def];split<;>split<;>omega
  simp[Builtin.max_,Builtin.max2,this]
theorem zDL{cs:List Value}{acc:ByteArray}(rows:List (List Value))(hl:cs.length=rows.length)(h:∀(j:Nat) (row:List Value) (v:Value),rows[j]?=some row→cs[j]?=some v→∃n:Int,row=[.int .u8 n]∧v= .int .u8 n):
  (forIn cs acc (fun c s=>(match c with| .int .u8 n=>pure (ForInStep.yield (s.push (UInt8.ofNat n.toNat)))|_=>do stuck "bytesToString: byte expected";pure (ForInStep.yield s):Sem (ForInStep ByteArray)))).run P w= .ok ⟨acc.data++(rows.map zGe).toArray⟩ w:=by
 induction cs generalizing rows acc with
 |nil=>
  have:rows=[]:=vI (by simpa using hl.symm);subst this;simp
 | cons v l ih=>
  cases rows with
  |nil=>simp at hl
  |cons row rows=>
   obtain ⟨n,rfl,rfl⟩:=h 0 row v rfl rfl;simp only[List.forIn_cons,zB,zI,zD];rw[ih rows (by simpa using hl) (fun j row v h1 h2=>h (j+1) row v (by simpa using h1) (by simpa using h2))];congr 2;simp[zGe,ByteArray.push]
theorem zGA(h:Array Obj)(o:Obj)(f:Obj→Obj):(h.push o).modify h.size f=h.push (f o):=by
 apply vG;apply List.ext_getElem?;intro j;rw[vZ,vZ,qQ,Array.getElem?_push,Array.getElem?_push];by_cases hj:j=h.size;·subst hj;simp
 ·rw[if_neg (fun e=>hj e.symm),if_neg hj];simp[hj]
theorem zB4(e:TypeId)(s:ByteArray)(w:World)(cap:Nat)(hcap:(Question.appendCap s.size 0 e).cut (w.tape w.drawn (.appendCap s.size 0 e))=cap)(cs:Array Value)
  (hcs:cs=(s.data.map fun b=>.int .u8 b.toNat)++Array.replicate (cap-s.size) (.int .u8 0))(hsz:cs.size=cap):
  (Conv.stringToBytes e s).run P w= .ok (.slice (some ⟨w.heap.size,0,none⟩) s.size cap) (w.alloc (.cells cs e (cap,cap+1))).drew:=by
 have h1:(choose (.appendCap s.size 0 e)).run P w= .ok cap w.drew:=by rw[←hcap];rfl
 have h2:(newRow e cs).run P w.drew= .ok ⟨w.heap.size,0,none⟩ (w.alloc (.cells cs e)).drew:=rfl;have h3:(shape w.heap.size).run P (w.alloc (.cells cs e)).drew= .ok (some (e,cap)) (w.alloc (.cells cs e)).drew:=by
  simp only[shape,Sem.run];congr 1;simp only[World.shape?];rw[show (w.alloc (.cells cs e)).drew.heap=w.heap.push (.cells cs e) from rfl];simp[hsz]
 have h4:(freeze {block:=w.heap.size,off:=cap} 1).run P (w.alloc (.cells cs e)).drew= .ok () (w.alloc (.cells cs e (cap,cap+1))).drew:=by
  simp only[freeze,Sem.run];congr 1;simp only[World.freeze];rw[if_neg (by omega)];show ({(w.alloc (.cells cs e)).drew with heap:=(w.heap.push (.cells cs e)).modify w.heap.size _}:World)=_;rw[zGA];rfl
 simp only[Conv.stringToBytes,zB,h1,zD];rw[←hcs];simp only[h2,zD,markStringish,zB,h3,h4,zI]
theorem zHf(hT:T.Ok P)(h:HRel E F w)(hE:E nx=none){src dst:TypeId}{x x':Value}{r:Res}(hs:zCo T F nx src dst x=some r)(hvc:r.vc)(hx:dv E x=some x'):
  ∃v' w',(convert src dst x').run P w= .ok v' w'∧Gives E F nx w r v' w':=by
 unfold zCo at hs;split at hs;rotate_left;·cases hs
 rename_i si di hsi hdi;obtain ⟨ds,hds,hks⟩:=(hT _ _ hsi).run_underlying w;obtain ⟨dd,hdd,hkd⟩:=(hT _ _ hdi).run_underlying w;split at hs
 ·rename_i k0 k k1 n h1 h2;rw[h1]at hks;rw[h2]at hkd;obtain rfl:=zB1 hks;obtain rfl:=zB1 hkd;simp[dv]at hx;subst hx;split at hs
  ·rename_i hk;subst hk;injection hs with hs;subst hs;refine ⟨.int .i64 n,w,?_,Gives.still h rfl (by simp[zAH,dv])⟩;simp[convert,hds,hdd,Conv.intToInt,wrap_i64 hvc]
  ·injection hs with hs;subst hs;refine ⟨.int k (k.wrap n),w,?_,Gives.still h rfl (by simp[zAH,dv])⟩;simp[convert,hds,hdd,Conv.intToInt]
 ·rename_i s h1 h2;rw[h1]at hks;rw[h2]at hkd;obtain rfl:=zBg hks;obtain rfl:=zBg hkd;simp[dv]at hx;subst hx;injection hs with hs;subst hs;refine ⟨.string s,w,?_,Gives.still h rfl (by simp[zAH,dv])⟩;simp[convert,hds,hdd]
 ·rename_i e n row c l cap h1 h2;rw[h1]at hks;rw[h2]at hkd;obtain rfl:=zAS hks;obtain rfl:=zBg hkd;split at hs;rotate_left;·cases hs
  rename_i _ _ _ _ e0 wd own ex rs hei hF;split at hs;rotate_left;·cases hs
  rename_i hcw;simp only[zC,beq_iff_eq]at hcw;obtain ⟨rfl,rfl⟩:=hcw;injection hs with hs;subst hs;obtain ⟨v1,v2⟩:=hvc;obtain ⟨de,hde,hke⟩:=(hT _ _ hei).run_underlying w;obtain rfl:=zB1 hke;have hrun:∀y:Value,(∀s,y≠ .string s)→(∀k n,y≠ .int k n)→(convert src dst y).run P w=(Conv.bytesToString y).run P w:=by
   intro y hy hy2;cases y<;>simp_all[convert]
  obtain ⟨i,hi,hor⟩:=zEz hx;rcases hor with ⟨hn,rfl,rfl⟩|⟨hn,rfl⟩
  ·refine ⟨.string .empty,w,?_,Gives.still h rfl ?_⟩;·rw[hrun _ (by simp) (by simp)];rfl
   ·simp[dv,bytesOf];rfl
  ·have hR:=zAJ h hF hi hn;obtain ⟨news,a1,a2,a3⟩:=hR.part v1;have hsz:=a1.size;have hlen:((rs.drop row).take l).length=l:=by simp;omega
   simp only[uO,wG,hlen]at hsz;refine ⟨.string (bytesOf ((rs.drop row).take l)),w,?_,Gives.still h rfl (by simp[dv])⟩;rw[hrun _ (by simp) (by simp)];have hload:(loadCells ⟨i.b,i.o+(row*i.wd+0),none⟩ l).run P w= .ok news.toArray w:=by
    rw[←hsz,hR.wd_eq];exact run_loadCells_list w _ news a2
   have hloop:=zDL (P:=P) (w:=w) (cs:=news) (acc:=.empty) ((rs.drop row).take l) (by omega) (fun j rw_ v q1 q2=>by
    obtain ⟨n,hn⟩:=v2 rw_ (zO q1);subst hn;obtain ⟨v',b1,_,b3⟩:=a1.cell j _ 0 (.int .u8 n) q1 rfl;simp[dv]at b1;subst b1;simp only[wG,wH,wR]at b3;rw[q2]at b3;exact ⟨n,rfl,by injection b3⟩)
   simp only[Conv.bytesToString,zB,hload,zD];rw[←Array.forIn_toList];refine (congrArg (fun q:Result ByteArray=>q.andThen fun a w'=>Sem.run P (pure (Value.string a)) w') (hloop:_)).trans ?_;simp[bytesOf]
 ·rename_i e s h1 h2;rw[h1]at hks;rw[h2]at hkd;obtain rfl:=zBg hks;obtain rfl:=zAS hkd;simp[dv]at hx;subst hx;split at hs;rotate_left;·cases hs
  rename_i _ _ _ hei;injection hs with hs;subst hs;obtain ⟨de,hde,hke⟩:=(hT _ _ hei).run_underlying w;obtain rfl:=zB1 hke;have hcut:∀t,(Question.appendCap s.size 0 e).cut t=s.size+t%(2^63-s.size):=fun t=>rfl
  generalize hcap:s.size+(w.tape w.drawn (.appendCap s.size 0 e))%(2^63-s.size)=cap;have hge:s.size≤cap:=by omega
  have hle:cap≤maxLen:=by
   have:=vE (w.tape w.drawn (.appendCap s.size 0 e)) (show 0<2^63-s.size by omega);unfold maxLen;omega
  let cs:Array Value:=s.data.map fun b=>.int .u8 b.toNat
  let o:Obj:=.cells (cs++Array.replicate (cap-s.size) (.int .u8 0)) e (cap,cap+1)
  have hcs:cs.size=s.size:=by simp[cs]
  have hA:RowsA E 1 (s.data.toList.map zCw) cs:=by
   refine ⟨by intro r hr;simp[zCw]at hr;obtain ⟨b,_,rfl⟩:=hr;rfl,by simp[cs],?_⟩;intro r row c v hr hc;rw[wE]at hr;cases hb:s.data.toList[r]? with
   |none=>rw[hb]at hr;cases hr
   |some b=>
    rw[hb]at hr;simp only[wJ,zZ]at hr;subst hr;have hc0:c=0:=by have:=zAB hc;simp[zCw]at this;exact this
    subst hc0;simp[zCw]at hc;subst hc;refine ⟨.int .u8 b.toNat,by simp[dv],rfl,?_⟩;rw[vZ]at hb;simp[cs,hb]
  have hb:BRel (E.set nx ⟨w.heap.size,0,1,cap,false⟩) (w.alloc o) nx (.rows e 1 true false (s.data.toList.map zCw)):=by
   have hle':=zUV (i:=⟨w.heap.size,0,1,cap,false⟩) hE;have hsl:s.data.toList.length=s.size:=rfl;refine ⟨_,zUO _ _ _,.inr ⟨rfl,rfl,by omega,hA.len,by simp;exact hge,(fun hh=>by cases hh),hle,cs++Array.replicate (cap-s.size) (.int .u8 0),(cap,cap+1),?_,?_,?_,?_⟩⟩
   ·show (w.heap.push _)[w.heap.size]?=_;simp[o]
   ·simp[hcs];omega
   ·intro _ j _ hj;simp at hj ⊢;omega
   ·intro r row c v hr hc;obtain ⟨v',a1,a2,a3⟩:=hA.cell r row c v hr hc;refine ⟨v',zCV hle' _ _ a1,a2,?_⟩;have hlt:r*1+c<cs.size:=by
     rcases wT (r*1+c) cs.size with q|q;·exact q
     ·rw[qJ q]at a3;cases a3
    simp only[zP];rw[uR hlt];exact a3
  refine ⟨.slice (some ⟨w.heap.size,0,none⟩) s.size cap,(w.alloc o).drew,?_,E.set nx ⟨w.heap.size,0,1,cap,false⟩,?_,(zUY h hE o _ _ rfl hb).drew,FreshIn.set (zH _) (by omega)⟩
  ·have hr:=zB4 (P:=P) e s w cap (by rw[hcut,hcap]) _ rfl (by simp;have:s.data.size=s.size:=rfl;omega);simp only[convert,zB,hds,hdd,hde,zD,hr];rfl
  ·rw[zBm (zUO _ _ _) rfl];simp
 ·cases hs
end
end Go.Sx
end
section
namespace Go.Tx
open Go.Sx (TK tk zBe cellsOf zAD zCh zBI zAB zAO zCn zFU wrap_i64 zCJ zAS zBM zBg zB1 zDm zEy addr_add zAE zA1)
def zFs(wr:Bool)(op:BinOp)(k:IntKind)(a b:Int):Option (Prop×PV):=
 match op with
 | .add=>if k= .i64&& !wr then some (zCn (a+b),.int k (a+b)) else some (True,.int k (k.wrap (a+b)))
 | .sub=>if k= .i64&& !wr then some (zCn (a-b),.int k (a-b)) else some (True,.int k (k.wrap (a-b)))
 | .mul=>if k= .i64&& !wr then some (zCn (a*b),.int k (a*b)) else some (True,.int k (k.wrap (a*b)))
 | .quo=>if k= .i64&& !wr then some (b≠0∧zCn (a.tdiv b),.int k (a.tdiv b)) else some (b≠0,.int k (k.wrap (a.tdiv b)))
 | .rem=>some (b≠0,.int k (a.tmod b))
 | .and=>some (True,.int k (zFU .and k a b))
 | .or=>some (True,.int k (zFU .or k a b))
 | .xor=>some (True,.int k (zFU .xor k a b))
 | .andNot=>some (True,.int k (zFU .andNot k a b))
 | .eql=>some (True,.bool (a==b))
 | .neq=>some (True,.bool (a !=b))
 | .lss=>some (True,.bool (decide (a<b)))
 | .leq=>some (True,.bool (decide (a≤b)))
 | .gtr=>some (True,.bool (decide (b<a)))
 | .geq=>some (True,.bool (decide (b≤a)))
 |_=>none
def zHg(T:Tys)(u:TypeId):PV→PV→Option Bool
 | .int k a,.int k' b=>match T.get u with|some {k:=.int _,..}=>if k=k' then some (a==b) else none|_=>none
 | .bool a,.bool b=>match T.get u with|some {k:=.bool,..}=>some (a==b)|_=>none
 | .str a,.str b=>match T.get u with|some {k:=.str,..}=>some (a==b)|_=>none
 |_,_=>none
def zQ7(T:Tys):List (Nat×TypeId)→List PV→List PV→Option Bool
 | [],_,_=>some true
 |(o,u)::fs,l,l'=>match l[o]?,l'[o]? with
  |some a,some b=>(zHg T u a b).bind fun x=>(zQ7 T fs l l').map fun y=>x&&y
  |_,_=>none
def zJi(T:Tys):List (Nat×TypeId)→List PV→List PV→Option Bool
 | [],_,_=>some true
 | (o,u)::fs,l,l'=>
  match T.get u with
  |some {k:=.struct gs,eq:=true,size:=sz,..}=>(zQ7 T gs ((l.drop o).take sz) ((l'.drop o).take sz)).bind fun x=>(zJi T fs l l').map fun y=>x&&y
  |_=>match l[o]?,l'[o]? with
   |some a,some b=>(zHg T u a b).bind fun x=>(zJi T fs l l').map fun y=>x&&y
   |_,_=>none
def zQ8(T:Tys)(e:TypeId):List PV→List PV→Option Bool
 | [],[]=>some true
 |a::l,b::l'=>(zHg T e a b).bind fun x=>(zQ8 T e l l').map fun y=>x&&y
 |_,_=>none
def zRG(T:Tys)(t:TypeId)(l l':List PV):Option Bool:=
 match T.get t with
 |some {k:=.struct fs,eq:=true,..}=>zJi T fs l l'
 |some {k:=.array n e,..}=>match T.get e with|some {k:=.int _,size:=sz,..}=>if l.length=n∧sz=1 then zQ8 T e l l' else none|_=>none
 |_=>none
def zGc(T:Tys)(wr:Bool)(op:BinOp)(t:TypeId)(a b:PV):Option (Prop×PV):=
 match op,a,b with
 | .shl,.int k a,.int _ b=>some (0≤b,.int k (k.wrap (a*2^(min b.toNat k.bits))))
 | .shr,.int k a,.int _ b=>some (0≤b,.int k (a.fdiv (2^(min b.toNat k.bits))))
 |op,.int k a,.int k' b=>if k=k' then zFs wr op k a b else none
 | .add,.str a,.str b=>some (a.length+b.length≤9223372036854775807,.str (a++b))
 | .eql,.str a,.str b=>some (True,.bool (a==b))
 | .neq,.str a,.str b=>some (True,.bool (!(a==b)))
 | .eql,.bool a,.bool b=>match T.get t with|some {k:=.bool,..}=>some (True,.bool (a==b))|_=>none
 | .neq,.bool a,.bool b=>match T.get t with|some {k:=.bool,..}=>some (True,.bool (!(a==b)))|_=>none
 | .eql,.ifc _ _,.nilI=>match T.get t with|some {k:=.iface,..}=>some (True,.bool false)|_=>none
 | .neq,.ifc _ _,.nilI=>match T.get t with|some {k:=.iface,..}=>some (True,.bool true)|_=>none
 | .eql,.ptr _ _ _,.nilP=>match T.get t with|some {k:=.ptr _,..}=>some (True,.bool false)|_=>none
 | .neq,.ptr _ _ _,.nilP=>match T.get t with|some {k:=.ptr _,..}=>some (True,.bool true)|_=>none
 | .eql,.nilP,.nilP=>match T.get t with|some {k:=.ptr _,..}=>some (True,.bool true)|_=>none
 | .neq,.nilP,.nilP=>match T.get t with|some {k:=.ptr _,..}=>some (True,.bool false)|_=>none
 | .eql,.ptr n r c,.ptr n' r' c'=>match T.get t with|some {k:=.ptr e,..}=>(match T.get e with|some _=>if n=n'∧r=r'∧c=c' then some (True,.bool true) else none|none=>none)|_=>none
 | .neq,.ptr n r c,.ptr n' r' c'=>match T.get t with|some {k:=.ptr e,..}=>(match T.get e with|some _=>if n=n'∧r=r'∧c=c' then some (True,.bool false) else none|none=>none)|_=>none
 | .eql,.agg l,.agg l'=>(zRG T t l l').map fun b=>(True,.bool b)
 | .neq,.agg l,.agg l'=>(zRG T t l l').map fun b=>(True,.bool (!b))
 |_,_,_=>none
section
variable {P : Program} {T : Tys} {E : Env} {F : SF} {nx : Nm} {w : World} {Z : Nat → Prop}
theorem zBJ{t e:TypeId}(hp:P.underlying t=some (.pointer e))(p:Option Addr):(binOp .eql t (.pointer p) (.pointer none)).run P w= .ok (.bool p.isNone) w∧(binOp .neq t (.pointer p) (.pointer none)).run P w= .ok (.bool (!p.isNone)) w:=by
 have h:∀d:Nat,(Op.equalIn (d+1) t (.pointer p) (.pointer none)).run P w= .ok p.isNone w:=fun d=>by
  cases p<;>simp[Op.equalIn,run_underlying hp]
 constructor<;>simp only[binOp]<;>simp[Op.equal,Op.maxDepth,h 9999]
theorem zBt{t e:TypeId}{j:TypeInfo}(hp:P.underlying t=some (.pointer e))(hj:P.info? e=some j)(a:Addr):(binOp .eql t (.pointer (some a)) (.pointer (some a))).run P w= .ok (.bool true) w∧(binOp .neq t (.pointer (some a)) (.pointer (some a))).run P w= .ok (.bool false) w:=by
 have h:∀d:Nat,(Op.equalIn (d+1) t (.pointer (some a)) (.pointer (some a))).run P w= .ok true w:=fun d=>by
  simp[Op.equalIn,run_underlying hp,sizeOf,typeInfo,hj,sameAddr]
 constructor<;>simp only[binOp]<;>simp[Op.equal,Op.maxDepth,h 9999]
theorem zGd{wr:Bool}{op:BinOp}{k:IntKind}{a b:Int}{p:Prop}{v:PV}{t:TypeId}(h:zFs wr op k a b=some (p,v))(hp:p):
    ∃v',(binOp op t (.int k a) (.int k b)).run P w= .ok v' w∧VR w Z E v v':=by
  cases op<;>simp only[zFs]at h<;>first
    |(cases h;done)
    |(injection h with h;injection h with h1 h2;subst h1;subst h2;refine ⟨_,?_,by simp only[VR];rfl⟩;simp[binOp,Op.intCmp];done)
    |(injection h with h;injection h with h1 h2;subst h1;subst h2;refine ⟨_,?_,by simp only[VR];rfl⟩;simp[binOp,Op.intBits,zFU];done)
    |(injection h with h;injection h with h1 h2;subst h1;subst h2;refine ⟨_,?_,by simp only[VR];rfl⟩;simp[binOp,Op.intDiv,hp];done)
    | (split at h
       · rename_i hk;simp only[zC,decide_eq_true_eq]at hk;obtain ⟨rfl,_⟩:=hk;injection h with h;injection h with h1 h2;subst h1;subst h2
         refine ⟨_,?_,by simp only[VR];rfl⟩;simp[binOp,Op.intArith,wrap_i64 hp]
         done
       · injection h with h;injection h with h1 h2;subst h1;subst h2
         refine ⟨_,?_,by simp only[VR];rfl⟩;simp[binOp,Op.intArith]
         done)
    | (split at h
       · rename_i hk;simp only[zC,decide_eq_true_eq]at hk;obtain ⟨rfl,_⟩:=hk;injection h with h;injection h with h1 h2;subst h1;subst h2
         refine ⟨_,?_,by simp only[VR];rfl⟩;simp[binOp,Op.intDiv,hp.1,wrap_i64 hp.2]
         done
       · injection h with h;injection h with h1 h2;subst h1;subst h2
         refine ⟨_,?_,by simp only[VR];rfl⟩;simp[binOp,Op.intDiv,hp]
         done)
theorem zCK(l:List UInt8):(⟨l.toArray⟩:ByteArray).size=l.length:=by simp[ByteArray.size]
theorem zJj(a b:List UInt8):(⟨a.toArray⟩:ByteArray)++⟨b.toArray⟩=⟨(a++b).toArray⟩:=by
 apply ByteArray.ext;rw[ByteArray.data_append];simp
theorem zDM(a:List UInt8):(⟨a.toArray⟩:ByteArray).toList=a:=by
 rw[ByteArray.toList_eq]
theorem zFx(l:List UInt8)(a b:Nat):(⟨l.toArray⟩:ByteArray).extract a b=⟨((l.drop a).take (b-a)).toArray⟩:=by
 apply ByteArray.ext;rw[ByteArray.data_extract];simp[qY]
theorem zN6(a b:List UInt8):(a==b)=((⟨a.toArray⟩:ByteArray).toList==(⟨b.toArray⟩:ByteArray).toList):=by rw[zDM,zDM]
theorem zFW(hT:T.Ok P){u:TypeId}{a b:PV}{a' b':Value}{r:Bool}(h:zHg T u a b=some r)(ha:VR w Z E a a')(hb:VR w Z E b b')(d:Nat):
  P.plainKey u=true∧(Op.equalIn (d+1) u a' b').run P w= .ok r w:=by
 unfold zHg at h;split at h
 ·simp only[VR]at ha hb;subst ha;subst hb;split at h;rotate_left;·cases h
  rename_i hti;split at h;rotate_left;·cases h
  rename_i hk;subst hk;injection h with h;subst h;obtain ⟨z,ht⟩:=hT _ _ hti;obtain ⟨de,hd,hk⟩:=ht.sx.desc;obtain ⟨kk,rfl⟩:∃kk,de= .int kk:=by cases de<;>simp[tk]at hk ⊢
  exact ⟨by simp[Program.plainKey,hd],run_equalIn_int w d u _ kk _ _ hd⟩
 ·simp only[VR]at ha hb;subst ha;subst hb;split at h;rotate_left;·cases h
  rename_i hti;injection h with h;subst h;obtain ⟨z,ht⟩:=hT _ _ hti;obtain ⟨de,hd,hk⟩:=ht.sx.desc;obtain rfl:de= .bool:=by cases de<;>simp[tk]at hk ⊢
  exact ⟨by simp[Program.plainKey,hd],run_equalIn_bool' w d u _ _ hd⟩
 ·simp only[VR]at ha hb;subst ha;subst hb;split at h;rotate_left;·cases h
  rename_i hti;injection h with h;subst h;obtain ⟨z,ht⟩:=hT _ _ hti;obtain ⟨de,hd,hk⟩:=ht.sx.desc;obtain rfl:de= .string:=by cases de<;>simp[tk]at hk ⊢
  refine ⟨by simp[Program.plainKey,hd],?_⟩;unfold zF8;rw[zN6];exact run_equalIn_string w d u _ _ hd
 ·cases h
theorem zKY(hT:T.Ok P)(d:Nat){l l':List PV}{l1 l2:List Value}(ha:VRl w Z E l l1)(hb:VRl w Z E l' l2):∀(fs:List Field) (r:Bool),fs.all (fun f=>f.name != "_")=true→zQ7 T (fs.map fun f=>(f.offset,f.type)) l l'=some r→
  (Op.eqFields (d+1) l1.toArray l2.toArray fs).run P w= .ok r w
 | [],r,_,h=>by simp only[wM,zQ7,zZ]at h;subst h;simp[Op.eqFields]
 |f::fs,r,hn,h=>by
  simp only[List.all_cons,zC,bne_iff_ne,ne_eq]at hn;simp only[zL,zQ7]at h;split at h;rotate_left;·cases h
  rename_i a b hxa hxb;simp only[zM,zV]at h;obtain ⟨x,hx,y,hy,rfl⟩:=h;obtain ⟨va,ga,ra⟩:=(VRl.get ha).2 _ _ hxa;obtain ⟨vb,gb,rb⟩:=(VRl.get hb).2 _ _ hxb;obtain ⟨hp,hr⟩:=zFW (P:=P) (w:=w) hT hx ra rb d;have ih:=zKY hT d ha hb fs y hn.2 hy;rw[Op.eqFields,if_pos hn.1];simp only[zB,run_part_plain w hp (show l1.toArray[f.offset]?=some va by simpa using ga),run_part_plain w hp (show l2.toArray[f.offset]?=some vb by simpa using gb),zD,hr];cases x with
  |true=>simpa using ih
  |false=>simp
theorem zKZ(hT:T.Ok P)(d:Nat){e:TypeId}{l1 l2:List Value}:∀(l l':List PV) (k:Nat) (r:Bool),zQ8 T e l l'=some r→(∀j x,l[j]?=some x→∃v,l1[k+j]?=some v∧VR w Z E x v)→(∀j x,l'[j]?=some x→∃v,l2[k+j]?=some v∧VR w Z E x v)→
  (Op.eqItems (d+1) e 1 l1.toArray l2.toArray (List.range' k l.length)).run P w= .ok r w
 | [],[],k,r,h,_,_=>by simp only[zQ8,zZ]at h;subst h;simp[Op.eqItems]
 |a::l,b::l',k,r,h,h1,h2=>by
  simp only[zQ8,zM,zV]at h;obtain ⟨x,hx,y,hy,rfl⟩:=h;obtain ⟨va,ga,ra⟩:=h1 0 a rfl;obtain ⟨vb,gb,rb⟩:=h2 0 b rfl;rw[wH]at ga gb;obtain ⟨hp,hr⟩:=zFW (P:=P) (w:=w) hT hx ra rb d;have ih:=zKZ hT d l l' (k+1) y hy (fun j x hj=>by rw[show k+1+j=k+(j+1) by omega];exact h1 (j+1) x hj) (fun j x hj=>by rw[show k+1+j=k+(j+1) by omega];exact h2 (j+1) x hj);rw[vC,List.range'_succ,Op.eqItems];simp only[zB,wG,run_part_plain w hp (show l1.toArray[k]?=some va by simpa using ga),run_part_plain w hp (show l2.toArray[k]?=some vb by simpa using gb),zD,hr];cases x with
  |true=>simpa using ih
  |false=>simp
 | [],_::_,_,_,h,_,_=>by cases h
 |_::_,[],_,_,h,_,_=>by cases h
theorem VRl.dropTake{o sz:Nat}{l:List PV}{l1:List Value}(h:VRl w Z E l l1):VRl w Z E ((l.drop o).take sz) ((l1.drop o).take sz):=by
 obtain ⟨hlen,hget⟩:=VRl.get h;have key:∀(a:List PV) (b:List Value),a.length=b.length→(∀(j:Nat) (x:PV),a[j]?=some x→∃v,b[j]?=some v∧VR w Z E x v)→VRl w Z E a b:=by
  intro a;induction a with
  |nil=>intro b hb _;cases b with|nil=>simp[VRl]|cons _ _=>simp at hb
  | cons x a ih=>
   intro b hb hg;cases b with
   |nil=>simp at hb
   |cons v b=>
    obtain ⟨v',q1,q2⟩:=hg 0 x rfl;simp at q1;subst q1;simp only[VRl];exact ⟨v,b,rfl,q2,ih b (by simpa using hb) fun j y hj=>by simpa using hg (j+1) y (by simpa using hj)⟩
 refine key _ _ (by simp[hlen]) fun j x hj=>?_
 rw[uB]at hj ⊢;split at hj
 ·rename_i hlt;rw[vX]at hj;obtain ⟨v,q1,q2⟩:=hget _ _ hj;exact ⟨v,by rw[if_pos hlt,vX];exact q1,q2⟩
 ·cases hj
theorem zFy{u:TypeId}{ti:TI}{z:Value}(ht:TOk P u ti z)(ha:zBe ti.k=true)(l1:List Value)(o:Nat):(part u l1.toArray o).run P w= .ok (.agg ((l1.drop o).take ti.size).toArray) w:=by
 unfold part;simp only[zB,ht.run_isAgg w,ha,zD,if_true,ht.run_sizeOf w,zI];congr 2;apply vG;simp[qY]
theorem zGl(hT:T.Ok P)(d:Nat){l l':List PV}{l1 l2:List Value}(ha:VRl w Z E l l1)(hb:VRl w Z E l' l2):∀(fs:List Field) (r:Bool),fs.all (fun f=>f.name != "_")=true→zJi T (fs.map fun f=>(f.offset,f.type)) l l'=some r→
  (Op.eqFields (d+2) l1.toArray l2.toArray fs).run P w= .ok r w
 | [],r,_,h=>by simp only[wM,zJi,zZ]at h;subst h;simp[Op.eqFields]
 | f::fs,r,hn,h=>by
  simp only[List.all_cons,zC,bne_iff_ne,ne_eq]at hn;simp only[zL,zJi]at h;split at h
  ·rename_i gs sz _ _ hti;simp only[zM,zV]at h;obtain ⟨x,hx,y,hy,rfl⟩:=h;have ih:=zGl hT d ha hb fs y hn.2 hy;obtain ⟨z,ht⟩:=hT _ _ hti;obtain ⟨e1,e2,e3⟩:=ht.sx.eqok rfl;obtain ⟨de,hd,hk⟩:=ht.sx.desc;obtain ⟨fa,rfl⟩:∃fa,de= .struct fa:=by cases de<;>simp[tk]at hk ⊢
   rw[hd]at e3;simp only[tk,TK.struct.injEq]at hk;have hf:P.fieldsOf f.type=fa:=by unfold Program.fieldsOf;rw[hd]
   have p1:=zFy (w:=w) ht rfl l1 f.offset;have p2:=zFy (w:=w) ht rfl l2 f.offset;simp only at p1 p2;have hr:(Op.equalIn (d+2) f.type (.agg ((l1.drop f.offset).take sz).toArray) (.agg ((l2.drop f.offset).take sz).toArray)).run P w= .ok x w:=by
    rw[run_equalIn_struct w (d+1) f.type _ _ (by rw[hf];exact hd) e1,hf];exact zKY hT d ha.dropTake hb.dropTake fa.toList x e3 (by rw[hk];exact hx)
   rw[Op.eqFields,if_pos hn.1];simp only[zB,p1,p2,zD,hr];cases x with
   |true=>simpa using ih
   |false=>simp
  ·split at h;rotate_left;·cases h
   rename_i a b hxa hxb;simp only[zM,zV]at h;obtain ⟨x,hx,y,hy,rfl⟩:=h;obtain ⟨va,ga,ra⟩:=(VRl.get ha).2 _ _ hxa;obtain ⟨vb,gb,rb⟩:=(VRl.get hb).2 _ _ hxb;obtain ⟨hp,hr⟩:=zFW (P:=P) (w:=w) hT hx ra rb (d+1);have ih:=zGl hT d ha hb fs y hn.2 hy;rw[Op.eqFields,if_pos hn.1];simp only[zB,run_part_plain w hp (show l1.toArray[f.offset]?=some va by simpa using ga),run_part_plain w hp (show l2.toArray[f.offset]?=some vb by simpa using gb),zD,hr];cases x with
   |true=>simpa using ih
   |false=>simp
theorem zKa(hT:T.Ok P){t:TypeId}{l l':List PV}{l1 l2:List Value}{r:Bool}(ha:VRl w Z E l l1)(hb:VRl w Z E l' l2)(h:zRG T t l l'=some r):
  P.eqGuardType P.depth t=false∧(Op.equalIn 10000 t (.agg l1.toArray) (.agg l2.toArray)).run P w= .ok r w:=by
 unfold zRG at h;split at h;rotate_left
 ·rename_i n e _ _ _ _ _ hti;split at h;rotate_left;·cases h
  rename_i kk _ sz _ _ _ hei;split at h;rotate_left;·cases h
  rename_i hc;obtain ⟨hln,rfl⟩:=hc;obtain ⟨z,ht⟩:=hT _ _ hti;obtain ⟨de,hd,hk⟩:=ht.sx.desc;obtain ⟨n',e',rfl⟩:∃n' e',de= .array n' e':=by cases de<;>simp[tk]at hk ⊢
  simp only[tk,TK.array.injEq]at hk;obtain ⟨rfl,rfl⟩:=hk;obtain ⟨ze,hte⟩:=hT _ _ hei;obtain ⟨de,hde,hk2⟩:=hte.sx.desc;obtain ⟨kq,rfl⟩:∃kk,de= .int kk:=by cases de<;>simp[tk]at hk2 ⊢
  obtain ⟨je,hje,_,hje2,_⟩:=hte.sx.info;have hce:P.cellsOf e'=1:=by simp[Program.cellsOf,hje,hje2]
  refine ⟨?_,?_⟩
  ·unfold Program.depth;simp[Program.eqGuardType,hd,hde]
  ·rw[run_equalIn_array w 9999 _ _ hd hje,hce,List.range_eq_range',←hln];exact zKZ hT 9998 l l' 0 r h (fun j x hj=>by rw[zP];exact (VRl.get ha).2 j x hj) (fun j x hj=>by rw[zP];exact (VRl.get hb).2 j x hj)
 ·cases h
 rename_i fs hti;obtain ⟨z,ht⟩:=hT _ _ hti;obtain ⟨e1,e2,e3⟩:=ht.sx.eqok rfl;obtain ⟨de,hd,hk⟩:=ht.sx.desc;obtain ⟨fa,rfl⟩:∃fa,de= .struct fa:=by cases de<;>simp[tk]at hk ⊢
 rw[hd]at e3;simp only[tk,TK.struct.injEq]at hk;refine ⟨e2,?_⟩;have hf:P.fieldsOf t=fa:=by unfold Program.fieldsOf;rw[hd]
 rw[run_equalIn_struct w 9999 t _ _ (by rw[hf];exact hd) e1,hf];exact zGl hT 9997 ha hb fa.toList r e3 (by rw[hk];exact h)
theorem zIu{wr:Bool}(hT:T.Ok P){op:BinOp}{t:TypeId}{a b:PV}{a' b':Value}{p:Prop}{v:PV}(x y:Operand)(h:zGc T wr op t a b=some (p,v))(hp:p)
  (ha:VR w Z E a a')(hb:VR w Z E b b'):∃v',(do eqGuard op t x y a' b';binOp op t a' b':Sem Value).run P w= .ok v' w∧VR w Z E v v':=by
 unfold zGc at h;split at h
 ·simp only[VR]at ha hb;subst ha;subst hb;injection h with h;injection h with h1 h2;subst h1;subst h2;refine ⟨_,?_,by simp only[VR];rfl⟩;rw[zB,zAE _ _ _ _ _ _ _ _ rfl];simp[binOp,Op.shift,show ¬_<(0:Int) from Int.not_lt.2 hp]
 ·simp only[VR]at ha hb;subst ha;subst hb;injection h with h;injection h with h1 h2;subst h1;subst h2;refine ⟨_,?_,by simp only[VR];rfl⟩;rw[zB,zAE _ _ _ _ _ _ _ _ rfl];simp[binOp,Op.shift,show ¬_<(0:Int) from Int.not_lt.2 hp]
 ·simp only[VR]at ha hb;subst ha;subst hb;split at h
  ·rename_i hk;subst hk;obtain ⟨v',r1,r2⟩:=zGd (P:=P) (w:=w) (t:=t) (Z:=Z) (E:=E) h hp;refine ⟨v',?_,r2⟩;rw[zB,zAE _ _ _ _ _ _ _ _ rfl];exact r1
  ·cases h
 ·simp only[VR]at ha hb;subst ha;subst hb;injection h with h;injection h with h1 h2;subst h1;subst h2;refine ⟨_,?_,by simp only[VR];rfl⟩;rw[zB];unfold zF8;rw[zAE _ _ _ _ _ _ _ _ rfl];rename_i sa sb;have hle:¬(((⟨sa.toArray⟩:ByteArray).size+(⟨sb.toArray⟩:ByteArray).size:Nat):Int)>IntKind.i64.max:=by
   have:IntKind.i64.max=9223372036854775807:=by decide
   rw[this,zCK,zCK];omega
  simp only[binOp,Op.stringOp,zD];rw[if_neg hle,zJj];rfl
 ·simp only[VR]at ha hb;subst ha;subst hb;injection h with h;injection h with h1 h2;subst h1;subst h2;refine ⟨_,?_,by simp only[VR];rfl⟩;rw[zB];unfold zF8;rw[zAE _ _ _ _ _ _ _ _ rfl];simp[binOp,Op.stringOp,zDM]
 ·simp only[VR]at ha hb;subst ha;subst hb;injection h with h;injection h with h1 h2;subst h1;subst h2;refine ⟨_,?_,by simp only[VR];rfl⟩;rw[zB];unfold zF8;rw[zAE _ _ _ _ _ _ _ _ rfl];simp[binOp,Op.stringOp,zDM,bne]
 ·simp only[VR]at ha hb;subst ha;subst hb;split at h;rotate_left;·cases h
  rename_i hti;injection h with h;injection h with h1 h2;subst h1;subst h2;refine ⟨_,?_,by simp only[VR];rfl⟩;obtain ⟨z,ht⟩:=hT _ _ hti;obtain ⟨d,hd,hk⟩:=ht.run_underlying w;have hd':d= .bool:=by cases d<;>simp[tk]at hk<;>rfl
  subst hd';rw[zB,zAE _ _ _ _ _ _ _ _ rfl];simp[binOp,Sx.run_equal_bool _ _ hd]
 ·simp only[VR]at ha hb;subst ha;subst hb;split at h;rotate_left;·cases h
  rename_i hti;injection h with h;injection h with h1 h2;subst h1;subst h2;refine ⟨_,?_,by simp only[VR];rfl⟩;obtain ⟨z,ht⟩:=hT _ _ hti;obtain ⟨d,hd,hk⟩:=ht.run_underlying w;have hd':d= .bool:=by cases d<;>simp[tk]at hk<;>rfl
  subst hd';rw[zB,zAE _ _ _ _ _ _ _ _ rfl];simp[binOp,Sx.run_equal_bool _ _ hd]
 ·simp only[VR]at ha hb;subst hb;obtain ⟨u,rfl,_⟩:=ha;split at h;rotate_left;·cases h
  rename_i hti;injection h with h;injection h with h1 h2;subst h1;subst h2;refine ⟨_,?_,by simp only[VR];rfl⟩;obtain ⟨z,ht⟩:=hT _ _ hti;obtain ⟨d,hd,hk⟩:=ht.run_underlying w;have hd':∃ms,d= .interface ms:=by cases d<;>simp[tk]at hk<;>exact ⟨_,rfl⟩
  obtain ⟨ms,rfl⟩:=hd';rw[zB,zAE _ _ _ _ _ _ _ _ rfl];simp[binOp,zA1 hd]
 ·simp only[VR]at ha hb;subst hb;obtain ⟨u,rfl,_⟩:=ha;split at h;rotate_left;·cases h
  rename_i hti;injection h with h;injection h with h1 h2;subst h1;subst h2;refine ⟨_,?_,by simp only[VR];rfl⟩;obtain ⟨z,ht⟩:=hT _ _ hti;obtain ⟨d,hd,hk⟩:=ht.run_underlying w;have hd':∃ms,d= .interface ms:=by cases d<;>simp[tk]at hk<;>exact ⟨_,rfl⟩
  obtain ⟨ms,rfl⟩:=hd';rw[zB,zAE _ _ _ _ _ _ _ _ rfl];simp[binOp,zA1 hd]
 ·simp only[VR]at ha hb;subst hb;obtain ⟨i,_,_,rfl⟩:=ha;split at h;rotate_left;·cases h
  rename_i hti;injection h with h;injection h with h1 h2;subst h1;subst h2;obtain ⟨z,ht⟩:=hT _ _ hti;obtain ⟨d,hd,hk⟩:=ht.sx.desc;obtain ⟨e,rfl⟩:∃e,d= .pointer e:=by cases d<;>simp[tk]at hk ⊢
  have q1:=fun a=>(zBJ (P:=P) (w:=w) hd a).1
  have q2:=fun a=>(zBJ (P:=P) (w:=w) hd a).2
  refine ⟨_,?_,by simp only[VR];rfl⟩;rw[zB,zAE _ _ _ _ _ _ _ _ rfl];simp[q1]
 ·simp only[VR]at ha hb;subst hb;obtain ⟨i,_,_,rfl⟩:=ha;split at h;rotate_left;·cases h
  rename_i hti;injection h with h;injection h with h1 h2;subst h1;subst h2;obtain ⟨z,ht⟩:=hT _ _ hti;obtain ⟨d,hd,hk⟩:=ht.sx.desc;obtain ⟨e,rfl⟩:∃e,d= .pointer e:=by cases d<;>simp[tk]at hk ⊢
  have q1:=fun a=>(zBJ (P:=P) (w:=w) hd a).1
  have q2:=fun a=>(zBJ (P:=P) (w:=w) hd a).2
  refine ⟨_,?_,by simp only[VR];rfl⟩;rw[zB,zAE _ _ _ _ _ _ _ _ rfl];simp[q2]
 ·simp only[VR]at ha hb;subst hb;subst ha;split at h;rotate_left;·cases h
  rename_i hti;injection h with h;injection h with h1 h2;subst h1;subst h2;obtain ⟨z,ht⟩:=hT _ _ hti;obtain ⟨d,hd,hk⟩:=ht.sx.desc;obtain ⟨e,rfl⟩:∃e,d= .pointer e:=by cases d<;>simp[tk]at hk ⊢
  obtain ⟨q1,q2⟩:=zBJ (w:=w) hd none;refine ⟨_,?_,by simp only[VR];rfl⟩;rw[zB,zAE _ _ _ _ _ _ _ _ rfl];simp[q1]
 ·simp only[VR]at ha hb;subst hb;subst ha;split at h;rotate_left;·cases h
  rename_i hti;injection h with h;injection h with h1 h2;subst h1;subst h2;obtain ⟨z,ht⟩:=hT _ _ hti;obtain ⟨d,hd,hk⟩:=ht.sx.desc;obtain ⟨e,rfl⟩:∃e,d= .pointer e:=by cases d<;>simp[tk]at hk ⊢
  obtain ⟨q1,q2⟩:=zBJ (w:=w) hd none;refine ⟨_,?_,by simp only[VR];rfl⟩;rw[zB,zAE _ _ _ _ _ _ _ _ rfl];simp[q2]
 ·simp only[VR]at ha hb;obtain ⟨i,hi,hz,rfl⟩:=ha;obtain ⟨i',hi',hz',rfl⟩:=hb;split at h;rotate_left;·cases h
  rename_i hti;split at h;rotate_left;·cases h
  rename_i hte;split at h;rotate_left;·cases h
  rename_i hc;obtain ⟨rfl,rfl,rfl⟩:=hc;rw[hi]at hi';injection hi' with hi';subst hi';injection h with h;injection h with h1 h2;subst h1;subst h2;obtain ⟨z,ht⟩:=hT _ _ hti;obtain ⟨d,hd,hk⟩:=ht.sx.desc;obtain ⟨e,rfl⟩:∃e,d= .pointer e:=by cases d<;>simp[tk]at hk ⊢
  simp only[tk,TK.ptr.injEq]at hk;subst hk;obtain ⟨ze,hze⟩:=hT _ _ hte;obtain ⟨j,hj,_⟩:=hze.sx.info;have q1:=fun a=>(zBt (P:=P) (w:=w) hd hj a).1
  have q2:=fun a=>(zBt (P:=P) (w:=w) hd hj a).2
  refine ⟨_,?_,by simp only[VR];rfl⟩;rw[zB,zAE _ _ _ _ _ _ _ _ rfl];simp[q1]
 ·simp only[VR]at ha hb;obtain ⟨i,hi,hz,rfl⟩:=ha;obtain ⟨i',hi',hz',rfl⟩:=hb;split at h;rotate_left;·cases h
  rename_i hti;split at h;rotate_left;·cases h
  rename_i hte;split at h;rotate_left;·cases h
  rename_i hc;obtain ⟨rfl,rfl,rfl⟩:=hc;rw[hi]at hi';injection hi' with hi';subst hi';injection h with h;injection h with h1 h2;subst h1;subst h2;obtain ⟨z,ht⟩:=hT _ _ hti;obtain ⟨d,hd,hk⟩:=ht.sx.desc;obtain ⟨e,rfl⟩:∃e,d= .pointer e:=by cases d<;>simp[tk]at hk ⊢
  simp only[tk,TK.ptr.injEq]at hk;subst hk;obtain ⟨ze,hze⟩:=hT _ _ hte;obtain ⟨j,hj,_⟩:=hze.sx.info;have q1:=fun a=>(zBt (P:=P) (w:=w) hd hj a).1
  have q2:=fun a=>(zBt (P:=P) (w:=w) hd hj a).2
  refine ⟨_,?_,by simp only[VR];rfl⟩;rw[zB,zAE _ _ _ _ _ _ _ _ rfl];simp[q2]
 ·simp only[VR]at ha hb;obtain ⟨l1,rfl,_,ha⟩:=ha;obtain ⟨l2,rfl,_,hb⟩:=hb;simp only[zV]at h;obtain ⟨r,hr,h⟩:=h;injection h with h1 h2;subst h1;subst h2;obtain ⟨q1,q2⟩:=zKa (P:=P) (w:=w) hT ha hb hr;refine ⟨_,?_,by simp only[VR];rfl⟩;rw[zB,run_eqGuard_agg w _ _ _ _ _ _ q1];simp[run_eql_struct,q2]
 ·simp only[VR]at ha hb;obtain ⟨l1,rfl,_,ha⟩:=ha;obtain ⟨l2,rfl,_,hb⟩:=hb;simp only[zV]at h;obtain ⟨r,hr,h⟩:=h;injection h with h1 h2;subst h1;subst h2;obtain ⟨q1,q2⟩:=zKa (P:=P) (w:=w) hT ha hb hr;refine ⟨_,?_,by simp only[VR];rfl⟩;rw[zB,run_eqGuard_agg w _ _ _ _ _ _ q1];simp[run_neq_struct,q2]
 ·cases h
def zDH(T:Tys)(s:TypeId)(x:PV)(f:Nat):Option Res:=
 match T.get s with
 | some {k:=.struct fs,..}=>
  match fs[f]? with
  | some (off,ft)=>
   match T.get ft with
   |some fi=>
    if fi.size==0 then none else
    match x with
    | .ptr n r c=>some (zAH True (.ptr n r (c+off)))
    | .fp wd rs r c=>some (zAH True (.fp wd rs r (c+off)))
    |_=>none
   |none=>none
  |none=>none
 |_=>none
theorem zGg(hT:T.Ok P)(h:HRel E F w){s:TypeId}{x:PV}{x':Value}{f:Nat}{r:Res}(hs:zDH T s x f=some r)(hx:VR w (Zn E F w) E x x'):
  ∃v',(Instr.fieldAt s x' f).run P w= .ok v' w∧Gives E F nx w r v' w:=by
 unfold zDH at hs;split at hs;rotate_left;·cases hs
 rename_i fs _ _ _ _ _ hti;split at hs;rotate_left;·cases hs
 rename_i off ft hfs;split at hs;rotate_left;·cases hs
 rename_i fi hfi;split at hs;·cases hs
 rename_i hsz;obtain ⟨z,ht⟩:=hT _ _ hti;obtain ⟨d,hd,hk⟩:=ht.run_underlying w;obtain ⟨a,rfl,ha⟩:=zCJ hk;obtain ⟨fld,hf1,hf2,hf3⟩:=zEy ha hfs;subst hf2;subst hf3;obtain ⟨z2,ht2⟩:=hT _ _ hfi;have hz:=ht2.run_sizeOf w;simp only[beq_iff_eq]at hsz;have hrun:∀b o:Nat,(Instr.fieldAt s (.pointer (some ⟨b,o,none⟩)) f).run P w= .ok (.pointer (some ⟨b,o+fld.offset,none⟩)) w:=by
  intro b o;simp only[Instr.fieldAt,zB,hd,zD,hf1,Instr.sureAddr,zI,fieldPlace,hz];rw[if_neg hsz];simp[addr_add]
 split at hs
 ·injection hs with hs;subst hs;simp only[VR]at hx;obtain ⟨i,hi,hn,rfl⟩:=hx;refine ⟨_,hrun _ _,Gives.still h rfl ?_⟩;simp only[zAH,VR];exact ⟨i,hi,hn,by simp[zA]⟩
 ·injection hs with hs;subst hs;simp only[VR]at hx;obtain ⟨b,o,cs,e,fz,rfl,h2⟩:=hx;refine ⟨_,hrun _ _,Gives.still h rfl ?_⟩;simp only[zAH,VR];exact ⟨b,o,cs,e,fz,by simp[zA],h2⟩
 ·cases hs
def zAy(T:Tys)(F:SF)(t:TypeId)(x i:PV):Option Res:=
 match i with
 | .int _ i=>
  match T.get t with
  | some {k:=.slice e,..}=>
   match T.get e with
   | some ei=>
    match x with
    | .sl n r l=>
     match F n with
     |some (.rows _ wd _ _ _)=>if ei.size==wd then some {vc:=0≤i∧i<l,v:=.ptr n (r+i.toNat) 0,upd:=[],rd:=[n]} else none
     |_=>none
    | .fs wd rs=>if ei.size==wd then some (zAH (0≤i∧i<rs.length) (.fp wd rs i.toNat 0)) else none
    |_=>none
   |none=>none
  | some {k:=.array len e,..}=>
   match T.get e with
   |some ei=>
    match x with
    | .ptr n r c=>some {vc:=0≤i∧i<len,v:=.ptr n r (c+i.toNat*ei.size),upd:=[],rd:=[n]}
    | .fp wd rs r c=>some (zAH (0≤i∧i<len) (.fp wd rs r (c+i.toNat*ei.size)))
    |_=>none
   |none=>none
  |_=>none
 |_=>none
theorem zDn(hT:T.Ok P)(h:HRel E F w){t:TypeId}{x i:PV}{x' i':Value}{r:Res}(hs:zAy T F t x i=some r)(hvc:r.vc)(hx:VR w (Zn E F w) E x x')(hi:VR w (Zn E F w) E i i'):
  ∃v',(Instr.indexAt t x' i').run P w= .ok v' w∧Gives E F nx w r v' w:=by
 unfold zAy at hs;split at hs;rotate_left;·cases hs
 simp only[VR]at hi;subst hi;rename_i k i;split at hs
 ·rename_i e _ _ _ _ _ hti;split at hs;rotate_left;·cases hs
  rename_i ei hei;obtain ⟨z,ht⟩:=hT _ _ hti;obtain ⟨z2,ht2⟩:=hT _ _ hei;obtain ⟨d,hd,hk⟩:=ht.run_underlying w;obtain rfl:=zAS hk;have hrun:∀(b o l c:Nat),0≤i→i<l→(Instr.indexAt t (.slice (some ⟨b,o,none⟩) l c) (.int k i)).run P w= .ok (.pointer (some ⟨b,o+i.toNat*ei.size,none⟩)) w:=by
   intro b o l c h1 h2;simp only[Instr.indexAt,asIntOf,zB,zI,zD,hd];simp only[h1,h2,and_self,if_true,zB,ht2.run_sizeOf w,zD,zI,addr_add]
  split at hs
  ·rename_i n row l;split at hs;rotate_left;·cases hs
   rename_i e0 wd own p rs hF;split at hs;rotate_left;·cases hs
   rename_i hw;simp only[beq_iff_eq]at hw;injection hs with hs;subst hs;obtain ⟨h1,h2⟩:=hvc;simp only[VR]at hx;obtain ⟨bi,hbi,hor⟩:=hx;rcases hor with ⟨_,hl,_⟩|⟨hn,rfl⟩;·omega
   have hR:=zAJ h hF hbi hn;refine ⟨_,hrun _ _ _ _ h1 h2,Gives.still h rfl ?_⟩;simp only[VR];refine ⟨bi,hbi,hn,?_⟩;rw[hw,hR.wd_eq,wF,zDF (by omega),hR.wd_eq];simp[zA]
  ·rename_i wd rs;split at hs;rotate_left;·cases hs
   rename_i hw;simp only[beq_iff_eq]at hw;injection hs with hs;subst hs;obtain ⟨h1,h2⟩:=hvc;simp only[VR]at hx;obtain ⟨a,cap,rfl,hc,hcm,hwd,hl,hor⟩:=hx;rcases hor with rfl|⟨b,o,cs,e,fz,rfl,q1,q2,q3⟩;·simp at h2;omega
   refine ⟨_,hrun _ _ _ _ h1 h2,Gives.still h rfl ?_⟩;simp only[zAH,VR];exact ⟨b,o,cs,e,fz,by rw[hw];simp,q1,q2,hwd,hl,q3⟩
  ·cases hs
 ·rename_i len e _ _ _ _ _ hti;split at hs;rotate_left;·cases hs
  rename_i ei hei;obtain ⟨z,ht⟩:=hT _ _ hti;obtain ⟨z2,ht2⟩:=hT _ _ hei;obtain ⟨d,hd,hk⟩:=ht.run_underlying w;obtain rfl:=zBM hk;have hrun:∀(b o:Nat),0≤i→i<len→(Instr.indexAt t (.pointer (some ⟨b,o,none⟩)) (.int k i)).run P w= .ok (.pointer (some ⟨b,o+i.toNat*ei.size,none⟩)) w:=by
   intro b o h1 h2;simp only[Instr.indexAt,asIntOf,zB,zI,zD,hd,Instr.sureAddr];simp only[h1,h2,and_self,if_true,zB,ht2.run_sizeOf w,zD,zI,addr_add]
  split at hs
  ·injection hs with hs;subst hs;obtain ⟨h1,h2⟩:=hvc;simp only[VR]at hx;obtain ⟨bi,hbi,hn,rfl⟩:=hx;refine ⟨_,hrun _ _ h1 h2,Gives.still h rfl ?_⟩;simp only[VR];exact ⟨bi,hbi,hn,by simp[zA]⟩
  ·injection hs with hs;subst hs;obtain ⟨h1,h2⟩:=hvc;simp only[VR]at hx;obtain ⟨b,o,cs,e,fz,rfl,q⟩:=hx;refine ⟨_,hrun _ _ h1 h2,Gives.still h rfl ?_⟩;simp only[zAH,VR];exact ⟨b,o,cs,e,fz,by simp[zA],q⟩
  ·cases hs
 ·cases hs
end
end Go.Tx
end
