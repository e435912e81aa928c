/- Lemmas for the walk: Sx1, Sx2, Sx3, Sx4, T1, T2, T2b, Sx5, Sx6. -/
import Derived.OrdersIn
import Derived.RangeFuncIn
import Derived.LoopIn
import Derived.Below
import Derived.Laws.Sem
import Derived.RowKit3
import Derived.Laws.OwnMore
import Derived.Laws.IdiomCopy
import Derived.Laws.Cells
import Derived.RangeFuncLeaves
import Derived.RangeFuncRecord
set_option linter.all false
theorem zA:type_of% @Nat.add_assoc:=@Nat.add_assoc
theorem zB:type_of% @Go.Sem.run_bind:=@Go.Sem.run_bind
theorem zC:type_of% @Bool.and_eq_true:=@Bool.and_eq_true
theorem zD:type_of% @Go.Result.andThen_ok:=@Go.Result.andThen_ok
theorem zE:type_of% @List.getD_eq_getElem?_getD:=@List.getD_eq_getElem?_getD
theorem zF:type_of% @List.nil_append:=@List.nil_append
theorem zG:type_of% @List.length_map:=@List.length_map
theorem zH:type_of% @Nat.le_refl:=@Nat.le_refl
theorem zI:type_of% @Go.Sem.run_pure:=@Go.Sem.run_pure
theorem zJ:type_of% @List.cons_append:=@List.cons_append
theorem zK:type_of% @List.append_nil:=@List.append_nil
theorem zL:type_of% @List.map_cons:=@List.map_cons
theorem zM:type_of% @Option.bind_eq_some_iff:=@Option.bind_eq_some_iff
theorem zN:type_of% @Bool.not_false:=@Bool.not_false
theorem zO:type_of% @List.mem_of_getElem?:=@List.mem_of_getElem?
theorem zP:type_of% @Nat.zero_add:=@Nat.zero_add
theorem zQ:type_of% @List.take_of_length_le:=@List.take_of_length_le
theorem zR:type_of% @Bool.true_and:=@Bool.true_and
theorem zS:type_of% @List.getElem?_eq_getElem:=@List.getElem?_eq_getElem
theorem zT:type_of% @Bool.not_true:=@Bool.not_true
theorem zU:type_of% @List.length_append:=@List.length_append
theorem zV:type_of% @Option.map_eq_some_iff:=@Option.map_eq_some_iff
theorem zW:type_of% @Int.natCast_zero:=@Int.natCast_zero
theorem zX:type_of% @Bool.false_and:=@Bool.false_and
theorem zY:type_of% @Int.natCast_succ:=@Int.natCast_succ
theorem zZ:type_of% @Option.some.injEq:=@Option.some.injEq
theorem wC:type_of% @Bool.false_eq_true:=@Bool.false_eq_true
theorem wD:type_of% @Nat.mod_eq_of_lt:=@Nat.mod_eq_of_lt
theorem wE:type_of% @List.getElem?_map:=@List.getElem?_map
theorem wF:type_of% @Nat.add_mul:=@Nat.add_mul
theorem wG:type_of% @Nat.mul_one:=@Nat.mul_one
theorem wH:type_of% @Nat.add_zero:=@Nat.add_zero
theorem wI:type_of% @List.length_take:=@List.length_take
theorem wJ:type_of% @Option.map_some:=@Option.map_some
theorem wK:type_of% @List.all_eq_true:=@List.all_eq_true
theorem wL:type_of% @Prod.mk.injEq:=@Prod.mk.injEq
theorem wM:type_of% @List.map_nil:=@List.map_nil
theorem wN:type_of% @Nat.mul_le_mul_right:=@Nat.mul_le_mul_right
theorem wO:type_of% @List.getElem?_append_left:=@List.getElem?_append_left
theorem wP:type_of% @List.mem_cons:=@List.mem_cons
theorem wQ:type_of% @List.map_append:=@List.map_append
theorem wR:type_of% @List.getElem?_toArray:=@List.getElem?_toArray
theorem wT:type_of% @Nat.lt_or_ge:=@Nat.lt_or_ge
theorem wU:type_of% @List.length_drop:=@List.length_drop
theorem wV:type_of% @Nat.succ_mul:=@Nat.succ_mul
theorem wW:type_of% @List.length_nil:=@List.length_nil
theorem wX:type_of% @Option.isSome_some:=@Option.isSome_some
theorem wY:type_of% @Int.tmod_eq_emod_of_nonneg:=@Int.tmod_eq_emod_of_nonneg
theorem wZ:type_of% @List.getElem?_append_right:=@List.getElem?_append_right
theorem vA:type_of% @Array.length_toList:=@Array.length_toList
theorem vB:type_of% @Int.natCast_add:=@Int.natCast_add
theorem vC:type_of% @List.length_cons:=@List.length_cons
theorem vD:type_of% @Nat.lt_of_lt_of_le:=@Nat.lt_of_lt_of_le
theorem vE:type_of% @Nat.mod_lt:=@Nat.mod_lt
theorem vF:type_of% @Int.le_refl:=@Int.le_refl
theorem vG:type_of% @Array.ext':=@Array.ext'
theorem vH:type_of% @Nat.sub_zero:=@Nat.sub_zero
theorem vI:type_of% @List.eq_nil_of_length_eq_zero:=@List.eq_nil_of_length_eq_zero
theorem vJ:type_of% @Bool.and_false:=@Bool.and_false
theorem vK:type_of% @Int.natCast_one:=@Int.natCast_one
theorem vL:type_of% @Nat.mul_comm:=@Nat.mul_comm
theorem vM:type_of% @Option.isSome_none:=@Option.isSome_none
theorem vO:type_of% @List.append_assoc:=@List.append_assoc
theorem vP:type_of% @Nat.le_trans:=@Nat.le_trans
theorem vQ:type_of% @List.getElem?_set:=@List.getElem?_set
theorem vR:type_of% @List.mem_of_mem_take:=@List.mem_of_mem_take
theorem vS:type_of% @List.mem_append:=@List.mem_append
theorem vT:type_of% @Option.getD_some:=@Option.getD_some
theorem vU:type_of% @BitVec.toNat_ofNat:=@BitVec.toNat_ofNat
theorem vV:type_of% @Bool.or_eq_true:=@Bool.or_eq_true
theorem vW:type_of% @List.getElem?_of_mem:=@List.getElem?_of_mem
theorem vX:type_of% @List.getElem?_drop:=@List.getElem?_drop
theorem vY:type_of% @BitVec.ofInt_natCast:=@BitVec.ofInt_natCast
theorem vZ:type_of% @Array.getElem?_toList:=@Array.getElem?_toList
theorem uA:type_of% @List.getElem?_eq_none:=@List.getElem?_eq_none
theorem uB:type_of% @List.getElem?_take:=@List.getElem?_take
theorem uC:type_of% @List.not_mem_nil:=@List.not_mem_nil
theorem uD:type_of% @List.drop_of_length_le:=@List.drop_of_length_le
theorem uE:type_of% @List.mem_of_mem_drop:=@List.mem_of_mem_drop
theorem uF:type_of% @List.getD_cons_succ:=@List.getD_cons_succ
theorem uG:type_of% @List.take_zero:=@List.take_zero
theorem uH:type_of% @List.getElem_mem:=@List.getElem_mem
theorem uI:type_of% @Nat.pow_le_pow_right:=@Nat.pow_le_pow_right
theorem uJ:type_of% @Int.tdiv_eq_ediv_of_nonneg:=@Int.tdiv_eq_ediv_of_nonneg
theorem uK:type_of% @Nat.mul_add_mod:=@Nat.mul_add_mod
theorem uL:type_of% @List.mem_zipIdx_iff_getElem?:=@List.mem_zipIdx_iff_getElem?
theorem uM:type_of% @Nat.zero_le:=@Nat.zero_le
theorem uN:type_of% @Nat.min_eq_left:=@Nat.min_eq_left
theorem uO:type_of% @List.size_toArray:=@List.size_toArray
theorem uP:type_of% @Bool.and_true:=@Bool.and_true
theorem uQ:type_of% @List.ext_getElem:=@List.ext_getElem
theorem uR:type_of% @Array.getElem?_append_left:=@Array.getElem?_append_left
theorem uS:type_of% @List.take_append_of_le_length:=@List.take_append_of_le_length
theorem uT:type_of% @List.getElem?_replicate:=@List.getElem?_replicate
theorem uU:type_of% @List.drop_zero:=@List.drop_zero
theorem uV:type_of% @Nat.mul_le_mul:=@Nat.mul_le_mul
theorem uW:type_of% @List.flatMap_cons:=@List.flatMap_cons
theorem uX:type_of% @List.take_succ_eq_append_getElem:=@List.take_succ_eq_append_getElem
theorem uY:type_of% @List.map_toArray:=@List.map_toArray
theorem uZ:type_of% @Nat.lt_trichotomy:=@Nat.lt_trichotomy
theorem qA:type_of% @Nat.lt_of_le_of_lt:=@Nat.lt_of_le_of_lt
theorem qB:type_of% @Bool.eq_iff_iff:=@Bool.eq_iff_iff
theorem qC:type_of% @Nat.div_le_self:=@Nat.div_le_self
theorem qD:type_of% @Nat.le_succ_of_le:=@Nat.le_succ_of_le
theorem qE:type_of% @List.getElem_map:=@List.getElem_map
theorem qF:type_of% @List.getElem?_range:=@List.getElem?_range
theorem qG:type_of% @List.eq_of_mem_replicate:=@List.eq_of_mem_replicate
theorem qH:type_of% @Array.getElem?_eq_getElem:=@Array.getElem?_eq_getElem
theorem qI:type_of% @List.take_length:=@List.take_length
theorem qJ:type_of% @Array.getElem?_eq_none:=@Array.getElem?_eq_none
theorem qK:type_of% @Int.natCast_mul:=@Int.natCast_mul
theorem qL:type_of% @Int.toNat_natCast:=@Int.toNat_natCast
theorem qM:type_of% @Bool.not_eq_true':=@Bool.not_eq_true'
theorem qN:type_of% @List.drop_append_of_le_length:=@List.drop_append_of_le_length
theorem qO:type_of% @Array.getElem?_append_right:=@Array.getElem?_append_right
theorem qP:type_of% @List.mem_singleton:=@List.mem_singleton
theorem qQ:type_of% @Array.getElem?_modify:=@Array.getElem?_modify
theorem qT:type_of% @List.getD_cons_zero:=@List.getD_cons_zero
theorem qU:type_of% @List.eraseIdx_eq_take_drop_succ:=@List.eraseIdx_eq_take_drop_succ
theorem qV:type_of% @List.length_eraseIdx_of_lt:=@List.length_eraseIdx_of_lt
theorem qW:type_of% @List.mem_or_eq_of_mem_set:=@List.mem_or_eq_of_mem_set
theorem qX:type_of% @Array.getElem?_replicate:=@Array.getElem?_replicate
theorem qY:type_of% @List.extract_eq_take_drop:=@List.extract_eq_take_drop
theorem qZ:type_of% @List.eraseIdx_cons_zero:=@List.eraseIdx_cons_zero
section
namespace Go.Sx
structure BI where
 b:Nat
 o:Nat
 wd:Nat
 n:Nat
 nil:Bool
abbrev Env:=Nat→Option BI
def Env.le(E E':Env):Prop:=∀k i,E k=some i→E' k=some i
theorem Env.le.refl(E:Env):E.le E:=fun _ _ h=>h
theorem Env.le.trans{E E' E'':Env}(h:E.le E')(h':E'.le E''):E.le E'':=fun k i hk=>h' k i (h k i hk)
def FULL:Nat:=4611686018427387904
def dA(E:Env)(a:Addr):Option Addr:=
 match E a.block with
 |some i=>if i.nil then none else some ⟨i.b,i.o+(a.off*i.wd+a.spot.getD 0),none⟩
 |none=>none
def dS(E:Env)(a:Addr)(l c:Nat):Option Value:=
 match E a.block with
 | some i=>if i.nil then (if l=0 then some (.slice none 0 0) else none)
   else some (.slice (some ⟨i.b,i.o+(a.off*i.wd+a.spot.getD 0),none⟩) l (if c=FULL then i.n-a.off else c))
 |none=>none
def dM(E:Env)(r:Nat):Option Value:=
 match E r with
 |some i=>if i.nil then none else some (.map (some i.b))
 |none=>none
def dF(E:Env):Fn→Option Fn
 | .yield n=>match E n with|some i=>if i.nil then none else some (.yield i.b)|none=>none
 |f=>some f
def zGJ:Fn→Bool
 | .yield _=>false
 |_=>true
theorem zSU{E:Env}{f:Fn}(h:zGJ f=true):dF E f=some f:=by cases f<;>first|rfl|cases h
mutual
def dv(E:Env):Value→Option Value
 | .pointer (some a)=>(dA E a).map fun a'=>.pointer (some a')
 | .slice (some a) l c=>dS E a l c
 | .map (some r)=>dM E r
 | .func f x y=>(dF E f).bind fun f'=>(dva E x).bind fun x'=>(dva E y).map fun y'=>.func f' x' y'
 | .iface t v=>(dv E v).map fun v'=>.iface t v'
 | .agg cs=>(dva E cs).bind fun a=>if a.all (·.oneCell')=true then some (.agg a) else none
 | .tuple cs=>(dva E cs).map .tuple
 | .chan _=>none
 |v=>some v
def dva(E:Env):Array Value→Option (Array Value)
 |⟨l⟩=>(dvl E l).map List.toArray
def dvl(E:Env):List Value→Option (List Value)
 | []=>some []
 |v::l=>(dv E v).bind fun v'=>(dvl E l).map fun l'=>v'::l'
end
theorem zPm{E E':Env}(h:E.le E'){a a':Addr}(ha:dA E a=some a'):dA E' a=some a':=by
 unfold dA at *;cases he:E a.block with
 |none=>simp[he]at ha
 |some i=>simp only[he]at ha;simp only[h _ _ he];exact ha
theorem zPn{E E':Env}(h:E.le E'){a:Addr}{l c:Nat}{v:Value}(ha:dS E a l c=some v):dS E' a l c=some v:=by
 unfold dS at *;cases he:E a.block with
 |none=>simp[he]at ha
 |some i=>simp only[he]at ha;simp only[h _ _ he];exact ha
theorem zPo{E E':Env}(h:E.le E'){f f':Fn}(ha:dF E f=some f'):dF E' f=some f':=by
 cases f with
 |yield n=>
  simp only[dF]at *;cases he:E n with
  |none=>simp[he]at ha
  |some i=>simp only[he]at ha;simp only[h _ _ he];exact ha
 |_=>exact ha
theorem zPp{E E':Env}(h:E.le E'){r:Nat}{v:Value}(ha:dM E r=some v):dM E' r=some v:=by
 unfold dM at *;cases he:E r with
 |none=>simp[he]at ha
 |some i=>simp only[he]at ha;simp only[h _ _ he];exact ha
mutual
theorem zCV{E E':Env}(h:E.le E'):∀(v v':Value),dv E v=some v'→dv E' v=some v'
 | .pointer (some a),v',hv=>by
  simp only[dv,zV]at hv ⊢;obtain ⟨a',h1,h2⟩:=hv;exact ⟨a',zPm h h1,h2⟩
 | .pointer none,v',hv=>by simpa[dv] using hv
 | .slice (some a) l c,v',hv=>by simp only[dv]at hv ⊢;exact zPn h hv
 | .slice none l c,v',hv=>by simpa[dv] using hv
 | .map (some r),v',hv=>by simp only[dv]at hv ⊢;exact zPp h hv
 | .map none,v',hv=>by simpa[dv] using hv
 | .func f x y,v',hv=>by
  simp only[dv,zM,zV]at hv ⊢;obtain ⟨f',h0,x',h1,y',h2,h3⟩:=hv;exact ⟨f',zPo h h0,x',zGK h x x' h1,y',zGK h y y' h2,h3⟩
 | .iface t v,v',hv=>by
  simp only[dv,zV]at hv ⊢;obtain ⟨x',h1,h2⟩:=hv;exact ⟨x',zCV h v x' h1,h2⟩
 | .agg cs,v',hv=>by
  simp only[dv,zM]at hv ⊢;obtain ⟨x',h1,h2⟩:=hv;exact ⟨x',zGK h cs x' h1,h2⟩
 | .tuple cs,v',hv=>by
  simp only[dv,zV]at hv ⊢;obtain ⟨x',h1,h2⟩:=hv;exact ⟨x',zGK h cs x' h1,h2⟩
 | .chan _,v',hv=>by simp[dv]at hv
 | .bool _,v',hv=>by simpa[dv] using hv
 | .int _ _,v',hv=>by simpa[dv] using hv
 | .float _ _,v',hv=>by simpa[dv] using hv
 | .complex _ _ _,v',hv=>by simpa[dv] using hv
 | .string _,v',hv=>by simpa[dv] using hv
 | .nilFunc,v',hv=>by simpa[dv] using hv
 | .nilIface,v',hv=>by simpa[dv] using hv
theorem zGK{E E':Env}(h:E.le E'):∀(v v':Array Value),dva E v=some v'→dva E' v=some v'
 |⟨l⟩,v',hv=>by
  simp only[dva,zV]at hv ⊢;obtain ⟨x',h1,h2⟩:=hv;exact ⟨x',zKR h l x' h1,h2⟩
theorem zKR{E E':Env}(h:E.le E'):∀(v v':List Value),dvl E v=some v'→dvl E' v=some v'
 | [],v',hv=>by simpa[dvl] using hv
 |v::l,v',hv=>by
  simp only[dvl,zM,zV]at hv ⊢;obtain ⟨x',h1,y',h2,h3⟩:=hv;exact ⟨x',zCV h v x' h1,y',zKR h l y' h2,h3⟩
end
inductive SBlk where
 |rows (elem:TypeId) (wd:Nat) (own exact:Bool) (rs:List (List Value))
 |map (own:Bool) (es:List (Value×Value))
 |dead
def SBlk.own:SBlk→Bool
 | .rows _ _ o _ _=>o
 | .map o _=>o
 | .dead=>false
def SBlk.live:SBlk→Bool
 | .dead=>false
 |_=>true
structure RowsRel (E:Env) (w:World) (i:BI) (elem:TypeId) (wd:Nat) (own exact:Bool) (rs:List (List Value)):Prop where
 wd_eq:i.wd=wd
 wd_pos:0<wd
 len:∀r,r∈rs→r.length=wd
 le:rs.length≤i.n
 ex:exact=true→i.n=rs.length
 cap:i.n≤maxLen
 cells:∃cs fz,w.heap[i.b]?=some (.cells cs elem fz)∧i.o+i.n*wd≤cs.size∧
  (own=true→∀j,i.o≤j→j<i.o+i.n*wd→¬(fz.1≤j∧j<fz.2))∧
  ∀r row c v,rs[r]?=some row→row[c]?=some v→∃v',dv E v=some v'∧v'.oneCell'=true∧cs[i.o+(r*wd+c)]?=some v'
def MRel(E:Env):List MapEntry→List (Value×Value)→Prop
 | [],[]=>True
 |e::l,kv::l'=>dv E kv.1=some e.key∧dv E kv.2=some e.val∧MRel E l l'
 |_,_=>False
def BRel(E:Env)(w:World)(n:Nat):SBlk→Prop
 | .dead=>True
 | .rows elem wd own exact rs=>∃i,E n=some i∧((i.nil=true∧rs=[]∧exact=false)∨(i.nil=false∧RowsRel E w i elem wd own exact rs))
 | .map _ es=>∃i,E n=some i∧i.nil=false∧∃ents clk,w.heap[i.b]?=some (.map ents clk)∧MRel E ents.toList es
abbrev SF:=Nat→Option SBlk
def SF.set(F:SF)(n:Nat)(b:SBlk):SF:=fun k=>if k=n then some b else F k
def SF.upd(F:SF):List (Nat×SBlk)→SF
 | []=>F
 |(n,b)::l=>SF.upd (F.set n b) l
structure HRel (E:Env) (F:SF) (w:World):Prop where
 blk:∀n b,F n=some b→BRel E w n b
 sep:∀n m b c i j,F n=some b→F m=some c→n≠m→b.own=true→c.live=true→E n=some i→E m=some j→i.nil=false→j.nil=false→i.b≠j.b
structure StepR (E:Env) (F:SF) (w:World) (E':Env) (F':SF) (w':World):Prop where
 le:E.le E'
 rel:HRel E' F' w'
 os:w'.os=w.os
 tape:w'.tape=w.tape
 output:w'.output=w.output
 size:w.heap.size≤w'.heap.size
 keep:∀k,k<w.heap.size→(∀n b i,F n=some b→b.own=true→E n=some i→i.nil=false→i.b≠k)→w'.heap[k]?=w.heap[k]?
 own:∀n b i,F' n=some b→b.own=true→E' n=some i→i.nil=false→
  w.heap.size≤i.b∨∃m c j,F m=some c∧c.own=true∧E m=some j∧j.nil=false∧j.b=i.b
theorem StepR.refl{E:Env}{F:SF}{w:World}(h:HRel E F w):StepR E F w E F w:=
 ⟨Env.le.refl _,h,rfl,rfl,rfl,zH _,fun _ _ _=>rfl,fun n b i hf ho he hn=>.inr ⟨n,b,i,hf,ho,he,hn,rfl⟩⟩
theorem StepR.trans{E E' E'':Env}{F F' F'':SF}{w w' w'':World}(h:StepR E F w E' F' w')(k:StepR E' F' w' E'' F'' w''):StepR E F w E'' F'' w'' where
 le:=h.le.trans k.le
 rel:=k.rel
 os:=k.os.trans h.os
 tape:=k.tape.trans h.tape
 output:=k.output.trans h.output
 size:=vP h.size k.size
 keep:=fun b hb hno=>by
  have h1:=h.keep b hb hno;refine (k.keep b (vD hb h.size) ?_).trans h1;intro n c i hf ho he hn heq;rcases h.own n c i hf ho he hn with hge|⟨m,c',j,hf',ho',he',hn',hbb⟩;·omega
  ·exact hno m c' j hf' ho' he' hn' (hbb.trans heq)
 own:=fun n b i hf ho he hn=>by
  rcases k.own n b i hf ho he hn with hge|⟨m,c,j,hf',ho',he',hn',hbb⟩;·exact .inl (vP h.size hge)
  ·rcases h.own m c j hf' ho' he' hn' with hge|⟨m2,c2,j2,a1,a2,a3,a4,a5⟩;·exact .inl (by omega)
   ·exact .inr ⟨m2,c2,j2,a1,a2,a3,a4,a5.trans hbb⟩
theorem MRel.mono{E E':Env}(hE:E.le E'):∀{l:List MapEntry} {l':List (Value×Value)},MRel E l l'→MRel E' l l'
 | [],[],_=>trivial
 |_::_,_::_,h=>⟨zCV hE _ _ h.1,zCV hE _ _ h.2.1,MRel.mono hE h.2.2⟩
 | [],_::_,h=>h.elim
 |_::_,[],h=>h.elim
theorem RowsRel.mono{E E':Env}{w w':World}{i:BI}{elem:TypeId}{wd:Nat}{own exact:Bool}{rs:List (List Value)}(hE:E.le E')
  (hw:w'.heap[i.b]?=w.heap[i.b]?)(h:RowsRel E w i elem wd own exact rs):RowsRel E' w' i elem wd own exact rs:=by
 obtain ⟨a1,a2,a3,a4,a5,a6,cs,fz,b1,b2,b3,b4⟩:=h;refine ⟨a1,a2,a3,a4,a5,a6,cs,fz,hw.trans b1,b2,b3,fun r row c v h1 h2=>?_⟩;obtain ⟨v',c1,c2⟩:=b4 r row c v h1 h2;exact ⟨v',zCV hE _ _ c1,c2⟩
theorem BRel.mono{E E':Env}{w w':World}{n:Nat}{b:SBlk}(hE:E.le E')(hw:∀i,E n=some i→i.nil=false→w'.heap[i.b]?=w.heap[i.b]?)
  (h:BRel E w n b):BRel E' w' n b:=by
 cases b with
 |dead=>trivial
 |rows elem wd own exact rs=>
  obtain ⟨i,hi,h⟩:=h;refine ⟨i,hE _ _ hi,h.imp id fun ⟨hn,hr⟩=>⟨hn,hr.mono hE (hw i hi hn)⟩⟩
 |map own es=>
  obtain ⟨i,hi,hn,ents,clk,h1,h2⟩:=h;exact ⟨i,hE _ _ hi,hn,ents,clk,(hw i hi hn).trans h1,h2.mono hE⟩
theorem StepR.drew{E E':Env}{F F':SF}{w w':World}(h:StepR E F w E' F' w'):StepR E F w E' F' {w' with drawn:=w'.drawn+1}:=
 ⟨h.le,⟨fun n b hf=>BRel.mono (w:=w') (Env.le.refl _) (fun _ _ _=>rfl) (h.rel.blk n b hf),h.rel.sep⟩,h.os,h.tape,h.output,h.size,h.keep,h.own⟩
theorem BRel.lt{E:Env}{w:World}{n:Nat}{b:SBlk}{i:BI}(h:BRel E w n b)(hl:b.live=true)(hi:E n=some i)(hn:i.nil=false):i.b<w.heap.size:=by
 have key:∀o,w.heap[i.b]?=some o→i.b<w.heap.size:=by
  intro o ho;rcases wT i.b w.heap.size with h|h;·exact h
  ·rw[qJ h]at ho;cases ho
 cases b with
 |dead=>cases hl
 |rows elem wd own exact rs=>
  obtain ⟨j,hj,h⟩:=h;rw[hi]at hj;injection hj with hj;subst hj;rcases h with ⟨h,_⟩|⟨_,h⟩;·rw[hn]at h;cases h
  ·obtain ⟨cs,fz,hb,_⟩:=h.cells;exact key _ hb
 |map own es=>
  obtain ⟨j,hj,_,ents,clk,hb,_⟩:=h;rw[hi]at hj;injection hj with hj;subst hj;exact key _ hb
theorem BRel.def_{E:Env}{w:World}{n:Nat}{b:SBlk}(h:BRel E w n b)(hl:b.live=true):∃i,E n=some i:=by
 cases b with
 |dead=>cases hl
 |rows elem wd own exact rs=>obtain ⟨i,hi,_⟩:=h;exact ⟨i,hi⟩
 |map own es=>obtain ⟨i,hi,_⟩:=h;exact ⟨i,hi⟩
def Env.set(E:Env)(n:Nat)(i:BI):Env:=fun k=>if k=n then some i else E k
theorem zUV{E:Env}{n:Nat}{i:BI}(h:E n=none):E.le (E.set n i):=by
 intro k j hk;unfold Env.set;split;·rename_i hkn;subst hkn;rw[h]at hk;cases hk
 ·exact hk
theorem zUO(E:Env)(n:Nat)(i:BI):E.set n i n=some i:=by simp[Env.set]
theorem zUP(E:Env){n k:Nat}(i:BI)(h:k≠n):E.set n i k=E k:=by simp[Env.set,h]
theorem zAe{b:SBlk}(h:b.own=true):b.live=true:=by cases b<;>first|rfl|cases h
theorem zUY{E:Env}{F:SF}{w:World}(h:HRel E F w){nx:Nat}(hE:E nx=none)(o:Obj)(i:BI)(b:SBlk)(hib:i.b=w.heap.size)
  (hb:BRel (E.set nx i) (w.alloc o) nx b):StepR E F w (E.set nx i) (F.set nx b) (w.alloc o):=by
 have hle:=zUV (i:=i) hE;have hkeep:∀k,k<w.heap.size→(w.alloc o).heap[k]?=w.heap[k]?:=fun k hk=>RowKit.Below.heap_alloc w o k hk
 have hold:∀n c j,F n=some c→c.live=true→E n=some j→j.nil=false→j.b<w.heap.size:=fun n c j hf hl hj hn=>(h.blk n c hf).lt hl hj hn
 refine ⟨hle,⟨?_,?_⟩,rfl,rfl,rfl,by simp,fun k hk _=>hkeep k hk,?_⟩
 ·intro n c hf;unfold SF.set at hf;split at hf;·rename_i hn;subst hn;injection hf with hf;subst hf;exact hb
  ·rename_i hn;by_cases hl:c.live=true;rotate_left
   ·cases c<;>first|trivial|simp[SBlk.live]at hl
   refine (h.blk n c hf).mono hle fun j hj hjn=>?_
   exact hkeep _ (hold n c j hf hl hj hjn)
 ·intro n m c d j k hf hg hnm ho hl hj hk hjn hkn;unfold SF.set at hf hg;by_cases hn:n=nx
  ·subst hn;rw[zUO]at hj;injection hj with hj;subst hj;rw[if_neg (fun e=>hnm e.symm)]at hg;rw[zUP E _ (fun e=>hnm e.symm)]at hk;have:=hold m d k hg hl hk hkn;omega
  ·rw[if_neg hn]at hf;rw[zUP E _ hn]at hj;have h1:=hold n c j hf (zAe ho) hj hjn;by_cases hm:m=nx
   ·subst hm;rw[zUO]at hk;injection hk with hk;subst hk;omega
   ·rw[if_neg hm]at hg;rw[zUP E _ hm]at hk;exact h.sep n m c d j k hf hg hnm ho hl hj hk hjn hkn
 ·intro n c j hf ho hj hjn;unfold SF.set at hf;by_cases hn:n=nx
  ·subst hn;rw[zUO]at hj;injection hj with hj;subst hj;exact .inl (by omega)
  ·rw[if_neg hn]at hf;rw[zUP E _ hn]at hj;exact .inr ⟨n,c,j,hf,ho,hj,hjn,rfl⟩
def zF7(cs:Array Value):Nat→List Value→Array Value
 |_,[]=>cs
 |o,v::r=>zF7 (cs.setIfInBounds o v) (o+1) r
theorem zAw:∀(vs:List Value) (cs:Array Value) (o:Nat),(zF7 cs o vs).size=cs.size
 | [],_,_=>rfl
 |v::r,cs,o=>by simp[zF7,zAw r]
theorem zA5:∀(vs:List Value) (cs:Array Value) (o j:Nat),o+vs.length≤cs.size→
  (zF7 cs o vs)[j]?=if o≤j∧j<o+vs.length then vs[j-o]? else cs[j]?
 | [],cs,o,j,_=>by
  simp only[zF7,wW];rw[if_neg (by omega)]
 | v::r,cs,o,j,h=>by
  simp only[vC]at h ⊢;rw[zF7,zA5 r _ _ _ (by simp;omega)];by_cases h1:o+1≤j∧j<o+1+r.length;·rw[if_pos h1,if_pos (by omega),show j-o=(j-(o+1))+1 by omega,List.getElem?_cons_succ]
  ·rw[if_neg h1,Array.getElem?_setIfInBounds];by_cases h2:o=j
   ·subst h2;rw[if_pos rfl,if_pos (by omega),if_pos (by omega)];simp
   ·rw[if_neg h2,if_neg (by omega)]
theorem zAm(b:Nat)(elem:TypeId)(fz:Nat×Nat):∀(vs:List Value) (o:Nat) (cs:Array Value) (w:World),w.heap[b]?=some (.cells cs elem fz)→
  (w.setCells b o vs).heap[b]?=some (.cells (zF7 cs o vs) elem fz)
 | [],_,_,_,h=>h
 | v::r,o,cs,w,h=>by
  have h1:(w.setCell ⟨b,o,none⟩ v).heap[b]?=some (.cells (cs.setIfInBounds o v) elem fz):=by
   simp[World.setCell,qQ,h]
  exact zAm b elem fz r (o+1) _ _ h1
theorem zAW(b k:Nat)(hk:k≠b):∀(vs:List Value) (o:Nat) (w:World),(w.setCells b o vs).heap[k]?=w.heap[k]?
 | [],_,_=>rfl
 |v::r,o,w=>(zAW b k hk r (o+1) _).trans (RowKit.Below.heap_setCell w ⟨b,o,none⟩ v k hk)
theorem size_setCells(b:Nat):∀(vs:List Value) (o:Nat) (w:World),(w.setCells b o vs).heap.size=w.heap.size
 | [],_,_=>rfl
 |v::r,o,w=>(size_setCells b r (o+1) _).trans (by simp[World.setCell])
theorem os_setCells(b:Nat):∀(vs:List Value) (o:Nat) (w:World),(w.setCells b o vs).os=w.os∧(w.setCells b o vs).tape=w.tape∧(w.setCells b o vs).output=w.output
 | [],_,_=>⟨rfl,rfl,rfl⟩
 |v::r,o,w=>os_setCells b r (o+1) (w.setCell ⟨b,o,none⟩ v)
def putAt(row:List Value)(c:Nat)(vs:List Value):List Value:=row.take c++vs++row.drop (c+vs.length)
theorem zBQ(row:List Value)(c:Nat)(vs:List Value)(h:c+vs.length≤row.length):(putAt row c vs).length=row.length:=by
 simp[putAt];omega
theorem zCr(row:List Value)(c:Nat)(vs:List Value)(h:c+vs.length≤row.length)(j:Nat):
  (putAt row c vs)[j]?=if c≤j∧j<c+vs.length then vs[j-c]? else row[j]?:=by
 unfold putAt;have hl:(row.take c).length=c:=by simp;omega
 by_cases h1:j<c
 ·rw[if_neg (by omega),vO,wO (by omega),uB];simp[h1]
 ·by_cases h2:j<c+vs.length;·rw[if_pos (by omega),vO,wZ (by omega),hl,wO (by omega)]
  ·rw[if_neg (by omega),wZ (by simp;omega),vX];congr 1;simp;omega
theorem addr_add(b o k:Nat):(⟨b,o,none⟩:Addr).add k=⟨b,o+k,none⟩:=by unfold Addr.add;split<;>simp_all
theorem zBd{E:Env}:∀{l l':List Value},dvl E l=some l'→l'.length=l.length∧∀(j:Nat) (v:Value),l[j]?=some v→∃v',dv E v=some v'∧l'[j]?=some v'
 | [],l',h=>by simp[dvl]at h;subst h;simp
 |v::l,l',h=>by
  simp only[dvl,zM,zV]at h;obtain ⟨v1,h1,l1,h2,rfl⟩:=h;obtain ⟨hl,hg⟩:=zBd h2;refine ⟨by simp[hl],fun j u hu=>?_⟩;cases j with
  |zero=>simp at hu;subst hu;exact ⟨v1,h1,by simp⟩
  |succ j=>simp at hu;obtain ⟨u',a1,a2⟩:=hg j u hu;exact ⟨u',a1,by simpa using a2⟩
theorem zKS{E:Env}:∀(l:List Value),(∀v∈l,∃v',dv E v=some v')→∃l',dvl E l=some l'
 | [],_=>⟨[],rfl⟩
 |v::l,h=>by
  obtain ⟨v',h1⟩:=h v (by simp);obtain ⟨l',h2⟩:=zKS l (fun u hu=>h u (by simp[hu]));exact ⟨v'::l',by simp[dvl,h1,h2]⟩
theorem RowsRel.cell{E:Env}{w:World}{i:BI}{elem:TypeId}{wd:Nat}{own exact:Bool}{rs:List (List Value)}(h:RowsRel E w i elem wd own exact rs)
  {r c:Nat}{row:List Value}{v:Value}(hr:rs[r]?=some row)(hc:row[c]?=some v):∃v',dv E v=some v'∧v'.oneCell'=true∧w.cell? ⟨i.b,i.o+(r*wd+c),none⟩=some v':=by
 obtain ⟨cs,fz,h1,_,_,h4⟩:=h.cells;obtain ⟨v',a,a1,b⟩:=h4 r row c v hr hc;exact ⟨v',a,a1,by simp[World.cell?,h1,b]⟩
theorem RowsRel.load{E:Env}{w:World}{i:BI}{elem:TypeId}{wd:Nat}{own exact:Bool}{rs:List (List Value)}(P:Program)(h:RowsRel E w i elem wd own exact rs)
  {r c k:Nat}{row:List Value}(hr:rs[r]?=some row)(hk:c+k≤wd):
  ∃vs,dvl E ((row.drop c).take k)=some vs∧vs.length=k∧(∀v∈vs,v.oneCell'=true)∧(loadCells ⟨i.b,i.o+(r*wd+c),none⟩ k).run P w= .ok vs.toArray w:=by
 have hlen:row.length=wd:=h.len row (zO hr);have hl:((row.drop c).take k).length=k:=by simp;omega
 obtain ⟨vs,hvs⟩:=zKS (E:=E) ((row.drop c).take k) (fun v hv=>by
  have hm:=vR hv;obtain ⟨j,hj⟩:=vW hm;rw[vX]at hj;obtain ⟨v',h1,_,_⟩:=h.cell hr hj;exact ⟨v',h1⟩)
 obtain ⟨hvl,hvg⟩:=zBd hvs;have key:∀(j:Nat) (v:Value),vs[j]?=some v→v.oneCell'=true∧w.cell? ⟨i.b,i.o+(r*wd+c)+j,none⟩=some v:=by
  intro j v hv;have hj:j<vs.length:=by
   rcases wT j vs.length with h|h;·exact h
   ·rw[uA h]at hv;cases hv
  have hrow:row[c+j]?=some (row[c+j]'(by omega)):=zS (by omega);have hsub:((row.drop c).take k)[j]?=some (row[c+j]'(by omega)):=by
   rw[uB,if_pos (by omega),vX,hrow]
  obtain ⟨v1,a1,a2⟩:=hvg j _ hsub;obtain ⟨v2,b1,b0,b2⟩:=h.cell hr hrow;rw[a1]at b1;injection b1 with b1;subst b1;rw[hv]at a2;injection a2 with a2;subst a2;exact ⟨b0,by rw[zA,zA];exact b2⟩
 refine ⟨vs,hvs,by omega,fun v hv=>?_,?_⟩
 ·obtain ⟨j,hj⟩:=vW hv;exact (key j v hj).1
 have hk':k=vs.length:=by omega
 rw[hk'];refine run_loadCells_list w _ vs fun j v hv=>?_
 rw[addr_add];exact (key j v hv).2
theorem zD7{r r' c c' wd:Nat}(hc:c<wd)(hc':c'<wd)(h:r*wd+c=r'*wd+c'):r=r'∧c=c':=by
 have h1:(r*wd+c)/wd=r:=by rw[vL,Nat.mul_add_div (by omega)];simp[Nat.div_eq_of_lt hc]
 have h2:(r'*wd+c')/wd=r':=by rw[vL,Nat.mul_add_div (by omega)];simp[Nat.div_eq_of_lt hc']
 have hr:r=r':=by rw[←h1,h,h2]
 subst hr;exact ⟨rfl,by omega⟩
theorem StepR.store{E:Env}{F:SF}{w:World}(P:Program)(h:HRel E F w){n:Nat}{elem:TypeId}{wd:Nat}{exact:Bool}{rs:List (List Value)}{i:BI}
  (hF:F n=some (.rows elem wd true exact rs))(hi:E n=some i)(hnil:i.nil=false){r c:Nat}{row vs vs':List Value}(hr:rs[r]?=some row)(hc:c+vs.length≤wd)
  (hvs:dvl E vs=some vs')(h1:∀v∈vs',v.oneCell'=true):
  ∃w',(storeCells ⟨i.b,i.o+(r*wd+c),none⟩ vs').run P w= .ok () w'∧StepR E F w E (F.set n (.rows elem wd true exact (rs.set r (putAt row c vs)))) w':=by
 obtain ⟨j,hj,hor⟩:=h.blk n _ hF;rw[hi]at hj;injection hj with hj;subst hj;rcases hor with ⟨hn,_⟩|⟨_,hR⟩;·rw[hnil]at hn;cases hn
 obtain ⟨hvl,hvg⟩:=zBd hvs;obtain ⟨cs,fz,b1,b2,b3,b4⟩:=hR.cells;have hrl:r<rs.length:=by
  rcases wT r rs.length with h|h;·exact h
  ·rw[uA h]at hr;cases hr
 have hlen:row.length=wd:=hR.len row (zO hr);have hrn:(r+1)*wd≤i.n*wd:=wN _ (by have:=hR.le;omega);have hexp:(r+1)*wd=r*wd+wd:=wV r wd;have hrun:=run_storeCells_cells (P:=P) i.b (i.o+(r*wd+c)) vs' 0 w
  (fun j hj=>by
   simp only[World.cell?,b1,vM,wC,if_false];rw[qH (by omega)];rfl)
  (fun j hj=>by
   have:=b3 rfl (i.o+(r*wd+c)+0+j) (by omega) (by omega);simp only[World.frozen?,b1];simpa using this) h1
 have hheap:=zAm i.b elem fz vs' (i.o+(r*wd+c)+0) cs w b1;have hother:=fun k (hk:k≠i.b)=>zAW i.b k hk vs' (i.o+(r*wd+c)+0) w
 have hsize:=size_setCells i.b vs' (i.o+(r*wd+c)+0) w;obtain ⟨hos,htape,hout⟩:=os_setCells i.b vs' (i.o+(r*wd+c)+0) w;generalize w.setCells i.b (i.o+(r*wd+c)+0) vs'=w' at *;refine ⟨w',hrun,Env.le.refl _,⟨?_,?_⟩,hos,htape,hout,by omega,?_,?_⟩
 ·intro m b hm;unfold SF.set at hm;split at hm
  ·rename_i hmn;subst hmn;injection hm with hm;subst hm;refine ⟨i,hi,.inr ⟨hnil,hR.wd_eq,hR.wd_pos,?_,by simpa using hR.le,by simpa using hR.ex,hR.cap,zF7 cs (i.o+(r*wd+c)+0) vs',fz,hheap,by rw[zAw];exact b2,b3,?_⟩⟩
   ·intro x hx;rcases qW hx with hx|rfl;·exact hR.len x hx
    ·rw[zBQ _ _ _ (by omega)];exact hlen
   ·intro r' row' c' v hr' hc';rw[zA5 _ _ _ _ (by omega)];have hlen':row'.length=wd:=by
     have hx:=zO hr';rcases qW hx with hx|hx;·exact hR.len _ hx
     ·rw[hx,zBQ _ _ _ (by omega)];exact hlen
    have hc'':c'<wd:=by
     rcases wT c' row'.length with h|h;·omega
     ·rw[uA h]at hc';cases hc'
    by_cases hrr:r=r'
    ·subst hrr;rw[List.getElem?_set_self hrl]at hr';injection hr' with hr';subst hr';rw[zCr _ _ _ (by omega)]at hc';by_cases hin:c≤c'∧c'<c+vs.length
     ·rw[if_pos hin]at hc';rw[if_pos (by omega)];obtain ⟨v',a1,a2⟩:=hvg _ _ hc';exact ⟨v',a1,h1 v' (zO a2),by rw[show i.o+(r*wd+c')-(i.o+(r*wd+c)+0)=c'-c by omega];exact a2⟩
     ·rw[if_neg hin]at hc';rw[if_neg (by omega)];exact b4 r row c' v hr hc'
    ·rw[List.getElem?_set_ne hrr]at hr';have hout:¬(i.o+(r*wd+c)+0≤i.o+(r'*wd+c')∧i.o+(r'*wd+c')<i.o+(r*wd+c)+0+vs'.length):=by
      rintro ⟨q1,q2⟩
      obtain ⟨x,hx⟩:∃x,r'*wd+c'=r*wd+(c+x):=⟨r'*wd+c'-(r*wd+c),by omega⟩;have hx2:c+x<wd:=by omega
      exact hrr (zD7 hc'' hx2 hx).1.symm
     rw[if_neg hout];exact b4 r' row' c' v hr' hc'
  ·rename_i hmn;by_cases hl:b.live=true;rotate_left
   ·cases b<;>first|trivial|simp[SBlk.live]at hl
   refine (h.blk m b hm).mono (Env.le.refl _) fun j hj hjn=>hother _ ?_
   exact fun e=>h.sep n m _ b i j hF hm (fun e=>hmn e.symm) rfl hl hi hj hnil hjn e.symm
 ·intro m k b d a q hm hk hmk hb hd ha hq han hqn;unfold SF.set at hm hk;by_cases hmn:m=n
  ·subst hmn;rw[if_neg (fun e=>hmk e.symm)]at hk;exact h.sep m k _ d a q hF hk hmk rfl hd ha hq han hqn
  ·rw[if_neg hmn]at hm;by_cases hkn:k=n
   ·subst hkn;exact h.sep m k b _ a q hm hF hmk hb rfl ha hq han hqn
   ·rw[if_neg hkn]at hk;exact h.sep m k b d a q hm hk hmk hb hd ha hq han hqn
 ·intro k hk hno;exact hother k (fun e=>hno n _ i hF rfl hi hnil e.symm)
 ·intro m b q hm hb hq hqn;unfold SF.set at hm;by_cases hmn:m=n
  ·subst hmn;exact .inr ⟨m,_,q,hF,rfl,hq,hqn,rfl⟩
  ·rw[if_neg hmn]at hm;exact .inr ⟨m,b,q,hm,hb,hq,hqn,rfl⟩
inductive TK where
 |int (k:IntKind)|bool|str|slice (elem:TypeId)|struct (fs:List (Nat×TypeId))|array (len:Nat) (elem:TypeId)
 |ptr (elem:TypeId)|map (k e:TypeId)|func|iface|uptr|other
def tk:TypeDesc→TK
 | .bool=>.bool
 | .int k=>.int k
 | .string=>.str
 | .slice e=>.slice e
 | .struct fs=>.struct (fs.toList.map fun f=>(f.offset,f.type))
 | .array n e=>.array n e
 | .pointer e=>.ptr e
 | .map k e=>.map k e
 | .func _ _ _=>.func
 | .interface _=>.iface
 | .unsafePointer=>.uptr
 |_=>.other
mutual
def plain:Value→Bool
 | .pointer (some _)=>false
 | .slice (some _) _ _=>false
 | .map (some _)=>false
 | .func f x y=>zGJ f&&zGY x&&zGY y
 | .iface _ v=>plain v
 | .agg cs=>zGY cs&&cs.all (·.oneCell')
 | .tuple cs=>zGY cs
 | .chan _=>false
 |_=>true
def zGY:Array Value→Bool
 |⟨l⟩=>zHb l
def zHb:List Value→Bool
 | []=>true
 |v::l=>plain v&&zHb l
end
mutual
theorem zD8(E:Env):∀(v:Value),plain v=true→dv E v=some v
 | .pointer (some a),h=>by simp[plain]at h
 | .pointer none,_=>by simp[dv]
 | .slice (some a) l c,h=>by simp[plain]at h
 | .slice none l c,_=>by simp[dv]
 | .map (some r),h=>by simp[plain]at h
 | .map none,_=>by simp[dv]
 | .func f x y,h=>by
  simp only[plain,zC]at h;simp[dv,zSU h.1.1,zEw E x h.1.2,zEw E y h.2]
 | .iface t v,h=>by
  simp only[plain]at h;simp[dv,zD8 E v h]
 | .agg cs,h=>by
  simp only[plain,zC]at h;simp only[dv,zEw E cs h.1,Option.bind_some];rw[if_pos h.2]
 | .tuple cs,h=>by
  simp only[plain]at h;simp[dv,zEw E cs h]
 | .chan _,h=>by simp[plain]at h
 | .bool _,_=>by simp[dv]
 | .int _ _,_=>by simp[dv]
 | .float _ _,_=>by simp[dv]
 | .complex _ _ _,_=>by simp[dv]
 | .string _,_=>by simp[dv]
 | .nilFunc,_=>by simp[dv]
 | .nilIface,_=>by simp[dv]
theorem zEw(E:Env):∀(v:Array Value),zGY v=true→dva E v=some v
 |⟨l⟩,h=>by simp only[zGY]at h;simp[dva,zCs E l h]
theorem zCs(E:Env):∀(v:List Value),zHb v=true→dvl E v=some v
 | [],_=>by simp[dvl]
 |v::l,h=>by
  simp only[zHb,zC]at h;simp[dvl,zD8 E v h.1,zCs E l h.2]
end
structure TI where
 k:TK
 zero:Value
 size:Nat
 bytes:Nat
 eq:Bool:=false
def cellsOf:Value→List Value
 | .agg ⟨l⟩=>l
 |v=>[v]
theorem zAD(v:Value):v.cells.toList=cellsOf v:=by cases v<;>rfl
structure TOk (P:Program) (t:TypeId) (i:TI):Prop where
 u:(P.underlying t).map tk=some i.k
 inf:(P.info? t).map (fun x=>(x.zero,x.size,x.bytes))=some (some i.zero,i.size,i.bytes)
 pl:zHb (cellsOf i.zero)=true
 one:(cellsOf i.zero).all (·.oneCell')=true
 sz:(cellsOf i.zero).length=i.size
 eqok:i.eq=true→P.stoodInHeld t=false∧P.eqGuardType P.depth t=false∧(match P.underlying t with|some (.struct fs)=>fs.toList.all (fun f=>f.name != "_")|_=>false)=true
 agg:(match i.k with| .struct _=>true| .array _ _=>true|_=>false)=(match i.zero with| .agg _=>true|_=>false)
abbrev Tys:=List (TypeId×TI)
noncomputable def Tys.get(T:Tys)(t:TypeId):Option TI:=List.rec none (fun p _ ih=>match Nat.beq p.1 t with|true=>some p.2|false=>ih) T
def Tys.Ok(P:Program)(T:Tys):Prop:=∀t i,T.get t=some i→TOk P t i
section
variable {P : Program} {t : TypeId} {i : TI}
theorem TOk.desc(h:TOk P t i):∃d,P.underlying t=some d∧tk d=i.k:=by
 have:=h.u;cases hd:P.underlying t with
 |none=>simp[hd]at this
 |some d=>simp[hd]at this;exact ⟨d,rfl,this⟩
theorem TOk.info(h:TOk P t i):∃x,P.info? t=some x∧x.zero=some i.zero∧x.size=i.size∧x.bytes=i.bytes:=by
 have:=h.inf;cases hd:P.info? t with
 |none=>simp[hd]at this
 |some d=>simp[hd]at this;exact ⟨d,rfl,this.1,this.2.1,this.2.2⟩
theorem TOk.run_underlying(h:TOk P t i)(w:World):∃d,(underlying t).run P w= .ok d w∧tk d=i.k:=by
 obtain ⟨d,h1,h2⟩:=h.desc;exact ⟨d,by simp[underlying,program,Sem.run,h1,zB],h2⟩
theorem TOk.run_sizeOf(h:TOk P t i)(w:World):(sizeOf t).run P w= .ok i.size w:=by
 obtain ⟨x,h1,_,h3,_⟩:=h.info;simp[sizeOf,typeInfo,h1,h3]
theorem TOk.run_zeroValue(h:TOk P t i)(w:World):(zeroValue t).run P w= .ok i.zero w:=by
 obtain ⟨x,h1,h2,_,_⟩:=h.info;simp[zeroValue,typeInfo,h1,h2]
end
def zBe:TK→Bool
 | .struct _=>true
 | .array _ _=>true
 |_=>false
theorem TOk.run_isAgg{P:Program}{t:TypeId}{i:TI}(h:TOk P t i)(w:World):(isAgg t).run P w= .ok (zBe i.k) w:=by
 obtain ⟨d,h1,h2⟩:=h.run_underlying w;unfold isAgg;rw[zB,h1,←h2];cases d<;>rfl
structure Res where
 vc:Prop
 v:Value
 upd:List (Nat×SBlk)
 rd:List Nat
def zBp(i:TI):Bool:=zBe i.k
noncomputable def zBq(T:Tys)(F:SF)(t:TypeId):Value→Option Res
 | .pointer (some ⟨n,r,some c⟩)=>
  match T.get t,F n with
  | some i,some (.rows _ wd _ _ rs)=>
   if zBp i then
    some {vc:=r<rs.length∧c+i.size≤wd,v:=.agg (if c==0&&i.size==wd then rs.getD r [] else ((rs.getD r []).drop c).take i.size).toArray,upd:=[],rd:=[n]}
   else some {vc:=r<rs.length∧c<wd,v:=(rs.getD r []).getD c undef,upd:=[],rd:=[n]}
  |_,_=>none
 |_=>none
def zFQ:Value→Bool
 | .tuple _=>false
 |_=>true
noncomputable def zCB(T:Tys)(F:SF)(t:TypeId)(p v:Value):Option Res:=
 match p with
 | .pointer (some ⟨n,r,some c⟩)=>
  match T.get t,F n with
  | some i,some (.rows e wd true ex rs)=>
   if zFQ v then
    some {vc:=r<rs.length∧c+i.size≤wd∧(cellsOf v).length=i.size,v:=undef,upd:=[(n,.rows e wd true ex (rs.set r (putAt (rs.getD r []) c (cellsOf v))))],rd:=[n]}
   else none
  |_,_=>none
 |_=>none
noncomputable def zCT(T:Tys)(nx:Nat)(t:TypeId)(v:Option Value):Option Res:=
 match T.get t with
 |some i=>
  match v with
  |none=>if i.size==0 then none else some {vc:=True,v:=.pointer (some ⟨nx,0,some 0⟩),upd:=[(nx,.rows t i.size true true [cellsOf i.zero])],rd:=[]}
  |some v=>if i.size==0|| !zFQ v then none else some {vc:=(cellsOf v).length=i.size,v:=.pointer (some ⟨nx,0,some 0⟩),upd:=[(nx,.rows t i.size true true [cellsOf v])],rd:=[]}
 |none=>none
end Go.Sx
end
section
namespace Go.Tx
structure Nm where
 l:Nat
 i:Nat
 deriving DecidableEq,Inhabited
inductive PV where
 |bool (b:Bool)
 |int (k:IntKind) (n:Int)
 |str (l:List UInt8)
 |nilP|nilS|nilM|nilF|nilI
 |ptr (n:Nm) (r c:Nat)
 |sl (n:Nm) (r l:Nat)
 |mp (n:Nm)
 |fp (wd:Nat) (rs:List (List PV)) (r c:Nat)
 |fs (wd:Nat) (rs:List (List PV))
 |fm (ks vs:List PV)
 |fn (f:Fn) (x y:List PV)
 |ifc (t:TypeId) (v:PV)
 |agg (l:List PV)
 |tup (l:List PV)
 deriving Inhabited
structure BI where
 b:Nat
 o:Nat
 wd:Nat
 n:Nat
 z:Bool
 za:Option Addr
abbrev Env:=Nm→Option BI
def Env.no:Env:=fun _=>none
def Env.le(E E':Env):Prop:=∀k i,E k=some i→E' k=some i
theorem Env.le.refl(E:Env):E.le E:=fun _ _ h=>h
theorem Env.le.trans{E E' E'':Env}(h:E.le E')(h':E'.le E''):E.le E'':=fun k i hk=>h' k i (h k i hk)
theorem zUT(E:Env):Env.no.le E:=fun _ _ h=>by cases h
def zF8(l:List UInt8):Value:=.string ⟨l.toArray⟩
def zJa(i:BI)(r l:Nat):Nat:=if l=0∧r=i.n then 0 else r*i.wd
theorem zBf(i:BI)(l:Nat):zJa i 0 l=0:=by unfold zJa;split<;>simp
theorem zJe{i:BI}{r:Nat}(l:Nat)(h:r<i.n):zJa i r l=r*i.wd:=by unfold zJa;rw[if_neg (by omega)]
theorem zDF{i:BI}{r l:Nat}(h:0<l):zJa i r l=r*i.wd:=by unfold zJa;rw[if_neg (by omega)]
mutual
def VR(w:World)(Z:Nat→Prop):Env→PV→Value→Prop
 |_,.bool b,v=>v= .bool b
 |_,.int k n,v=>v= .int k n
 |_,.str l,v=>v=zF8 l
 |_,.nilP,v=>v= .pointer none
 |_,.nilS,v=>v= .slice none 0 0
 |_,.nilM,v=>v= .map none
 |_,.nilF,v=>v= .nilFunc
 |_,.nilI,v=>v= .nilIface
 |E,.ptr n r c,v=>∃i,E n=some i∧i.z=false∧v= .pointer (some ⟨i.b,i.o+(r*i.wd+c),none⟩)
 |E,.sl n r l,v=>∃i,E n=some i∧((i.z=true∧l=0∧v= .slice i.za 0 0)∨(i.z=false∧v= .slice (some ⟨i.b,i.o+zJa i r l,none⟩) l (i.n-r)))
 |E,.mp n,v=>∃i,E n=some i∧i.z=false∧v= .map (some i.b)
 |_,.fp wd rs r c,v=>∃b o cs e fz,v= .pointer (some ⟨b,o+(r*wd+c),none⟩)∧Z b∧w.heap[b]?=some (.cells cs e fz)∧0<wd∧(∀row∈rs,row.length=wd)∧VRr w Z Env.no rs o cs
 | _,.fs wd rs,v=>∃a cap,v= .slice a rs.length cap∧rs.length≤cap∧cap≤maxLen∧0<wd∧(∀row∈rs,row.length=wd)∧
   (rs=[]∨∃b o cs e fz,a=some ⟨b,o,none⟩∧Z b∧w.heap[b]?=some (.cells cs e fz)∧VRr w Z Env.no rs o cs)
 |_,.fm ks vs,v=>∃r ents clk,v= .map (some r)∧Z r∧w.heap[r]?=some (.map ents clk)∧VRl w Z Env.no ks (ents.toList.map (·.key))∧VRl w Z Env.no vs (ents.toList.map (·.val))
 |E,.fn f x y,v=>∃x' y',v= .func f x'.toArray y'.toArray∧VRl w Z E x x'∧VRl w Z E y y'
 |E,.ifc t u,v=>∃u',v= .iface t u'∧VR w Z E u u'
 |E,.agg l,v=>∃l':List Value,v= .agg l'.toArray∧(∀u∈l',u.oneCell'=true)∧VRl w Z E l l'
 |E,.tup l,v=>∃l':List Value,v= .tuple l'.toArray∧VRl w Z E l l'
def VRl(w:World)(Z:Nat→Prop):Env→List PV→List Value→Prop
 |_,[],l'=>l'=[]
 |E,x::l,l'=>∃v t,l'=v::t∧VR w Z E x v∧VRl w Z E l t
def VRc(w:World)(Z:Nat→Prop):Env→List PV→Nat→Array Value→Prop
 |_,[],_,_=>True
 |E,x::l,o,cs=>(∃v,cs[o]?=some v∧v.oneCell'=true∧VR w Z E x v)∧VRc w Z E l (o+1) cs
def VRr(w:World)(Z:Nat→Prop):Env→List (List PV)→Nat→Array Value→Prop
 |_,[],_,_=>True
 |E,row::rs,o,cs=>VRc w Z E row o cs∧VRr w Z E rs (o+row.length) cs
end
structure Ext (E:Env) (w:World) (Z:Nat→Prop) (E':Env) (w':World) (Z':Nat→Prop):Prop where
 le:E.le E'
 zone:∀b,Z b→Z' b
 heap:∀b,Z b→w'.heap[b]?=w.heap[b]?
theorem Ext.no{E E':Env}{w w':World}{Z Z':Nat→Prop}(h:Ext E w Z E' w' Z'):Ext Env.no w Z Env.no w' Z':=⟨Env.le.refl _,h.zone,h.heap⟩
mutual
theorem VR.mono{w w':World}{Z Z':Nat→Prop}:∀{E E':Env},Ext E w Z E' w' Z'→∀(x:PV) (v:Value),VR w Z E x v→VR w' Z' E' x v
 |E,E',h,.bool _,v,hv=>by simpa[VR] using hv
 |E,E',h,.int _ _,v,hv=>by simpa[VR] using hv
 |E,E',h,.str _,v,hv=>by simpa[VR] using hv
 |E,E',h,.nilP,v,hv=>by simpa[VR] using hv
 |E,E',h,.nilS,v,hv=>by simpa[VR] using hv
 |E,E',h,.nilM,v,hv=>by simpa[VR] using hv
 |E,E',h,.nilF,v,hv=>by simpa[VR] using hv
 |E,E',h,.nilI,v,hv=>by simpa[VR] using hv
 |E,E',h,.ptr n r c,v,hv=>by
  simp only[VR]at hv ⊢;obtain ⟨i,h1,h2⟩:=hv;exact ⟨i,h.le _ _ h1,h2⟩
 |E,E',h,.sl n r l,v,hv=>by
  simp only[VR]at hv ⊢;obtain ⟨i,h1,h2⟩:=hv;exact ⟨i,h.le _ _ h1,h2⟩
 |E,E',h,.mp n,v,hv=>by
  simp only[VR]at hv ⊢;obtain ⟨i,h1,h2⟩:=hv;exact ⟨i,h.le _ _ h1,h2⟩
 |E,E',h,.fp wd rs r c,v,hv=>by
  simp only[VR]at hv ⊢;obtain ⟨b,o,cs,e,fz,h1,h2,h3,h4,h5,h6⟩:=hv;exact ⟨b,o,cs,e,fz,h1,h.zone _ h2,(h.heap _ h2).trans h3,h4,h5,VRr.mono h.no rs o cs h6⟩
 |E,E',h,.fs wd rs,v,hv=>by
  simp only[VR]at hv ⊢;obtain ⟨a,cap,h1,h2,h2b,h3,h4,h5⟩:=hv;refine ⟨a,cap,h1,h2,h2b,h3,h4,h5.imp id ?_⟩
  rintro ⟨b,o,cs,e,fz,q1,q2,q3,q4⟩
  exact ⟨b,o,cs,e,fz,q1,h.zone _ q2,(h.heap _ q2).trans q3,VRr.mono h.no rs o cs q4⟩
 |E,E',h,.fm ks vs,v,hv=>by
  simp only[VR]at hv ⊢;obtain ⟨r,ents,clk,h1,h2,h3,h4,h5⟩:=hv;exact ⟨r,ents,clk,h1,h.zone _ h2,(h.heap _ h2).trans h3,VRl.mono h.no ks _ h4,VRl.mono h.no vs _ h5⟩
 |E,E',h,.fn f x y,v,hv=>by
  simp only[VR]at hv ⊢;obtain ⟨x',y',h1,h2,h3⟩:=hv;exact ⟨x',y',h1,VRl.mono h x _ h2,VRl.mono h y _ h3⟩
 |E,E',h,.ifc t u,v,hv=>by
  simp only[VR]at hv ⊢;obtain ⟨u',h1,h2⟩:=hv;exact ⟨u',h1,VR.mono h u _ h2⟩
 |E,E',h,.agg l,v,hv=>by
  simp only[VR]at hv ⊢;obtain ⟨l',h1,h2,h3⟩:=hv;exact ⟨l',h1,h2,VRl.mono h l _ h3⟩
 |E,E',h,.tup l,v,hv=>by
  simp only[VR]at hv ⊢;obtain ⟨l',h1,h3⟩:=hv;exact ⟨l',h1,VRl.mono h l _ h3⟩
theorem VRl.mono{w w':World}{Z Z':Nat→Prop}:∀{E E':Env},Ext E w Z E' w' Z'→∀(l:List PV) (l':List Value),VRl w Z E l l'→VRl w' Z' E' l l'
 |E,E',h,[],l',hv=>by simpa[VRl] using hv
 |E,E',h,x::l,l',hv=>by
  simp only[VRl]at hv ⊢;obtain ⟨v,t,h1,h2,h3⟩:=hv;exact ⟨v,t,h1,VR.mono h x v h2,VRl.mono h l t h3⟩
theorem VRc.mono{w w':World}{Z Z':Nat→Prop}:∀{E E':Env},Ext E w Z E' w' Z'→∀(l:List PV) (o:Nat) (cs:Array Value),VRc w Z E l o cs→VRc w' Z' E' l o cs
 |E,E',h,[],o,cs,hv=>by simp[VRc]
 |E,E',h,x::l,o,cs,hv=>by
  simp only[VRc]at hv ⊢;obtain ⟨⟨v,h1,h2,h3⟩,h4⟩:=hv;exact ⟨⟨v,h1,h2,VR.mono h x v h3⟩,VRc.mono h l _ _ h4⟩
theorem VRr.mono{w w':World}{Z Z':Nat→Prop}:∀{E E':Env},Ext E w Z E' w' Z'→∀(rs:List (List PV)) (o:Nat) (cs:Array Value),VRr w Z E rs o cs→VRr w' Z' E' rs o cs
 |E,E',h,[],o,cs,hv=>by simp[VRr]
 |E,E',h,row::rs,o,cs,hv=>by
  simp only[VRr]at hv ⊢;exact ⟨VRc.mono h row _ _ hv.1,VRr.mono h rs _ _ hv.2⟩
end
theorem VRl.get{w:World}{Z:Nat→Prop}{E:Env}:∀{l:List PV} {l':List Value},VRl w Z E l l'→l'.length=l.length∧∀(j:Nat) (x:PV),l[j]?=some x→∃v,l'[j]?=some v∧VR w Z E x v
 | [],l',h=>by simp only[VRl]at h;subst h;simp
 |x::l,l',h=>by
  simp only[VRl]at h;obtain ⟨v,t,rfl,h2,h3⟩:=h;obtain ⟨a1,a2⟩:=VRl.get h3;refine ⟨by simp[a1],fun j y hy=>?_⟩;cases j with
  |zero=>simp at hy;subst hy;exact ⟨v,by simp,h2⟩
  |succ j=>simp at hy;simpa using a2 j y hy
theorem VRl.of{w:World}{Z:Nat→Prop}{E:Env}:∀{l:List PV} {l':List Value},l'.length=l.length→(∀(j:Nat) (x:PV) (v:Value),l[j]?=some x→l'[j]?=some v→VR w Z E x v)→VRl w Z E l l'
 | [],l',h,_=>by simp only[VRl];exact vI (by simpa using h)
 |x::l,[],h,_=>by simp at h
 |x::l,v::t,h,hg=>by
  simp only[VRl];exact ⟨v,t,rfl,hg 0 x v (by simp) (by simp),VRl.of (by simpa using h) fun j y u hy hu=>hg (j+1) y u (by simpa using hy) (by simpa using hu)⟩
theorem VRl.append{w:World}{Z:Nat→Prop}{E:Env}:∀{l:List PV} {l':List Value} {m:List PV} {m':List Value},VRl w Z E l l'→VRl w Z E m m'→VRl w Z E (l++m) (l'++m')
 | [],l',m,m',h,k=>by simp only[VRl]at h;subst h;simpa using k
 |x::l,l',m,m',h,k=>by
  simp only[VRl]at h;obtain ⟨v,t,rfl,h2,h3⟩:=h;simp only[zJ,VRl];exact ⟨v,t++m',rfl,h2,VRl.append h3 k⟩
theorem zL7{w:World}{Z:Nat→Prop}{E:Env}{cs:Array Value}:∀{l:List PV} {o:Nat},VRc w Z E l o cs↔∀(j:Nat) (x:PV),l[j]?=some x→∃v,cs[o+j]?=some v∧v.oneCell'=true∧VR w Z E x v
 | [],o=>by simp[VRc]
 | x::l,o=>by
  simp only[VRc,zL7 (l:=l)];constructor
  ·rintro ⟨h1,h2⟩ j y hy
   cases j with
   |zero=>simp at hy;subst hy;exact h1
   |succ j=>
    simp at hy;obtain ⟨v,a,b⟩:=h2 j y hy;exact ⟨v,by rw[show o+(j+1)=o+1+j by omega];exact a,b⟩
  ·intro h;refine ⟨h 0 x (by simp),fun j y hy=>?_⟩;obtain ⟨v,a,b⟩:=h (j+1) y (by simpa using hy);exact ⟨v,by rw[show o+1+j=o+(j+1) by omega];exact a,b⟩
theorem zAM{w:World}{Z:Nat→Prop}{E:Env}{cs:Array Value}{wd:Nat}:∀{rs:List (List PV)} {o:Nat},(∀row∈rs,row.length=wd)→(VRr w Z E rs o cs↔∀(r:Nat) (row:List PV) (c:Nat) (x:PV),rs[r]?=some row→row[c]?=some x→
  ∃v,cs[o+(r*wd+c)]?=some v∧v.oneCell'=true∧VR w Z E x v)
 | [],o,_=>by simp[VRr]
 | row::rs,o,hl=>by
  have h0:=hl row (by simp);simp only[VRr,zL7,zAM (rs:=rs) (o:=o+row.length) (fun r hr=>hl r (by simp[hr]))];constructor
  ·rintro ⟨h1,h2⟩ r row' c x hr hc
   cases r with
   |zero=>
    simp at hr;subst hr;obtain ⟨v,a,b⟩:=h1 c x hc;exact ⟨v,by simpa using a,b⟩
   |succ r=>
    simp at hr;obtain ⟨v,a,b⟩:=h2 r row' c x hr hc;refine ⟨v,?_,b⟩;rw[show o+((r+1)*wd+c)=o+row.length+(r*wd+c) by rw[h0,wV];omega];exact a
  ·intro h;refine ⟨fun j x hx=>?_,fun r row' c x hr hc=>?_⟩
   ·obtain ⟨v,a,b⟩:=h 0 row j x (by simp) hx;exact ⟨v,by simpa using a,b⟩
   ·obtain ⟨v,a,b⟩:=h (r+1) row' c x (by simpa using hr) hc;refine ⟨v,?_,b⟩;rw[show o+row.length+(r*wd+c)=o+((r+1)*wd+c) by rw[h0,wV];omega];exact a
inductive SBlk where
 |rows (e:TypeId) (wd:Nat) (own pure:Bool) (rs:List (List PV))
 |map (own pure:Bool) (ks vs:List PV)
 |dead
 |cap (m:Nm) (k:Nat)
def SBlk.own:SBlk→Bool
 | .rows _ _ o _ _=>o
 | .map o _ _ _=>o
 | .dead=>false
 | .cap _ _=>false
def SBlk.live:SBlk→Bool
 | .dead=>false
 | .cap _ _=>false
 |_=>true
theorem zAe{b:SBlk}(h:b.own=true):b.live=true:=by cases b<;>first|rfl|cases h
def EE(E:Env)(pure:Bool):Env:=if pure then Env.no else E
theorem zSV{E E':Env}(h:E.le E')(p:Bool):(EE E p).le (EE E' p):=by cases p;exact h;exact Env.le.refl _
theorem zKT(E:Env)(p:Bool):(EE E p).le E:=by cases p;exact Env.le.refl _;exact zUT _
abbrev SF:=Nm→Option SBlk
def SF.set(F:SF)(n:Nm)(b:SBlk):SF:=fun k=>if k=n then some b else F k
def SF.upd(F:SF):List (Nm×SBlk)→SF
 | []=>F
 |(n,b)::l=>SF.upd (F.set n b) l
def Zn(E:Env)(F:SF)(w:World)(b:Nat):Prop:=
 b<w.heap.size∧∀n c i,F n=some c→c.own=true→E n=some i→i.z=false→i.b≠b
structure RowsRel (E:Env) (w:World) (Z:Nat→Prop) (i:BI) (e:TypeId) (wd:Nat) (own:Bool) (rs:List (List PV)):Prop where
 wd_eq:i.wd=wd
 o0:i.o=0
 wd_pos:0<wd
 len:∀r,r∈rs→r.length=wd
 le:rs.length≤i.n
 cap:i.n≤maxLen
 cells:∃cs fz,w.heap[i.b]?=some (.cells cs e fz)∧i.o+i.n*wd≤cs.size∧(own=true→∀j,i.o≤j→j<i.o+i.n*wd→¬(fz.1≤j∧j<fz.2))∧VRr w Z E rs i.o cs
def MRel(w:World)(Z:Nat→Prop)(E:Env)(ents:Array MapEntry)(ks vs:List PV):Prop:=
 VRl w Z E ks (ents.toList.map (·.key))∧VRl w Z E vs (ents.toList.map (·.val))
def BRel(E:Env)(w:World)(Z:Nat→Prop)(n:Nm):SBlk→Prop
 | .dead=>True
 | .cap m k=>∃i,E m=some i∧i.z=false∧i.n=k
 | .rows e wd own p rs=>∃i,E n=some i∧((i.z=true∧rs=[]∧i.wd=wd∧0<wd)∨(i.z=false∧RowsRel (EE E p) w Z i e wd own rs))
 | .map _ p ks vs=>∃i,E n=some i∧i.z=false∧∃ents clk,w.heap[i.b]?=some (.map ents clk)∧MRel w Z (EE E p) ents ks vs
structure HRel (E:Env) (F:SF) (w:World):Prop where
 blk:∀n b,F n=some b→BRel E w (Zn E F w) n b
 sep:∀n m b c i j,F n=some b→F m=some c→n≠m→b.own=true→c.live=true→E n=some i→E m=some j→i.z=false→j.z=false→i.b≠j.b
structure StepR (E:Env) (F:SF) (w:World) (E':Env) (F':SF) (w':World):Prop where
 le:E.le E'
 rel:HRel E' F' w'
 os:w'.os=w.os
 tape:w'.tape=w.tape
 output:w'.output=w.output
 size:w.heap.size≤w'.heap.size
 keep:∀k,k<w.heap.size→(∀n b i,F n=some b→b.own=true→E n=some i→i.z=false→i.b≠k)→w'.heap[k]?=w.heap[k]?
 own:∀n b i,F' n=some b→b.own=true→E' n=some i→i.z=false→
  w.heap.size≤i.b∨∃m c j,F m=some c∧c.own=true∧E m=some j∧j.z=false∧j.b=i.b
theorem StepR.refl{E:Env}{F:SF}{w:World}(h:HRel E F w):StepR E F w E F w:=
 ⟨Env.le.refl _,h,rfl,rfl,rfl,zH _,fun _ _ _=>rfl,fun n b i hf ho he hn=>.inr ⟨n,b,i,hf,ho,he,hn,rfl⟩⟩
theorem StepR.trans{E E' E'':Env}{F F' F'':SF}{w w' w'':World}(h:StepR E F w E' F' w')(k:StepR E' F' w' E'' F'' w''):StepR E F w E'' F'' w'' where
 le:=h.le.trans k.le
 rel:=k.rel
 os:=k.os.trans h.os
 tape:=k.tape.trans h.tape
 output:=k.output.trans h.output
 size:=vP h.size k.size
 keep:=fun b hb hno=>by
  have h1:=h.keep b hb hno;refine (k.keep b (vD hb h.size) ?_).trans h1;intro n c i hf ho he hn heq;rcases h.own n c i hf ho he hn with hge|⟨m,c',j,hf',ho',he',hn',hbb⟩;·omega
  ·exact hno m c' j hf' ho' he' hn' (hbb.trans heq)
 own:=fun n b i hf ho he hn=>by
  rcases k.own n b i hf ho he hn with hge|⟨m,c,j,hf',ho',he',hn',hbb⟩;·exact .inl (vP h.size hge)
  ·rcases h.own m c j hf' ho' he' hn' with hge|⟨m2,c2,j2,a1,a2,a3,a4,a5⟩;·exact .inl (by omega)
   ·exact .inr ⟨m2,c2,j2,a1,a2,a3,a4,a5.trans hbb⟩
theorem StepR.ext{E E':Env}{F F':SF}{w w':World}(h:StepR E F w E' F' w'):Ext E w (Zn E F w) E' w' (Zn E' F' w') where
 le:=h.le
 zone:=fun b ⟨h1,h2⟩=>⟨vD h1 h.size,fun n c i hf ho he hn heq=>by
  rcases h.own n c i hf ho he hn with hge|⟨m,c',j,hf',ho',he',hn',hbb⟩;·omega
  ·exact h2 m c' j hf' ho' he' hn' (hbb.trans heq)⟩
 heap:=fun b ⟨h1,h2⟩=>h.keep b h1 h2
theorem RowsRel.mono{E E':Env}{w w':World}{Z Z':Nat→Prop}{i:BI}{e:TypeId}{wd:Nat}{own:Bool}{rs:List (List PV)}(hE:Ext E w Z E' w' Z')
  (hw:w'.heap[i.b]?=w.heap[i.b]?)(h:RowsRel E w Z i e wd own rs):RowsRel E' w' Z' i e wd own rs:=by
 obtain ⟨a1,a0,a2,a3,a4,a6,cs,fz,b1,b2,b3,b4⟩:=h;exact ⟨a1,a0,a2,a3,a4,a6,cs,fz,hw.trans b1,b2,b3,VRr.mono hE _ _ _ b4⟩
theorem Ext.EE{E E':Env}{w w':World}{Z Z':Nat→Prop}(h:Ext E w Z E' w' Z')(p:Bool):Ext (EE E p) w Z (EE E' p) w' Z':=⟨zSV h.le p,h.zone,h.heap⟩
theorem BRel.mono{E E':Env}{w w':World}{Z Z':Nat→Prop}{n:Nm}{b:SBlk}(hE:Ext E w Z E' w' Z')(hw:∀i,E n=some i→i.z=false→w'.heap[i.b]?=w.heap[i.b]?)
  (h:BRel E w Z n b):BRel E' w' Z' n b:=by
 cases b with
 |dead=>trivial
 |cap m k=>obtain ⟨i,hi,h⟩:=h;exact ⟨i,hE.le _ _ hi,h⟩
 |rows e wd own p rs=>
  obtain ⟨i,hi,h⟩:=h;refine ⟨i,hE.le _ _ hi,h.imp id fun ⟨hn,hr⟩=>⟨hn,hr.mono (hE.EE p) (hw i hi hn)⟩⟩
 |map own p ks vs=>
  obtain ⟨i,hi,hn,ents,clk,h1,h2,h3⟩:=h;exact ⟨i,hE.le _ _ hi,hn,ents,clk,(hw i hi hn).trans h1,VRl.mono (hE.EE p) _ _ h2,VRl.mono (hE.EE p) _ _ h3⟩
theorem BRel.still{E E':Env}{w w':World}{Z Z':Nat→Prop}{n:Nm}{b:SBlk}(hl:¬b.live=true)(h:BRel E w Z n b)(hE:E.le E'):BRel E' w' Z' n b:=by
 cases b with
 |dead=>trivial
 |cap m k=>obtain ⟨i,hi,h⟩:=h;exact ⟨i,hE _ _ hi,h⟩
 |rows e wd own p rs=>exact absurd rfl hl
 |map own p ks vs=>exact absurd rfl hl
theorem zBl{w:World}{b:Nat}{o:Obj}(h:w.heap[b]?=some o):b<w.heap.size:=by
 rcases wT b w.heap.size with h'|h';·exact h'
 ·rw[qJ h']at h;cases h
theorem BRel.lt{E:Env}{w:World}{Z:Nat→Prop}{n:Nm}{b:SBlk}{i:BI}(h:BRel E w Z n b)(hl:b.live=true)(hi:E n=some i)(hn:i.z=false):i.b<w.heap.size:=by
 cases b with
 |dead=>cases hl
 |cap _ _=>cases hl
 |rows e wd own p rs=>
  obtain ⟨j,hj,h⟩:=h;rw[hi]at hj;injection hj with hj;subst hj;rcases h with ⟨h,_⟩|⟨_,h⟩;·rw[hn]at h;cases h
  ·obtain ⟨cs,fz,hb,_⟩:=h.cells;exact zBl hb
 |map own p ks vs=>
  obtain ⟨j,hj,_,ents,clk,hb,_⟩:=h;rw[hi]at hj;injection hj with hj;subst hj;exact zBl hb
theorem BRel.def_{E:Env}{w:World}{Z:Nat→Prop}{n:Nm}{b:SBlk}(h:BRel E w Z n b)(hl:b.live=true):∃i,E n=some i:=by
 cases b with
 |dead=>cases hl
 |cap _ _=>cases hl
 |rows e wd own p rs=>obtain ⟨i,hi,_⟩:=h;exact ⟨i,hi⟩
 |map own p ks vs=>obtain ⟨i,hi,_⟩:=h;exact ⟨i,hi⟩
theorem Zn.drew{E:Env}{F:SF}{w:World}{b d:Nat}:Zn E F {w with drawn:=d} b↔Zn E F w b:=Iff.rfl
theorem StepR.drew{E E':Env}{F F':SF}{w w':World}(h:StepR E F w E' F' w'):StepR E F w E' F' {w' with drawn:=w'.drawn+1}:=
 ⟨h.le,⟨fun n b hf=>BRel.mono (w:=w') (Z:=Zn E' F' w') ⟨Env.le.refl _,fun _ h=>h,fun _ _=>rfl⟩ (fun _ _ _=>rfl) (h.rel.blk n b hf),h.rel.sep⟩,h.os,h.tape,h.output,h.size,h.keep,h.own⟩
def Env.set(E:Env)(n:Nm)(i:BI):Env:=fun k=>if k=n then some i else E k
theorem zUV{E:Env}{n:Nm}{i:BI}(h:E n=none):E.le (E.set n i):=by
 intro k j hk;unfold Env.set;split;·rename_i hkn;subst hkn;rw[h]at hk;cases hk
 ·exact hk
theorem zUO(E:Env)(n:Nm)(i:BI):E.set n i n=some i:=by simp[Env.set]
theorem zUP(E:Env){n k:Nm}(i:BI)(h:k≠n):E.set n i k=E k:=by simp[Env.set,h]
structure NewAt (E:Env) (F:SF) (w:World) (E':Env) (F':SF) (w':World):Prop where
 le:E.le E'
 os:w'.os=w.os
 tape:w'.tape=w.tape
 output:w'.output=w.output
 size:w.heap.size≤w'.heap.size
 keep:∀k,k<w.heap.size→(∀n b i,F n=some b→b.own=true→E n=some i→i.z=false→i.b≠k)→w'.heap[k]?=w.heap[k]?
 own:∀n b i,F' n=some b→b.own=true→E' n=some i→i.z=false→
  w.heap.size≤i.b∨∃m c j,F m=some c∧c.own=true∧E m=some j∧j.z=false∧j.b=i.b
theorem NewAt.ext{E E':Env}{F F':SF}{w w':World}(h:NewAt E F w E' F' w'):Ext E w (Zn E F w) E' w' (Zn E' F' w') where
 le:=h.le
 zone:=fun b ⟨h1,h2⟩=>⟨vD h1 h.size,fun n c i hf ho he hn heq=>by
  rcases h.own n c i hf ho he hn with hge|⟨m,c',j,hf',ho',he',hn',hbb⟩;·omega
  ·exact h2 m c' j hf' ho' he' hn' (hbb.trans heq)⟩
 heap:=fun b ⟨h1,h2⟩=>h.keep b h1 h2
theorem NewAt.step{E E':Env}{F F':SF}{w w':World}(h:NewAt E F w E' F' w')(hr:HRel E' F' w'):StepR E F w E' F' w':=
 ⟨h.le,hr,h.os,h.tape,h.output,h.size,h.keep,h.own⟩
theorem zUY{E:Env}{F:SF}{w:World}(h:HRel E F w){nx:Nm}(hE:E nx=none)(o:Obj)(i:BI)(b:SBlk)(hib:i.b=w.heap.size)
  (hb:∀Z':Nat→Prop,(∀k,Zn E F w k→Z' k)→BRel (E.set nx i) (w.alloc o) Z' nx b):StepR E F w (E.set nx i) (F.set nx b) (w.alloc o):=by
 have hle:=zUV (i:=i) hE;have hkeep:∀k,k<w.heap.size→(w.alloc o).heap[k]?=w.heap[k]?:=fun k hk=>RowKit.Below.heap_alloc w o k hk
 have hold:∀n c j,F n=some c→c.live=true→E n=some j→j.z=false→j.b<w.heap.size:=fun n c j hf hl hj hn=>(h.blk n c hf).lt hl hj hn
 have hN:NewAt E F w (E.set nx i) (F.set nx b) (w.alloc o):=by
  refine ⟨hle,rfl,rfl,rfl,by simp,fun k hk _=>hkeep k hk,?_⟩;intro n c j hf ho hj hjn;unfold SF.set at hf;by_cases hn:n=nx
  ·subst hn;rw[zUO]at hj;injection hj with hj;subst hj;exact .inl (by omega)
  ·rw[if_neg hn]at hf;rw[zUP E _ hn]at hj;exact .inr ⟨n,c,j,hf,ho,hj,hjn,rfl⟩
 refine hN.step ⟨?_,?_⟩
 ·intro n c hf;unfold SF.set at hf;split at hf;·rename_i hn;subst hn;injection hf with hf;subst hf;exact hb _ hN.ext.zone
  ·rename_i hn;by_cases hl:c.live=true;rotate_left;·exact (h.blk n c hf).still hl hle
   refine (h.blk n c hf).mono hN.ext fun j hj hjn=>?_
   exact hkeep _ (hold n c j hf hl hj hjn)
 ·intro n m c d j k hf hg hnm ho hl hj hk hjn hkn;unfold SF.set at hf hg;by_cases hn:n=nx
  ·subst hn;rw[zUO]at hj;injection hj with hj;subst hj;rw[if_neg (fun e=>hnm e.symm)]at hg;rw[zUP E _ (fun e=>hnm e.symm)]at hk;have:=hold m d k hg hl hk hkn;omega
  ·rw[if_neg hn]at hf;rw[zUP E _ hn]at hj;have h1:=hold n c j hf (zAe ho) hj hjn;by_cases hm:m=nx
   ·subst hm;rw[zUO]at hk;injection hk with hk;subst hk;omega
   ·rw[if_neg hm]at hg;rw[zUP E _ hm]at hk;exact h.sep n m c d j k hf hg hnm ho hl hj hk hjn hkn
def zCt(w:World)(D:Nat):Prop:=∀o,w.heap[D]?=some o→(∀cs e fz,o≠ .cells cs e fz)∧(∀ents clk,o≠ .map ents clk)
structure Turn (D:Nat) (w w':World):Prop where
 os:w'.os=w.os
 tape:w'.tape=w.tape
 output:w'.output=w.output
 size:w'.heap.size=w.heap.size
 keep:∀k,k≠D→w'.heap[k]?=w.heap[k]?
mutual
theorem zUx{w:World}{Z:Nat→Prop}{D:Nat}(hD:zCt w D):∀{E:Env} (x:PV) (v:Value),VR w Z E x v→VR w (fun k=>Z k∧k≠D) E x v
 |E,.bool _,v,hv=>by simpa[VR] using hv
 |E,.int _ _,v,hv=>by simpa[VR] using hv
 |E,.str _,v,hv=>by simpa[VR] using hv
 |E,.nilP,v,hv=>by simpa[VR] using hv
 |E,.nilS,v,hv=>by simpa[VR] using hv
 |E,.nilM,v,hv=>by simpa[VR] using hv
 |E,.nilF,v,hv=>by simpa[VR] using hv
 |E,.nilI,v,hv=>by simpa[VR] using hv
 |E,.ptr n r c,v,hv=>by simpa only[VR] using hv
 |E,.sl n r l,v,hv=>by simpa only[VR] using hv
 |E,.mp n,v,hv=>by simpa only[VR] using hv
 |E,.fp wd rs r c,v,hv=>by
  simp only[VR]at hv ⊢;obtain ⟨b,o,cs,e,fz,h1,h2,h3,h4,h5,h6⟩:=hv;exact ⟨b,o,cs,e,fz,h1,⟨h2,fun he=>(hD _ (he ▸h3)).1 _ _ _ rfl⟩,h3,h4,h5,zUs hD rs o cs h6⟩
 |E,.fs wd rs,v,hv=>by
  simp only[VR]at hv ⊢;obtain ⟨a,cap,h1,h2,h2b,h3,h4,h5⟩:=hv;refine ⟨a,cap,h1,h2,h2b,h3,h4,h5.imp id ?_⟩
  rintro ⟨b,o,cs,e,fz,q1,q2,q3,q4⟩
  exact ⟨b,o,cs,e,fz,q1,⟨q2,fun he=>(hD _ (he ▸q3)).1 _ _ _ rfl⟩,q3,zUs hD rs o cs q4⟩
 |E,.fm ks vs,v,hv=>by
  simp only[VR]at hv ⊢;obtain ⟨r,ents,clk,h1,h2,h3,h4,h5⟩:=hv;exact ⟨r,ents,clk,h1,⟨h2,fun he=>(hD _ (he ▸h3)).2 _ _ rfl⟩,h3,zUd hD ks _ h4,zUd hD vs _ h5⟩
 |E,.fn f x y,v,hv=>by
  simp only[VR]at hv ⊢;obtain ⟨x',y',h1,h2,h3⟩:=hv;exact ⟨x',y',h1,zUd hD x _ h2,zUd hD y _ h3⟩
 |E,.ifc t u,v,hv=>by
  simp only[VR]at hv ⊢;obtain ⟨u',h1,h2⟩:=hv;exact ⟨u',h1,zUx hD u _ h2⟩
 |E,.agg l,v,hv=>by
  simp only[VR]at hv ⊢;obtain ⟨l',h1,h2,h3⟩:=hv;exact ⟨l',h1,h2,zUd hD l _ h3⟩
 |E,.tup l,v,hv=>by
  simp only[VR]at hv ⊢;obtain ⟨l',h1,h3⟩:=hv;exact ⟨l',h1,zUd hD l _ h3⟩
theorem zUd{w:World}{Z:Nat→Prop}{D:Nat}(hD:zCt w D):∀{E:Env} (l:List PV) (l':List Value),VRl w Z E l l'→VRl w (fun k=>Z k∧k≠D) E l l'
 |E,[],l',hv=>by simpa[VRl] using hv
 |E,x::l,l',hv=>by
  simp only[VRl]at hv ⊢;obtain ⟨v,t,h1,h2,h3⟩:=hv;exact ⟨v,t,h1,zUx hD x v h2,zUd hD l t h3⟩
theorem zU8{w:World}{Z:Nat→Prop}{D:Nat}(hD:zCt w D):∀{E:Env} (l:List PV) (o:Nat) (cs:Array Value),VRc w Z E l o cs→VRc w (fun k=>Z k∧k≠D) E l o cs
 |E,[],o,cs,hv=>by simp[VRc]
 |E,x::l,o,cs,hv=>by
  simp only[VRc]at hv ⊢;obtain ⟨⟨v,h1,h2,h3⟩,h4⟩:=hv;exact ⟨⟨v,h1,h2,zUx hD x v h3⟩,zU8 hD l _ _ h4⟩
theorem zUs{w:World}{Z:Nat→Prop}{D:Nat}(hD:zCt w D):∀{E:Env} (rs:List (List PV)) (o:Nat) (cs:Array Value),VRr w Z E rs o cs→VRr w (fun k=>Z k∧k≠D) E rs o cs
 |E,[],o,cs,hv=>by simp[VRr]
 |E,row::rs,o,cs,hv=>by
  simp only[VRr]at hv ⊢;exact ⟨zU8 hD row _ _ hv.1,zUs hD rs _ _ hv.2⟩
end
section
variable {E : Env} {F : SF} {w w' : World} {D : Nat}
theorem Turn.ext(ht:Turn D w w'):Ext E w (fun k=>Zn E F w k∧k≠D) E w' (Zn E F w'):=
 ⟨Env.le.refl _,fun b h=>⟨by rw[ht.size];exact h.1.1,h.1.2⟩,fun b h=>ht.keep b h.2⟩
theorem VR.turn(hD:zCt w D)(ht:Turn D w w'){x:PV}{v:Value}(h:VR w (Zn E F w) E x v):VR w' (Zn E F w') E x v:=VR.mono ht.ext _ _ (zUx hD _ _ h)
theorem VRl.turn(hD:zCt w D)(ht:Turn D w w'){x:List PV}{v:List Value}(h:VRl w (Zn E F w) E x v):VRl w' (Zn E F w') E x v:=VRl.mono ht.ext _ _ (zUd hD _ _ h)
theorem HRel.turn(h:HRel E F w)(hD:zCt w D)(ht:Turn D w w'):HRel E F w':=by
 refine ⟨fun n b hn=>?_,h.sep⟩;have h0:=h.blk n b hn;cases b with
 |dead=>trivial
 |cap _ _=>exact h0
 |rows e wd own p rs=>
  obtain ⟨i,hi,h1⟩:=h0;refine ⟨i,hi,h1.imp id fun ⟨hz,hr⟩=>⟨hz,?_⟩⟩;obtain ⟨a1,a0,a2,a3,a4,a6,cs,fz,b1,b2,b3,b4⟩:=hr;have hne:i.b≠D:=fun he=>(hD _ (he ▸b1)).1 _ _ _ rfl
  exact ⟨a1,a0,a2,a3,a4,a6,cs,fz,(ht.keep _ hne).trans b1,b2,b3,VRr.mono (ht.ext.EE p) _ _ _ (zUs hD _ _ _ b4)⟩
 |map own p ks vs=>
  obtain ⟨i,hi,hn,ents,clk,h1,h2,h3⟩:=h0;have hne:i.b≠D:=fun he=>(hD _ (he ▸h1)).2 _ _ rfl
  exact ⟨i,hi,hn,ents,clk,(ht.keep _ hne).trans h1,VRl.mono (ht.ext.EE p) _ _ (zUd hD _ _ h2),VRl.mono (ht.ext.EE p) _ _ (zUd hD _ _ h3)⟩
theorem StepR.turn{E0:Env}{F0:SF}{w0:World}(h:StepR E0 F0 w0 E F w)(hD:zCt w D)(ht:Turn D w w')(hn:w0.heap.size≤D):StepR E0 F0 w0 E F w' where
 le:=h.le
 rel:=h.rel.turn hD ht
 os:=ht.os.trans h.os
 tape:=ht.tape.trans h.tape
 output:=ht.output.trans h.output
 size:=by rw[ht.size];exact h.size
 keep:=fun b hb hno=>(ht.keep b (by omega)).trans (h.keep b hb hno)
 own:=h.own
theorem HRel.unowned(h:HRel E F w)(hD:zCt w D):∀n c i,F n=some c→c.own=true→E n=some i→i.z=false→i.b≠D:=by
 intro n c i hf ho he hz hb;have h0:=h.blk n c hf;cases c with
 |dead=>cases ho
 |cap _ _=>cases ho
 |rows e wd own p rs=>
  obtain ⟨j,hj,h1⟩:=h0;rw[he]at hj;injection hj with hj;subst hj;rcases h1 with ⟨h1,_⟩|⟨_,h1⟩;·rw[hz]at h1;cases h1
  ·obtain ⟨cs,fz,b1,_⟩:=h1.cells;exact (hD _ (hb ▸b1)).1 _ _ _ rfl
 |map own p ks vs=>
  obtain ⟨j,hj,_,ents,clk,h1,_⟩:=h0;rw[he]at hj;injection hj with hj;subst hj;exact (hD _ (hb ▸h1)).2 _ _ rfl
theorem HRel.inZone(h:HRel E F w)(hD:zCt w D)(hlt:D<w.heap.size):Zn E F w D:=⟨hlt,h.unowned hD⟩
theorem zBR{r:Loop}(h:w.heap[D]?=some (.loop r)):zCt w D:=fun o ho=>by
 rw[h]at ho;injection ho with ho;subst ho;exact ⟨fun _ _ _ h=>(nomatch h),fun _ _ h=>(nomatch h)⟩
theorem zBS{ds:Option (List Deferred)}(h:w.heap[D]?=some (.deferred ds)):zCt w D:=fun o ho=>by
 rw[h]at ho;injection ho with ho;subst ho;exact ⟨fun _ _ _ h=>(nomatch h),fun _ _ h=>(nomatch h)⟩
theorem zEx(w:World)(D:Nat)(o:Obj):Turn D w (w.putObj D o):=by
 refine ⟨rfl,rfl,rfl,by simp[World.putObj],fun k hk=>?_⟩;simp only[World.putObj];rw[Array.getElem?_setIfInBounds_ne (by omega)]
theorem StepR.turn2{E':Env}{F':SF}{v v':World}(h:StepR E F w E' F' w')(hD':zCt w' D)(t:Turn D w v)(t':Turn D w' v')(he:v'.heap[D]?=v.heap[D]?):StepR E F v E' F' v' where
 le:=h.le
 rel:=h.rel.turn hD' t'
 os:=(t'.os.trans h.os).trans t.os.symm
 tape:=(t'.tape.trans h.tape).trans t.tape.symm
 output:=(t'.output.trans h.output).trans t.output.symm
 size:=by rw[t.size,t'.size];exact h.size
 keep:=fun b hb hno=>by
  by_cases hD:b=D;·subst hD;exact he
  ·rw[t'.keep b hD,t.keep b hD];exact h.keep b (by rw[←t.size];exact hb) hno
 own:=fun n b i hf ho hi hz=>by rw[t.size];exact h.own n b i hf ho hi hz
theorem StepR.alloc(h:HRel E F w)(o:Obj):StepR E F w E F (w.alloc o):=by
 have hk:∀k,k<w.heap.size→(w.alloc o).heap[k]?=w.heap[k]?:=fun k hk=>Go.RowKit.Below.heap_alloc w o k hk
 have hX:Ext E w (Zn E F w) E (w.alloc o) (Zn E F (w.alloc o)):=⟨Env.le.refl _,fun b hb=>⟨by rw[World.size_alloc];exact Nat.lt_succ_of_lt hb.1,hb.2⟩,fun b hb=>hk b hb.1⟩;refine ⟨Env.le.refl _,⟨fun n b hn=>?_,h.sep⟩,rfl,rfl,rfl,by rw[World.size_alloc];omega,fun k h1 _=>hk k h1,fun n b i hf ho he hn=>.inr ⟨n,b,i,hf,ho,he,hn,rfl⟩⟩;have h0:=h.blk n b hn;by_cases hl:b.live=true
 ·exact h0.mono hX fun i hi hz=>hk _ (h0.lt hl hi hz)
 ·cases b<;>first|trivial|exact absurd rfl hl
end
end Go.Tx
end
section
namespace Go.Sx
def zES(P:Program)(K:Value→World→Prop):Result Next→Prop
 | .ok (.value v) w'=>K v w'
 | .ok .skip w'=>K undef w'
 | .ok (.enter f args) w'=>Calls P f args w' fun e w''=>∃v,e= .returned v∧K v w''
 |_=>False
def FreshIn(E E':Env)(nx:Nat):Prop:=∀k,E k=none→E' k≠none→nx≤k∧k<nx+1
theorem FreshIn.refl(E:Env)(nx:Nat):FreshIn E E nx:=fun _ h h'=>absurd h h'
theorem FreshIn.set{E:Env}{nx k:Nat}{i:BI}(h1:nx≤k)(h2:k<nx+1):FreshIn E (E.set k i) nx:=by
 intro q hq hq';by_cases h:q=k;·subst h;exact ⟨h1,h2⟩
 ·rw[zUP E _ h]at hq';exact absurd hq hq'
def Gives(E:Env)(F:SF)(nx:Nat)(w:World)(r:Res)(v':Value)(w':World):Prop:=
 ∃E',dv E' r.v=some v'∧StepR E F w E' (F.upd r.upd) w'∧FreshIn E E' nx
theorem Gives.still{E:Env}{F:SF}{nx:Nat}{w:World}{r:Res}{v':Value}(h:HRel E F w)(hu:r.upd=[])(hv:dv E r.v=some v'):Gives E F nx w r v' w:=
 ⟨E,hv,by rw[hu];exact StepR.refl h,FreshIn.refl _ _⟩
theorem zAO{α:Type}{l:List α}{r:Nat}(d:α)(h:r<l.length):l[r]?=some (l.getD r d):=by
 rw[zS h];simp[List.getD,h]
theorem zJf{E:Env}{n r c:Nat}{a':Addr}(h:dA E ⟨n,r,some c⟩=some a'):∃i,E n=some i∧i.nil=false∧a'=⟨i.b,i.o+(r*i.wd+c),none⟩:=by
 unfold dA at h;cases he:E n with
 |none=>simp[he]at h
 |some i=>
  simp only[he]at h;split at h;·cases h
  ·rename_i hn;injection h with h;exact ⟨i,rfl,by simpa using hn,h.symm⟩
theorem zAJ{E:Env}{F:SF}{w:World}(h:HRel E F w){n:Nat}{i:BI}{e:TypeId}{wd:Nat}{own ex:Bool}{rs:List (List Value)}(hF:F n=some (.rows e wd own ex rs))
  (hi:E n=some i)(hn:i.nil=false):RowsRel E w i e wd own ex rs:=by
 obtain ⟨j,hj,hor⟩:=h.blk n _ hF;rw[hi]at hj;injection hj with hj;subst hj;rcases hor with ⟨q,_⟩|⟨_,q⟩;·rw[hn]at q;cases q
 ·exact q
theorem zHc{P:Program}{T:Tys}(hT:T.Ok P){E:Env}{F:SF}{nx:Nat}{w:World}(h:HRel E F w){t:TypeId}{p p':Value}{r:Res}
  (hs:zBq T F t p=some r)(hv:r.vc)(hp:dv E p=some p'):∃v',(Instr.loadAt t p').run P w= .ok v' w∧Gives E F nx w r v' w:=by
 unfold zBq at hs;split at hs;rotate_left;·cases hs
 rename_i n row c;simp only[dv,zV]at hp;obtain ⟨a',ha,rfl⟩:=hp;obtain ⟨i,hi,hn,rfl⟩:=zJf ha;split at hs;rotate_left;·cases hs
 rename_i ti e wd own ex rs hti hF;have ht:=hT _ _ hti;have hR:=zAJ h hF hi hn;have hw:=hR.wd_eq;split at hs
 ·rename_i hagg;injection hs with hs;subst hs;obtain ⟨h1,h2⟩:=hv;have hrow:=zAO [] h1;obtain ⟨vs,a1,a2,a3,a4⟩:=hR.load P (c:=c) (k:=ti.size) hrow h2;refine ⟨.agg vs.toArray,?_,Gives.still h rfl ?_⟩
  ·simp only[Instr.loadAt,Instr.sureAddr,loadVar,zB,zI,zD,ht.run_isAgg w];simp only[zBp]at hagg;simp only[hagg,if_true,zB,zD,ht.run_sizeOf w];rw[hw,a4];rfl
  ·have hl:(if (c==0&&ti.size==wd)=true then rs.getD row [] else ((rs.getD row []).drop c).take ti.size)=((rs.getD row []).drop c).take ti.size:=by
    split
    ·rename_i hc;simp only[zC,beq_iff_eq]at hc;obtain ⟨rfl,hsz⟩:=hc;have:=hR.len _ (zO hrow);rw[uU,zQ (by omega)]
    ·rfl
   simp only[hl,dv,dva,a1,wJ,Option.bind_some];rw[if_pos (by simpa using a3)]
 ·rename_i hagg;injection hs with hs;subst hs;obtain ⟨h1,h2⟩:=hv;have hrow:=zAO [] h1;have hlen:=hR.len _ (zO hrow);have hcell:=zAO undef (l:=rs.getD row []) (r:=c) (by omega);obtain ⟨v',b1,_,b2⟩:=hR.cell hrow hcell;refine ⟨v',?_,Gives.still h rfl b1⟩;simp only[Instr.loadAt,Instr.sureAddr,loadVar,zB,zI,zD,ht.run_isAgg w];simp only[zBp]at hagg;simp only[hagg,wC,if_false];rw[hw];simp[b2]
theorem zGL{E:Env}{v v':Value}(h:dv E v=some v')(hc:zFQ v=true):
  dvl E (cellsOf v)=some (cellsOf v')∧∀u∈cellsOf v',u.oneCell'=true:=by
 have simple:∀x x':Value,cellsOf x=[x]→cellsOf x'=[x']→x'.oneCell'=true→dv E x=some x'→dvl E (cellsOf x)=some (cellsOf x')∧∀u∈cellsOf x',u.oneCell'=true:=by
  intro x x' e1 e2 e3 e4;rw[e1,e2];exact ⟨by simp[dvl,e4],by simpa using e3⟩
 cases v with
 |agg cs=>
  obtain ⟨l⟩:=cs;simp only[dv,dva,zM,zV]at h;obtain ⟨a,⟨l',h1,rfl⟩,h2⟩:=h;split at h2
  ·rename_i h3;injection h2 with h2;subst h2;exact ⟨h1,by simpa[cellsOf] using h3⟩
  ·cases h2
 |tuple cs=>simp[zFQ]at hc
 |chan r=>simp[dv]at h
 | pointer a=>
  cases a with
  |none=>simp[dv]at h;subst h;exact simple _ _ rfl rfl rfl (by simp[dv])
  |some a=>
   have h0:=h;simp only[dv,zV]at h;obtain ⟨a',_,rfl⟩:=h;exact simple _ _ rfl rfl rfl h0
 | slice a l c=>
  cases a with
  |none=>simp[dv]at h;subst h;exact simple _ _ rfl rfl rfl (by simp[dv])
  | some a=>
   have h0:=h;simp only[dv,dS]at h;split at h
   ·split at h
    ·split at h;·injection h with h;subst h;exact simple _ _ rfl rfl rfl h0
     ·cases h
    ·injection h with h;subst h;exact simple _ _ rfl rfl rfl h0
   ·cases h
 | map r=>
  cases r with
  |none=>simp[dv]at h;subst h;exact simple _ _ rfl rfl rfl (by simp[dv])
  | some r=>
   have h0:=h;simp only[dv,dM]at h;split at h
   ·split at h;·cases h
    ·injection h with h;subst h;exact simple _ _ rfl rfl rfl h0
   ·cases h
 |func f x y=>
  have h0:=h;simp only[dv,zM,zV]at h;obtain ⟨f',_,x',_,y',_,rfl⟩:=h;exact simple _ _ rfl rfl rfl h0
 |iface t u=>
  have h0:=h;simp only[dv,zV]at h;obtain ⟨x',_,rfl⟩:=h;exact simple _ _ rfl rfl rfl h0
 |_=>simp[dv]at h;subst h;exact simple _ _ rfl rfl rfl (by simp[dv])
theorem zGZ{P:Program}{T:Tys}(hT:T.Ok P){E:Env}{F:SF}{nx:Nat}{w:World}(h:HRel E F w){t:TypeId}{p p' v v':Value}{r:Res}
  (hs:zCB T F t p v=some r)(hvc:r.vc)(hp:dv E p=some p')(hv:dv E v=some v'):∃w',(Instr.storeAt t p' v').run P w= .ok () w'∧Gives E F nx w r undef w':=by
 unfold zCB at hs;split at hs;rotate_left;·cases hs
 rename_i n row c;simp only[dv,zV]at hp;obtain ⟨a',ha,rfl⟩:=hp;obtain ⟨i,hi,hn,rfl⟩:=zJf ha;split at hs;rotate_left;·cases hs
 rename_i ti e wd ex rs hti hF;have ht:=hT _ _ hti;have hR:=zAJ h hF hi hn;have hw:=hR.wd_eq;split at hs;rotate_left;·cases hs
 rename_i hc;injection hs with hs;subst hs;obtain ⟨h1,h2,h3⟩:=hvc;have hrow:=zAO [] h1;obtain ⟨c1,c2⟩:=zGL hv hc;have hl:(cellsOf v').length=ti.size:=by rw[(zBd c1).1,h3]
 obtain ⟨w',r1,r2⟩:=StepR.store P h hF hi hn hrow (c:=c) (by omega) c1 c2;refine ⟨w',?_,E,by simp[zD8 E undef rfl],r2,FreshIn.refl _ _⟩;have hsz:v'.cells.size=ti.size:=by rw[←vA,zAD,hl]
 simp only[Instr.storeAt,Instr.sureAddr,storeVar,zB,zI,zD,ht.run_sizeOf w,hsz,ne_eq,not_true_eq_false,if_false];rw[hw,zAD,r1]
theorem zCh(v:Value):v.cells=(cellsOf v).toArray:=by rw[←zAD]
theorem zBI(P:Program)(w:World)(t:TypeId)(v:Value):(newVar t v).run P w= .ok ⟨w.heap.size,0,none⟩ (w.alloc (.cells (cellsOf v).toArray t)):=by
 rw[←zCh];rfl
theorem zCu{E:Env}{w:World}{t:TypeId}{ti:TI}{vs vs':List Value}(nx:Nat)(hE:E nx=none)(hl:vs.length=ti.size)(hsz:0<ti.size)(hv:dvl E vs=some vs')(h1:∀u∈vs',u.oneCell'=true):
  BRel (E.set nx ⟨w.heap.size,0,ti.size,1,false⟩) (w.alloc (.cells vs'.toArray t)) nx (.rows t ti.size true true [vs]):=by
 have hle:=zUV (i:=⟨w.heap.size,0,ti.size,1,false⟩) hE;obtain ⟨g1,g2⟩:=zBd hv;refine ⟨_,zUO _ _ _,.inr ⟨rfl,rfl,hsz,by simpa using hl,by simp,by simp,by simp[maxLen],vs'.toArray,(0,0),?_,?_,?_,?_⟩⟩
 ·show (w.heap.push _)[w.heap.size]?=_;simp
 ·simp;omega
 ·intro _ j _ _;simp
 ·intro r row c v hr hc;cases r with
  |zero=>
   simp at hr;subst hr;obtain ⟨v',a1,a2⟩:=g2 c v hc;exact ⟨v',zCV hle _ _ a1,h1 v' (zO a2),by simpa using a2⟩
  |succ r=>simp at hr
theorem zGa{P:Program}{T:Tys}(hT:T.Ok P){E:Env}{F:SF}{nx:Nat}{w:World}(h:HRel E F w)(hE:E nx=none){t:TypeId}{r:Res}
  (hs:zCT T nx t none=some r):∃v' w',(Instr.alloc t true (.tuple #[])).run P w= .ok v' w'∧Gives E F nx w r v' w':=by
 unfold zCT at hs;split at hs;rotate_left;·cases hs
 rename_i ti hti;have ht:=hT _ _ hti;simp only at hs;split at hs;·cases hs
 rename_i hsz;injection hs with hs;subst hs;have hsz':0<ti.size:=by simp at hsz;omega
 have hz:=zCs E _ ht.pl;refine ⟨.pointer (some ⟨w.heap.size,0,none⟩),w.alloc (.cells (cellsOf ti.zero).toArray t),?_,E.set nx ⟨w.heap.size,0,ti.size,1,false⟩,?_,?_,?_⟩;·simp[Instr.alloc,ht.run_zeroValue w,zBI]
 ·simp[dv,dA,zUO]
 ·have hb:=zCu (w:=w) (t:=t) (ti:=ti) nx hE ht.sz hsz' hz (by simpa using ht.one);exact zUY h hE _ ⟨w.heap.size,0,ti.size,1,false⟩ _ rfl hb
 ·exact FreshIn.set (zH _) (by omega)
theorem zIt{P:Program}{T:Tys}{E:Env}{F:SF}{nx:Nat}{w:World}(h:HRel E F w)(hE:E nx=none){t:TypeId}{v v':Value}{r:Res}
  (hs:zCT T nx t (some v)=some r)(hvc:r.vc)(hv:dv E v=some v'):∃u' w',(Instr.box t v').run P w= .ok u' w'∧Gives E F nx w r u' w':=by
 unfold zCT at hs;split at hs;rotate_left;·cases hs
 rename_i ti hti;simp only at hs;split at hs;·cases hs
 rename_i hsz;injection hs with hs;subst hs;simp only[vV,beq_iff_eq,qM,not_or,Bool.not_eq_false]at hsz;have hsz':0<ti.size:=by omega
 obtain ⟨c1,c2⟩:=zGL hv hsz.2;refine ⟨.pointer (some ⟨w.heap.size,0,none⟩),w.alloc (.cells (cellsOf v').toArray t),?_,E.set nx ⟨w.heap.size,0,ti.size,1,false⟩,?_,?_,?_⟩;·simp[Instr.box,zBI]
 ·simp[dv,dA,zUO]
 ·have hb:=zCu (w:=w) (t:=t) (ti:=ti) nx hE hvc hsz' c1 c2;exact zUY h hE _ ⟨w.heap.size,0,ti.size,1,false⟩ _ rfl hb
 ·exact FreshIn.set (zH _) (by omega)
structure RowsA (E:Env) (wd:Nat) (rs:List (List Value)) (cs:Array Value):Prop where
 len:∀r,r∈rs→r.length=wd
 size:cs.size=rs.length*wd
 cell:∀(r:Nat) (row:List Value) (c:Nat) (v:Value),rs[r]?=some row→row[c]?=some v→∃v',dv E v=some v'∧v'.oneCell'=true∧cs[r*wd+c]?=some v'
theorem zAB{α:Type}{l:List α}{j:Nat}{v:α}(h:l[j]?=some v):j<l.length:=by
 rcases wT j l.length with h'|h';·exact h'
 ·rw[uA h']at h;cases h
theorem RowsA.set{E:Env}{wd:Nat}{rs:List (List Value)}{cs:Array Value}(h:RowsA E wd rs cs){r:Nat}{vs vs':List Value}(hr:r<rs.length)
  (hv:dvl E vs=some vs')(hl:vs.length=wd)(h1:∀u∈vs',u.oneCell'=true):RowsA E wd (rs.set r vs) (zF7 cs (r*wd) vs'):=by
 obtain ⟨g1,g2⟩:=zBd hv;have hm:(r+1)*wd≤rs.length*wd:=wN _ hr;have he:(r+1)*wd=r*wd+wd:=wV r wd;have hs:=h.size;refine ⟨?_,by rw[zAw,h.size];simp,?_⟩
 ·intro x hx;rcases qW hx with hx|rfl;·exact h.len x hx
  ·exact hl
 ·intro r' row c v hr' hc;rw[zA5 _ _ _ _ (by omega)];by_cases hrr:r=r'
  ·subst hrr;rw[List.getElem?_set_self hr]at hr';injection hr' with hr';subst hr';have:=zAB hc;obtain ⟨v',a1,a2⟩:=g2 c v hc;rw[if_pos (by omega),show r*wd+c-r*wd=c by omega];exact ⟨v',a1,h1 v' (zO a2),a2⟩
  ·rw[List.getElem?_set_ne hrr]at hr';have hc':c<wd:=by have:=zAB hc;have:=h.len _ (zO hr');omega
   rw[if_neg];·exact h.cell r' row c v hr' hc
   ·rintro ⟨q1,q2⟩
    obtain ⟨x,hx⟩:∃x,r'*wd+c=r*wd+x:=⟨r'*wd+c-r*wd,by omega⟩;exact hrr (zD7 hc' (by omega:x<wd) hx).1.symm
theorem zFR{n:Nat}(f:Nat→Value)(j:Nat)(h:j<n):((Array.range n).map f)[j]?=some (f j):=by
 simp[h]
theorem RowsA.replicate{E:Env}{zs:List Value}{z:Array Value}(hz:dvl E zs=some z.toList)(h1:∀u∈z.toList,u.oneCell'=true)(n wd:Nat)(hwd:zs.length=wd):
  RowsA E wd (List.replicate n zs) ((Array.range (n*wd)).map (z[· %z.size]!)):=by
 obtain ⟨g1,g2⟩:=zBd hz;have hzs:z.size=wd:=by simp at g1;omega
 refine ⟨fun r hr=>?_,by simp,?_⟩;·rw[qG hr];exact hwd
 ·intro r row c v hr hc;have hrl:=zAB hr;have hrow:=qG (zO hr);subst hrow;have hcl:=zAB hc;simp at hrl;have hm:(r+1)*wd≤n*wd:=wN _ hrl;have he:(r+1)*wd=r*wd+wd:=wV r wd;obtain ⟨v',a1,a2⟩:=g2 c v hc;refine ⟨v',a1,h1 v' (zO a2),?_⟩;rw[zFR _ _ (by omega)];have hmod:(r*wd+c)%z.size=c:=by
   rw[hzs,Nat.add_comm,Nat.add_mul_mod_self_right,wD (by omega)]
  rw[hmod];have:z[c]?=some v':=by rw[←vZ];exact a2
  simp[getElem!_def,this]
theorem zKU{E:Env}{w:World}{nx:Nat}{t:TypeId}{wd:Nat}{rs:List (List Value)}{cs:Array Value}(hE:E nx=none)(hwd:0<wd)(h:RowsA E wd rs cs)(hcap:rs.length≤maxLen):
  BRel (E.set nx ⟨w.heap.size,0,wd,rs.length,false⟩) (w.alloc (.cells cs t)) nx (.rows t wd true true rs):=by
 have hle:=zUV (i:=⟨w.heap.size,0,wd,rs.length,false⟩) hE;refine ⟨_,zUO _ _ _,.inr ⟨rfl,rfl,hwd,h.len,zH _,fun _=>rfl,hcap,cs,(0,0),?_,?_,?_,?_⟩⟩
 ·show (w.heap.push _)[w.heap.size]?=_;simp
 ·have:=h.size;simp;omega
 ·intro _ j _ _;simp
 ·intro r row c v hr hc;obtain ⟨v',a1,a2,a3⟩:=h.cell r row c v hr hc;exact ⟨v',zCV hle _ _ a1,a2,by simpa using a3⟩
theorem zHd(off:Nat):∀(l:List Value) (k:Nat) (cs:Array Value),(l.zipIdx k).foldl (fun cs (x:Value×Nat)=>cs.setIfInBounds (off+x.2) x.1) cs=zF7 cs (off+k) l
 | [],_,_=>rfl
 |v::l,k,cs=>by
  simp only[List.zipIdx_cons,List.foldl_cons,zF7];exact zHd off l (k+1) _
theorem zCX(off:Nat)(v:Value)(cs:Array Value):v.cells.zipIdx.foldl (fun cs (x:Value×Nat)=>cs.setIfInBounds (off+x.2) x.1) cs=zF7 cs off (cellsOf v):=by
 rw[←Array.foldl_toList,Array.toList_zipIdx,zAD];exact zHd off _ 0 cs
def zDl(place:Nat→Option (Nat×Nat))(cells:List Value):List (Nat×Value)→Option (Prop×List Value)
 | []=>some (True,cells)
 | (i,v)::rest=>
  match place i with
  |none=>none
  | some (off,size)=>
   if zFQ v then
    match zDl place (putAt cells off (cellsOf v)) rest with
    |none=>none
    |some (p,cs)=>some ((cellsOf v).length=size∧off+size≤cells.length∧p,cs)
   else none
theorem zL8{E:Env}{l vs:List Value}{l':Array Value}{vs':List Value}(hl:dvl E l=some l'.toList)(hv:dvl E vs=some vs'){c:Nat}(h:c+vs.length≤l.length):
  dvl E (putAt l c vs)=some (zF7 l' c vs').toList:=by
 obtain ⟨a1,a2⟩:=zBd hl;obtain ⟨b1,b2⟩:=zBd hv;obtain ⟨r,hr⟩:=zKS (E:=E) (putAt l c vs) (by
  intro v hm;obtain ⟨j,hj⟩:=vW hm;rw[zCr _ _ _ h]at hj;split at hj;·obtain ⟨v',q,_⟩:=b2 _ _ hj;exact ⟨v',q⟩
  ·obtain ⟨v',q,_⟩:=a2 _ _ hj;exact ⟨v',q⟩)
 obtain ⟨c1,c2⟩:=zBd hr;rw[hr];congr 1;apply List.ext_getElem?;intro j;simp only[vA]at a1;rw[show (zF7 l' c vs').toList[j]?=(zF7 l' c vs')[j]? from vZ,zA5 _ _ _ _ (by omega)];by_cases hj:j<(putAt l c vs).length
 ·have hget:(putAt l c vs)[j]?=some ((putAt l c vs)[j]):=zS hj;obtain ⟨v',q1,q2⟩:=c2 j _ hget;rw[q2];rw[zCr _ _ _ h]at hget;rw[zBQ _ _ _ h]at hj;rw[b1];split
  ·rename_i hin;rw[if_pos hin]at hget;obtain ⟨v2,q3,q4⟩:=b2 _ _ hget;rw[q1]at q3;injection q3 with q3;subst q3;exact q4.symm
  ·rename_i hin;rw[if_neg hin]at hget;obtain ⟨v2,q3,q4⟩:=a2 _ _ hget;rw[q1]at q3;injection q3 with q3;subst q3;rw[vZ]at q4;exact q4.symm
 ·have e1:r[j]?=none:=uA (by omega);rw[zBQ _ _ _ h]at hj;rw[e1,if_neg (by omega),qJ (by omega)]
theorem zH4{l:Array Value}(h:∀u∈l.toList,u.oneCell'=true):∀(vs:List Value) (c:Nat),(∀u∈vs,u.oneCell'=true)→c+vs.length≤l.size→∀u∈(zF7 l c vs).toList,u.oneCell'=true:=by
 intro vs c hv hs u hu;obtain ⟨j,hj⟩:=vW hu;rw[vZ,zA5 _ _ _ _ hs]at hj;split at hj;·exact hv u (zO hj)
 ·rw[←vZ]at hj;exact h u (zO hj)
inductive PRel (E:Env):List (Nat×Value)→List (Nat×Value)→Prop
 |nil:PRel E [] []
 |cons {i:Nat} {v v':Value} {l l':List (Nat×Value)} (h:dv E v=some v') (t:PRel E l l'):PRel E ((i,v)::l) ((i,v')::l')
theorem zCv{E:Env}{place:Nat→Option (Nat×Nat)}:∀{parts parts':List (Nat×Value)},PRel E parts parts'→∀{cells:List Value} {cells':Array Value} {p:Prop} {cs:List Value},
  zDl place cells parts=some (p,cs)→p→dvl E cells=some cells'.toList→(∀u∈cells'.toList,u.oneCell'=true)→
  ∃cs',Instr.fill place cells' parts'=some cs'∧dvl E cs=some cs'.toList∧(∀u∈cs'.toList,u.oneCell'=true):=by
 intro parts parts' hP;induction hP with
 |nil=>
  intro cells cells' p cs h hp hd h1;simp only[zDl,zZ,wL]at h;obtain ⟨_,rfl⟩:=h;exact ⟨cells',rfl,hd,h1⟩
 | @cons i v v' l l' hv _ ih=>
  intro cells cells' p cs h hp hd h1;simp only[zDl]at h;split at h;·cases h
  rename_i off size hpl;split at h;rotate_left;·cases h
  rename_i hok;split at h;·cases h
  rename_i q cs0 hq;simp only[zZ,wL]at h;obtain ⟨rfl,rfl⟩:=h;obtain ⟨p1,p2,p3⟩:=hp;obtain ⟨c1,c2⟩:=zGL hv hok;have hlv:(cellsOf v').length=size:=by rw[(zBd c1).1,p1]
  have hlc:=(zBd hd).1;simp only[vA]at hlc;have hd':=zL8 hd c1 (c:=off) (by omega);obtain ⟨cs',r1,r2,r3⟩:=ih hq p3 hd' (zH4 h1 _ _ c2 (by omega));refine ⟨cs',?_,r2,r3⟩;have hsz:v'.cells.size=size:=by rw[←vA,zAD,hlv]
  simp only[Instr.fill,hpl];rw[if_neg (by simp[hsz];omega)];rw[←r1];congr 1;exact zCX off v' cells'
end Go.Sx
end
